/-
  WHAT THE FUNCTIONS COME TO: each is read by the evaluator, printed, and told as a function of data, part 1 of 8 (no condition).
-/
import Derived.Test.YtcbaodegkfokjaaDoorEv3
import Derived.Test.YtcbaodegkfokjaaDoorProg
import Derived.KernelRfl
namespace Go.Proofs.YtcbaodegkfokjaaDoor.W
open Go.Proofs.YtcbaodegkfokjaaDoor.Ev
set_option maxRecDepth 100000
noncomputable section
noncomputable def E0 : Env := envOf Tryd.prog [7, 8, 23, 24, 73, 74, 75, 76, 79, 80, 92] [(51, 3), (55, 1)] []
noncomputable def C21 : Code := Tryd.f21.body.getD .skip
noncomputable def B21 : D := (annot C21 [[], []]).1
noncomputable def F21 (self : EV) (N : Nat) (x0 x1 : V) (S : St) : Rs := runF E0 self N Tryd.f21 B21 [x0, x1] S
theorem F21_eq (self : EV) (N : Nat) (x0 x1 : V) (S : St) : F21 self N x0 x1 S =
callP (self.f 31 [x0, x1, (.int .i64 0)] S) fun t3 S3 =>
some (.ret t3, S3) := by kernel_rfl
noncomputable def C31 : Code := Tryd.f31.body.getD .skip
noncomputable def B31 : D := (annot C31 [[], []]).1
noncomputable def F31 (self : EV) (N : Nat) (x0 x1 x2 : V) (S : St) : Rs := runF E0 self N Tryd.f31 B31 [x0, x1, x2] S
theorem F31_eq (self : EV) (N : Nat) (x0 x1 x2 : V) (S : St) : F31 self N x0 x1 x2 S =
(boxK 9 x0 S).bind fun p0 =>
(boxK 9 x1 p0.2).bind fun p1 =>
(boxK 3 x2 p1.2).bind fun p2 =>
some (.ret (.fn (.func 44) [] [p1.1, p0.1, p2.1]), p2.2) := by kernel_rfl
noncomputable def C43 : Code := Tryd.f43.body.getD .skip
noncomputable def B43 : D := (annot C43 [[], []]).1
noncomputable def F43 (self : EV) (N : Nat) (x0 x1 : V) (S : St) : Rs := runF E0 self N Tryd.f43 B43 [x0, x1] S
theorem F43_eq (self : EV) (N : Nat) (x0 x1 : V) (S : St) : F43 self N x0 x1 S =
callP (self.f 52 [x0, x1] S) fun t3 S3 =>
some (.ret t3, S3) := by kernel_rfl
noncomputable def C48 : Code := Tryd.f48.body.getD .skip
noncomputable def B48 : D := (annot C48 [[], []]).1
noncomputable def F48 (self : EV) (N : Nat) (x0 x1 : V) (S : St) : Rs := runF E0 self N Tryd.f48 B48 [x0, x1] S
theorem F48_eq (self : EV) (N : Nat) (x0 x1 : V) (S : St) : F48 self N x0 x1 S =
callP (callK E0 self (.fn (.func 55) [] []) [x0, x1] S) fun t3 S3 =>
some (.ret t3, S3) := by kernel_rfl
noncomputable def C52 : Code := Tryd.f52.body.getD .skip
noncomputable def B52 : D := (annot C52 [[], [], [], [], [], [], [], [], [], [], [], [], [], [], [], [], [0, 1, 5, 6, 7, 8, 9, 10], [], [], [], [], [], [], [], [], [0, 0, 1, 5, 6, 7, 8, 9, 10], [0, 1, 5, 6, 7, 8, 9, 10], [], [], [], [], [], [], [], [], [], [], [], [], [], [], [], [], [], [0], [4], []]).1
noncomputable def F52 (self : EV) (N : Nat) (x0 x1 : V) (S : St) : Rs := runF E0 self N Tryd.f52 B52 [x0, x1] S
theorem F52_eq (self : EV) (N : Nat) (x0 x1 : V) (S : St) : F52 self N x0 x1 S =
(lnStr x1 S).bind fun p2 =>
(binV E0 .eql 3 false true p2.1 (.int .i64 0)).bind fun t5 =>
(guardV false t5).bind fun g7 => (bif g7 then some x1 else some (.tuple [])).bind fun t7 =>
(guardV false t5).bind fun g8 => (bif g8 then some x0 else some (.tuple [])).bind fun t8 =>
(guardV false t5).bind fun g9 => (bif g9 then binV E0 .eql 9 false false t7 t8 else some (.tuple [])).bind fun t9 =>
(pickV t5 (some (.bool true)) (some t9)).bind fun t10 =>
ifK t10 (
some (.ret (.int .i64 0), p2.2)) (
(binV E0 .eql 3 false true p2.1 (.int .i64 1)).bind fun t14 =>
ifK t14 (
(ixS x1 (.int .i64 0)).bind fun t18 =>
callP (self.f 48 [x0, t18] p2.2) fun t19 S19 =>
some (.ret t19, S19)) (
(lnStr x0 p2.2).bind fun p23 =>
(binV E0 .geq 3 false false p2.1 p23.1).bind fun t24 =>
ifK t24 (
some (.ret (.int .i64 (-1)), p23.2)) (
none))) := by kernel_rfl
end
end Go.Proofs.YtcbaodegkfokjaaDoor.W
namespace Go.Proofs.YtcbaodegkfokjaaDoor.W
open Go.Proofs.YtcbaodegkfokjaaDoor.Ev
set_option maxRecDepth 100000
noncomputable section
noncomputable def C44 : Code := Tryd.f44.body.getD .skip
noncomputable def B44 : D := (annot C44 [[], [0, 2], [], [], [], [], [], [], [0], [0, 1, 2, 3], [0, 0, 1, 2, 3], [], [0, 1, 2, 3], [], [], [0, 2], [], [], [], [], [0, 0, 2], []]).1
noncomputable def RL44 : List Nat := cellsOf Tryd.f44.results.toList
noncomputable def R44_0 (self : EV) (N : Nat) (nk : Ac → St → Rs) (ek : Nat → Ac → St → Rs) (a : Ac) (S : St) : Rs := projK [0, 1, 2, 3] a fun a => dr E0 self RL44 N (B44).r (mkK E0 self Tryd.f44 nk ek) a S
noncomputable def R44_1 (self : EV) (N : Nat) (nk : Ac → St → Rs) (ek : Nat → Ac → St → Rs) (a : Ac) (S : St) : Rs := projK [0, 2] a fun a => dr E0 self RL44 N (B44.r.l).r (mkK E0 self Tryd.f44 nk ek) a S
theorem R44_1_eq (self : EV) (N : Nat) (nk : Ac → St → Rs) (ek : Nat → Ac → St → Rs) ( v0 v2 : V) (S : St) : R44_1 self N nk ek (fr 52 [(0, v0), (2, v2)]) S =
(ld1 v2 S).bind fun p3 =>
callP (callK E0 self v0 [p3.1] p3.2) fun t4 S4 =>
nk (fr 52 []) S4 := by kernel_rfl
noncomputable def L44_5 (self : EV) (N : Nat) (nk : Ac → St → Rs) (ek : Nat → Ac → St → Rs) (n : Nat) ( v0 v1 v2 v3 : V) (S : St) : Rs := loopK [0, 1, 2, 3] (dr E0 self RL44 N (B44.r.l.l.l.l)) (mkK E0 self Tryd.f44 nk ek) n (fr 52 [(0, v0), (1, v1), (2, v2), (3, v3)]) S
theorem L44_5_eq (self : EV) (N : Nat) (nk : Ac → St → Rs) (ek : Nat → Ac → St → Rs) (n : Nat) ( v0 v1 v2 v3 : V) (S : St) : L44_5 self N nk ek (n + 1) v0 v1 v2 v3 S =
(ld1 v2 S).bind fun p6 =>
(ld1 v1 p6.2).bind fun p7 =>
callP (self.f 43 [p6.1, p7.1] p7.2) fun t8 S8 =>
(binV E0 .lss 3 false true t8 (.int .i64 0)).bind fun t11 =>
ifK t11 (
ek 2 (fr 52 [(0, v0), (2, v2)]) S8) (
(ld1 v2 S8).bind fun p12 =>
(ld1 v3 p12.2).bind fun p14 =>
(binV E0 .add 3 false false t8 p14.1).bind fun t15 =>
(sliceV E0 9 p12.1 none (some t15) none p14.2).bind fun p16 =>
callP (callK E0 self v0 [p16.1] p16.2) fun t20 S20 =>
(unV .not t20).bind fun t21 =>
ifK t21 (
some (.ret (.tuple []), S20)) (
(ld1 v2 S20).bind fun p22 =>
(ld1 v1 p22.2).bind fun p24 =>
(lnStr p24.1 p24.2).bind fun p25 =>
(binV E0 .add 3 false false t8 p25.1).bind fun t26 =>
(sliceV E0 9 p22.1 (some t26) none none p25.2).bind fun p27 =>
(stP 1 v2 p27.1 p27.2).bind fun p28 =>
L44_5 self N nk ek n v0 v1 v2 v3 p28.2)) := by kernel_rfl
theorem R44_0_eq (self : EV) (N : Nat) (nk : Ac → St → Rs) (ek : Nat → Ac → St → Rs) ( v0 v1 v2 v3 : V) (S : St) : R44_0 self N nk ek (fr 52 [(0, v0), (1, v1), (2, v2), (3, v3)]) S =
L44_5 self N (R44_1 self N (fun a s => projK [] a fun a => nk a s) ek) (exB 2 (R44_1 self N (fun a s => projK [] a fun a => nk a s) ek) ek) N v0 v1 v2 v3 S := by kernel_rfl
noncomputable def R44_32 (self : EV) (N : Nat) (nk : Ac → St → Rs) (ek : Nat → Ac → St → Rs) (a : Ac) (S : St) : Rs := projK [] a fun a => dr E0 self RL44 N (B44.l.r.l).r (mkK E0 self Tryd.f44 nk ek) a S
noncomputable def L44_33 (self : EV) (N : Nat) (nk : Ac → St → Rs) (ek : Nat → Ac → St → Rs) (n : Nat) ( v0 v2 : V) (S : St) : Rs := loopK [0, 2] (dr E0 self RL44 N (B44.l.r.l.l.l.l)) (mkK E0 self Tryd.f44 nk ek) n (fr 52 [(0, v0), (2, v2)]) S
noncomputable def F44 (self : EV) (N : Nat) (x0 x1 x2 x3 : V) (S : St) : Rs := runF E0 self N Tryd.f44 B44 [x0, x1, x2, x3] S
theorem F44_eq (self : EV) (N : Nat) (x0 x1 x2 x3 : V) (S : St) : F44 self N x0 x1 x2 x3 S =
(ld1 x1 S).bind fun p29 =>
(lnStr p29.1 p29.2).bind fun p30 =>
(binV E0 .eql 3 false true p30.1 (.int .i64 0)).bind fun t31 =>
ifK t31 (
L44_33 self N (R44_32 self N (R44_0 self N (finN E0 self Tryd.f44) noEx) noEx) (exB 0 (R44_32 self N (R44_0 self N (finN E0 self Tryd.f44) noEx) noEx) noEx) N x0 x2 p30.2) (
R44_0 self N (finN E0 self Tryd.f44) noEx (fr 52 [(0, x0), (1, x1), (2, x2), (3, x3)]) p30.2) := by kernel_rfl
noncomputable def C22 : Code := Tryd.f22.body.getD .skip
noncomputable def B22 : D := (annot C22 [[], [], [0, 1, 7, 8], [], [], [], [], [], [], [], [0], [4], []]).1
noncomputable def RL22 : List Nat := cellsOf Tryd.f22.results.toList
noncomputable def R22_1 (self : EV) (N : Nat) (nk : Ac → St → Rs) (ek : Nat → Ac → St → Rs) (a : Ac) (S : St) : Rs := projK [] a fun a => dr E0 self RL22 N (B22.r).r (mkK E0 self Tryd.f22 nk ek) a S
theorem R22_1_eq (self : EV) (N : Nat) (nk : Ac → St → Rs) (ek : Nat → Ac → St → Rs) (S : St) : R22_1 self N nk ek (fr 19 []) S =
some (.ret (.int .i64 (-1)), S) := by kernel_rfl
noncomputable def L22_6 (self : EV) (N : Nat) (nk : Ac → St → Rs) (ek : Nat → Ac → St → Rs) (n : Nat) ( v0 v1 v7 v8 : V) (S : St) : Rs := loopK [0, 1, 7, 8] (dr E0 self RL22 N (B22.r.l.r.l.l)) (mkK E0 self Tryd.f22 nk ek) n (fr 19 [(0, v0), (1, v1), (7, v7), (8, v8)]) S
theorem L22_6_eq (self : EV) (N : Nat) (nk : Ac → St → Rs) (ek : Nat → Ac → St → Rs) (n : Nat) ( v0 v1 v7 v8 : V) (S : St) : L22_6 self N nk ek (n + 1) v0 v1 v7 v8 S =
(binV E0 .lss 3 false false v8 v7).bind fun t7 =>
ifK t7 (
(ixP 5 v0 v8).bind fun t13 =>
(ldA 5 t13 S).bind fun p14 =>
callP (callK E0 self v1 [p14.1] p14.2) fun t15 S15 =>
ifK t15 (
some (.ret v8, S15)) (
(binV E0 .add 3 false true v8 (.int .i64 1)).bind fun t18 =>
L22_6 self N nk ek n v0 v1 v7 t18 S15)) (
ek 0 (fr 19 []) S) := by kernel_rfl
noncomputable def F22 (self : EV) (N : Nat) (x0 x1 : V) (S : St) : Rs := runF E0 self N Tryd.f22 B22 [x0, x1] S
theorem F22_eq (self : EV) (N : Nat) (x0 x1 : V) (S : St) : F22 self N x0 x1 S =
(lnS x0 S).bind fun p4 =>
L22_6 self N (R22_1 self N (finN E0 self Tryd.f22) noEx) (exB 0 (R22_1 self N (finN E0 self Tryd.f22) noEx) noEx) N x0 x1 p4.1 (.int .i64 0) p4.2 := by kernel_rfl
noncomputable def C23 : Code := Tryd.f23.body.getD .skip
noncomputable def B23 : D := (annot C23 [[], []]).1
noncomputable def F23 (self : EV) (N : Nat) (x0 x1 : V) (S : St) : Rs := runF E0 self N Tryd.f23 B23 [x0, x1] S
theorem F23_eq (self : EV) (N : Nat) (x0 x1 : V) (S : St) : F23 self N x0 x1 S =
(boxK 24 x0 S).bind fun p0 =>
(faP 0 false 1 p0.1).bind fun t2 =>
(ld1 t2 p0.2).bind fun p3 =>
(ld1 x1 p3.2).bind fun p4 =>
(binV E0 .eql 9 false false p3.1 p4.1).bind fun t5 =>
some (.ret t5, p4.2) := by kernel_rfl
noncomputable def C7 : Code := Tryd.f7.body.getD .skip
noncomputable def B7 : D := (annot C7 [[], [], [], [], [], [0, 2, 4, 5], [4, 5], []]).1
noncomputable def RL7 : List Nat := cellsOf Tryd.f7.results.toList
noncomputable def R7_8 (self : EV) (N : Nat) (nk : Ac → St → Rs) (ek : Nat → Ac → St → Rs) (a : Ac) (S : St) : Rs := projK [2, 4, 5] a fun a => dr E0 self RL7 N (B7.r.r).r (mkK E0 self Tryd.f7 nk ek) a S
theorem R7_8_eq (self : EV) (N : Nat) (nk : Ac → St → Rs) (ek : Nat → Ac → St → Rs) (ds : List AD) ( v2 v4 v5 : V) (S : St) : R7_8 self N nk ek (frD 34 [(2, v2), (4, v4), (5, v5)] ds) S =
(ldA 5 v2 S).bind fun p9 =>
(stP 5 v4 p9.1 p9.2).bind fun p10 =>
(stP 1 v5 (.bool true) p10.2).bind fun p11 =>
finR E0 self Tryd.f7 (frD 34 [(2, v2), (4, v4), (5, v5), (33, p9.1)] ds) p11.2 := by kernel_rfl
noncomputable def YA7_14 : Code := (B7.r.r.l.r.l).as
noncomputable def YB7_14 : Code := (B7.r.r.l.r.l).bd
noncomputable def DA7_14 : D := (annot YA7_14 []).1
noncomputable def DB7_14 : D := (annot YB7_14 [[], [], [], [], [], []]).1
noncomputable def O7_14 (st : Nat) (pend : Option Code) ( v2 v4 v5 : V) : O := .loop st pend (frT [(2, v2), (4, v4), (5, v5)] .nil) 34 [13] YA7_14 YB7_14
noncomputable def Y7_14 (self : EV) (N : Nat) (l : Nat) ( v2 v4 v5 : V) ( w13 : V) (S : St) : Rs := roundK E0 self N DA7_14 DB7_14 l (frT [(2, v2), (4, v4), (5, v5)] .nil) 34 [13] [w13] S
theorem Y7_14_eq (self : EV) (N : Nat) (l : Nat) ( v2 v4 v5 : V) ( w13 : V) (S : St) : Y7_14 self N l v2 v4 v5 w13 S =
(some (nwP 9 1 (one (sv [])) S)).bind fun p16 =>
(stP 1 p16.1 w13 p16.2).bind fun p17 =>
midR l (frR 34 [(2, v2), (4, v4), (5, v5), (6, p16.1), (13, w13)] l) p17.2 fun S15 =>
(faP 1 false 1 v2).bind fun t19 =>
(ld1 t19 S15).bind fun p20 =>
(binV E0 .eql 3 false true p20.1 (.int .i64 2)).bind fun t21 =>
(guardV true t21).bind fun g23 => (bif g23 then ld1 p16.1 p20.2 else some (.tuple [], p20.2)).bind fun p23 =>
(guardV true t21).bind fun g24 => (bif g24 then binV E0 .neq 9 false true p23.1 (sv []) else some (.tuple [])).bind fun t24 =>
(pickV t21 (some t24) (some (.bool false))).bind fun t25 =>
ifK t25 (
(faP 4 false 1 v2).bind fun t26 =>
(ld1 t26 p23.2).bind fun p27 =>
callE (self.f 22 [p27.1, (.fn (.func 23) [] [p16.1])] p27.2) fun t29 S29 =>
(binV E0 .lss 3 false true t29 (.int .i64 0)).bind fun t32 =>
ifK t32 (
(buildV E0 24 []).bind fun t33 =>
(stP 5 v4 t33 S29).bind fun p34 =>
(stP 1 v5 (.bool false) p34.2).bind fun p35 =>
endRound l 1 (some .ret) false p35.2) (
(faP 4 false 1 v2).bind fun t36 =>
(ld1 t36 S29).bind fun p37 =>
(ixP 5 p37.1 t29).bind fun t39 =>
(ldA 5 t39 p37.2).bind fun p40 =>
(stP 5 v2 p40.1 p40.2).bind fun p41 =>
endRound l 0 none true p41.2)) (
(binV E0 .lss 3 false true (.int .i64 (-1)) (.int .i64 0)).bind fun t43 =>
ifK t43 (
(buildV E0 24 []).bind fun t44 =>
(stP 5 v4 t44 p23.2).bind fun p45 =>
(stP 1 v5 (.bool false) p45.2).bind fun p46 =>
endRound l 1 (some .ret) false p46.2) (
(faP 4 false 1 v2).bind fun t47 =>
(ld1 t47 p23.2).bind fun p48 =>
(ixP 5 p48.1 (.int .i64 (-1))).bind fun t50 =>
(ldA 5 t50 p48.2).bind fun p51 =>
(stP 5 v2 p51.1 p51.2).bind fun p52 =>
endRound l 0 none true p52.2)) := by kernel_rfl
noncomputable def F7 (self : EV) (N : Nat) (x0 x1 : V) (S : St) : Rs := runF E0 self N Tryd.f7 B7 [x0, x1] S
theorem F7_eq (self : EV) (N : Nat) (x0 x1 : V) (S : St) : F7 self N x0 x1 S =
(boxK 24 x0 S).bind fun p0 =>
(some (nwP 24 5 (Tr.ofListFrom .nil [(sv []), (.int .i64 0), (.bool false), (sv []), .nilslice] 0) p0.2)).bind fun p1 =>
(some (nwP 4 1 (one (.bool false)) p1.2)).bind fun p2 =>
(binV E0 .eql 9 false true x1 (sv [])).bind fun t4 =>
ifK t4 (
(ldA 5 p0.1 p2.2).bind fun p5 =>
(stP 5 p1.1 p5.1 p5.2).bind fun p6 =>
(stP 1 p2.1 (.bool true) p6.2).bind fun p7 =>
finR E0 self Tryd.f7 (frD 34 [(0, x0), (1, x1), (2, p0.1), (4, p1.1), (5, p2.1), (8, x1), (9, t4), (10, p5.1)] []) p7.2) (
callPF E0 self Tryd.f7 (frD 34 [(0, x0), (1, x1), (2, p0.1), (4, p1.1), (5, p2.1), (8, x1), (9, t4), (11, x1)] []) (self.f 21 [x1, (sv [47])] p2.2) fun t13 S13 =>
rangeP E0 self t13 (O7_14 0 none p0.1 p1.1 p2.1) S13 (fun S53 =>
R7_8 self N (finN E0 self Tryd.f7) noEx (frD 34 [(2, p0.1), (4, p1.1), (5, p2.1)] (mkR S13.next :: [])) S53) (fun s => finR E0 self Tryd.f7 (frD 34 [(0, x0), (1, x1), (2, p0.1), (4, p1.1), (5, p2.1), (8, x1), (9, t4), (11, x1), (12, t13)] (mkR S13.next :: [])) s) (fun i s => (exB 0 (R7_8 self N (finN E0 self Tryd.f7) noEx) noEx) i (frD 34 [(0, x0), (1, x1), (2, p0.1), (4, p1.1), (5, p2.1), (8, x1), (9, t4), (11, x1), (12, t13)] (mkR S13.next :: [])) s) (fun v s => leaves E0 self Tryd.f7 (frD 34 [(0, x0), (1, x1), (2, p0.1), (4, p1.1), (5, p2.1), (8, x1), (9, t4), (11, x1), (12, t13)] (mkR S13.next :: [])) (mkR S13.next :: []) (.pan v) s)) := by kernel_rfl
end
end Go.Proofs.YtcbaodegkfokjaaDoor.W
namespace Go.Proofs.YtcbaodegkfokjaaDoor.W
open Go.Proofs.YtcbaodegkfokjaaDoor.Ev
set_option maxRecDepth 100000
noncomputable section
noncomputable def C19 : Code := Tryd.f19.body.getD .skip
noncomputable def B19 : D := (annot C19 [[], [], [], [], [], [1, 2, 4, 5, 6], [], [2, 4, 5], [], [], [0, 2, 4, 5], [4], [], []]).1
noncomputable def RL19 : List Nat := cellsOf Tryd.f19.results.toList
noncomputable def R19_21 (self : EV) (N : Nat) (nk : Ac → St → Rs) (ek : Nat → Ac → St → Rs) (a : Ac) (S : St) : Rs := projK [2, 4, 5] a fun a => dr E0 self RL19 N (B19.r.r.r.r).r (mkK E0 self Tryd.f19 nk ek) a S
theorem R19_21_eq (self : EV) (N : Nat) (nk : Ac → St → Rs) (ek : Nat → Ac → St → Rs) ( v2 v4 v5 : V) (S : St) : R19_21 self N nk ek (fr 52 [(2, v2), (4, v4), (5, v5)]) S =
(faP 4 false 1 v2).bind fun t23 =>
(stP 1 t23 v5 S).bind fun p24 =>
(ldA 5 v2 p24.2).bind fun p25 =>
(stP 5 v4 p25.1 p25.2).bind fun p26 =>
(ldrA 5 v4 p26.2).bind fun p27 =>
some (.ret p27.1, p27.2) := by kernel_rfl
noncomputable def L19_29 (self : EV) (N : Nat) (nk : Ac → St → Rs) (ek : Nat → Ac → St → Rs) (n : Nat) ( v1 v2 v4 v5 v6 : V) (S : St) : Rs := loopK [1, 2, 4, 5, 6] (dr E0 self RL19 N (B19.r.r.r.r.l.r.l.l)) (mkK E0 self Tryd.f19 nk ek) n (fr 52 [(1, v1), (2, v2), (4, v4), (5, v5), (6, v6)]) S
theorem L19_29_eq (self : EV) (N : Nat) (nk : Ac → St → Rs) (ek : Nat → Ac → St → Rs) (n : Nat) ( v1 v2 v4 v5 v6 : V) (S : St) : L19_29 self N nk ek (n + 1) v1 v2 v4 v5 v6 S =
(faP 4 false 1 v2).bind fun t31 =>
(ld1 t31 S).bind fun p32 =>
(lnS p32.1 p32.2).bind fun p33 =>
(binV E0 .lss 3 false false v6 p33.1).bind fun t34 =>
(guardV true t34).bind fun g36 => (bif g36 then some v6 else some (.tuple [])).bind fun t36 =>
(guardV true t34).bind fun g37 => (bif g37 then binV E0 .lss 3 false true t36 (.int .i64 6) else some (.tuple [])).bind fun t37 =>
(pickV t34 (some t37) (some (.bool false))).bind fun t38 =>
(guardV true t38).bind fun g40 => (bif g40 then some v1 else some (.tuple [])).bind fun t40 =>
(guardV true t38).bind fun g41 => (bif g41 then binV E0 .gtr 3 false true t40 (.int .i64 0) else some (.tuple [])).bind fun t41 =>
(pickV t38 (some t41) (some (.bool false))).bind fun t42 =>
ifK t42 (
(faP 4 false 1 v2).bind fun t44 =>
(ld1 t44 p33.2).bind fun p45 =>
(ixP 5 p45.1 v6).bind fun t47 =>
(ldA 5 t47 p45.2).bind fun p48 =>
(binV E0 .sub 3 false true v1 (.int .i64 1)).bind fun t50 =>
callP (self.f 19 [p48.1, t50] p48.2) fun t51 S51 =>
(bsP 24 5 1 (Tr.ofListFrom .nil [(sv []), (.int .i64 0), (.bool false), (sv []), .nilslice] 0) [(0, t51)] S51).bind fun p52 =>
(apP 24 5 72 v5 p52.1 p52.2).bind fun p53 =>
(binV E0 .add 3 false true v6 (.int .i64 1)).bind fun t56 =>
L19_29 self N nk ek n v1 v2 v4 p53.1 t56 p53.2) (
ek 0 (fr 52 [(2, v2), (4, v4), (5, v5)]) p33.2) := by kernel_rfl
noncomputable def F19 (self : EV) (N : Nat) (x0 x1 : V) (S : St) : Rs := runF E0 self N Tryd.f19 B19 [x0, x1] S
theorem F19_eq (self : EV) (N : Nat) (x0 x1 : V) (S : St) : F19 self N x0 x1 S =
(boxK 24 x0 S).bind fun p0 =>
(some (nwP 24 5 (Tr.ofListFrom .nil [(sv []), (.int .i64 0), (.bool false), (sv []), .nilslice] 0) p0.2)).bind fun p1 =>
(faP 0 false 1 p0.1).bind fun t2 =>
(ld1 t2 p1.2).bind fun p3 =>
(faP 0 false 1 p0.1).bind fun t4 =>
(ld1 t4 p3.2).bind fun p5 =>
(lnStr p5.1 p5.2).bind fun p6 =>
(foldK minV p6.1 [(.int .i64 30)] p6.2).bind fun p7 =>
(sliceV E0 9 p3.1 none (some p7.1) none p7.2).bind fun p8 =>
(faP 0 false 1 p0.1).bind fun t9 =>
(stP 1 t9 p8.1 p8.2).bind fun p10 =>
(faP 3 false 1 p0.1).bind fun t11 =>
(ld1 t11 p10.2).bind fun p12 =>
(faP 3 false 1 p0.1).bind fun t13 =>
(ld1 t13 p12.2).bind fun p14 =>
(lnStr p14.1 p14.2).bind fun p15 =>
(foldK minV p15.1 [(.int .i64 300)] p15.2).bind fun p16 =>
(sliceV E0 9 p12.1 none (some p16.1) none p16.2).bind fun p17 =>
(faP 3 false 1 p0.1).bind fun t18 =>
(stP 1 t18 p17.1 p17.2).bind fun p19 =>
L19_29 self N (R19_21 self N (finN E0 self Tryd.f19) noEx) (exB 0 (R19_21 self N (finN E0 self Tryd.f19) noEx) noEx) N x1 p0.1 p1.1 .nilslice (.int .i64 0) p19.2 := by kernel_rfl
noncomputable def C20 : Code := Tryd.f20.body.getD .skip
noncomputable def B20 : D := (annot C20 [[], [], [], [1, 2, 4, 5, 6], [], [2, 4, 5], [], [], [], [0, 2, 4, 5], [4], [], []]).1
noncomputable def RL20 : List Nat := cellsOf Tryd.f20.results.toList
noncomputable def R20_3 (self : EV) (N : Nat) (nk : Ac → St → Rs) (ek : Nat → Ac → St → Rs) (a : Ac) (S : St) : Rs := projK [2, 4, 5] a fun a => dr E0 self RL20 N (B20.r.r).r (mkK E0 self Tryd.f20 nk ek) a S
theorem R20_3_eq (self : EV) (N : Nat) (nk : Ac → St → Rs) (ek : Nat → Ac → St → Rs) ( v2 v4 v5 : V) (S : St) : R20_3 self N nk ek (fr 39 [(2, v2), (4, v4), (5, v5)]) S =
(faP 4 false 1 v2).bind fun t5 =>
(stP 1 t5 v5 S).bind fun p6 =>
(ldA 5 v2 p6.2).bind fun p7 =>
(stP 5 v4 p7.1 p7.2).bind fun p8 =>
(ldrA 5 v4 p8.2).bind fun p9 =>
some (.ret p9.1, p9.2) := by kernel_rfl
noncomputable def L20_11 (self : EV) (N : Nat) (nk : Ac → St → Rs) (ek : Nat → Ac → St → Rs) (n : Nat) ( v1 v2 v4 v5 v6 : V) (S : St) : Rs := loopK [1, 2, 4, 5, 6] (dr E0 self RL20 N (B20.r.r.l.r.l.l)) (mkK E0 self Tryd.f20 nk ek) n (fr 39 [(1, v1), (2, v2), (4, v4), (5, v5), (6, v6)]) S
theorem L20_11_eq (self : EV) (N : Nat) (nk : Ac → St → Rs) (ek : Nat → Ac → St → Rs) (n : Nat) ( v1 v2 v4 v5 v6 : V) (S : St) : L20_11 self N nk ek (n + 1) v1 v2 v4 v5 v6 S =
(faP 4 false 1 v2).bind fun t13 =>
(ld1 t13 S).bind fun p14 =>
(lnS p14.1 p14.2).bind fun p15 =>
(binV E0 .lss 3 false false v6 p15.1).bind fun t16 =>
(guardV true t16).bind fun g18 => (bif g18 then some v1 else some (.tuple [])).bind fun t18 =>
(guardV true t16).bind fun g19 => (bif g19 then nilCheckV t18 else some (.tuple [])).bind fun t19 =>
(guardV true t16).bind fun g20 => (bif g20 then ld1 t19 p15.2 else some (.tuple [], p15.2)).bind fun p20 =>
(guardV true t16).bind fun g21 => (bif g21 then binV E0 .gtr 3 false true p20.1 (.int .i64 0) else some (.tuple [])).bind fun t21 =>
(pickV t16 (some t21) (some (.bool false))).bind fun t22 =>
ifK t22 (
(nilCheckV v1).bind fun t25 =>
(ld1 t25 p20.2).bind fun p26 =>
(binV E0 .sub 3 false true p26.1 (.int .i64 1)).bind fun t27 =>
(nilCheckV v1).bind fun t28 =>
(stP 1 t28 t27 p26.2).bind fun p29 =>
(faP 4 false 1 v2).bind fun t31 =>
(ld1 t31 p29.2).bind fun p32 =>
(ixP 5 p32.1 v6).bind fun t34 =>
(ldA 5 t34 p32.2).bind fun p35 =>
callP (self.f 20 [p35.1, v1] p35.2) fun t37 S37 =>
(bsP 24 5 1 (Tr.ofListFrom .nil [(sv []), (.int .i64 0), (.bool false), (sv []), .nilslice] 0) [(0, t37)] S37).bind fun p38 =>
(apP 24 5 72 v5 p38.1 p38.2).bind fun p39 =>
(binV E0 .add 3 false true v6 (.int .i64 1)).bind fun t42 =>
L20_11 self N nk ek n v1 v2 v4 p39.1 t42 p39.2) (
ek 0 (fr 39 [(2, v2), (4, v4), (5, v5)]) p20.2) := by kernel_rfl
noncomputable def F20 (self : EV) (N : Nat) (x0 x1 : V) (S : St) : Rs := runF E0 self N Tryd.f20 B20 [x0, x1] S
theorem F20_eq (self : EV) (N : Nat) (x0 x1 : V) (S : St) : F20 self N x0 x1 S =
(boxK 24 x0 S).bind fun p0 =>
(some (nwP 24 5 (Tr.ofListFrom .nil [(sv []), (.int .i64 0), (.bool false), (sv []), .nilslice] 0) p0.2)).bind fun p1 =>
L20_11 self N (R20_3 self N (finN E0 self Tryd.f20) noEx) (exB 0 (R20_3 self N (finN E0 self Tryd.f20) noEx) noEx) N x1 p0.1 p1.1 .nilslice (.int .i64 0) p1.2 := by kernel_rfl
noncomputable def C6 : Code := Tryd.f6.body.getD .skip
noncomputable def B6 : D := (annot C6 [[], [], [], []]).1
noncomputable def F6 (self : EV) (N : Nat) (x0 : V) (S : St) : Rs := runF E0 self N Tryd.f6 B6 [x0] S
theorem F6_eq (self : EV) (N : Nat) (x0 : V) (S : St) : F6 self N x0 S =
(boxK 24 x0 S).bind fun p0 =>
(some (nwP 24 5 (Tr.ofListFrom .nil [(sv []), (.int .i64 0), (.bool false), (sv []), .nilslice] 0) p0.2)).bind fun p1 =>
(ldA 5 p0.1 p1.2).bind fun p2 =>
callP (self.f 19 [p2.1, (.int .i64 16)] p2.2) fun t3 S3 =>
(stP 5 p0.1 t3 S3).bind fun p4 =>
(some (nwP 3 1 (one (.int .i64 0)) p4.2)).bind fun p5 =>
(stP 1 p5.1 (.int .i64 300) p5.2).bind fun p6 =>
(ldA 5 p0.1 p6.2).bind fun p7 =>
callP (self.f 20 [p7.1, p5.1] p7.2) fun t8 S8 =>
(stP 5 p1.1 t8 S8).bind fun p9 =>
(ldrA 5 p1.1 p9.2).bind fun p10 =>
some (.ret p10.1, p10.2) := by kernel_rfl
end
end Go.Proofs.YtcbaodegkfokjaaDoor.W
namespace Go.Proofs.YtcbaodegkfokjaaDoor.W
open Go.Proofs.YtcbaodegkfokjaaDoor.Ev
set_option maxRecDepth 100000
noncomputable section
noncomputable def C8 : Code := Tryd.f8.body.getD .skip
noncomputable def B8 : D := (annot C8 [[], [], [], [], [], [], [], [], [], [], []]).1
noncomputable def F8 (self : EV) (N : Nat) (x0 : V) (S : St) : Rs := runF E0 self N Tryd.f8 B8 [x0] S
theorem F8_eq (self : EV) (N : Nat) (x0 : V) (S : St) : F8 self N x0 S =
(boxK 24 x0 S).bind fun p0 =>
(ldA 5 p0.1 p0.2).bind fun p2 =>
callP (self.f 24 [p2.1] p2.2) fun t3 S3 =>
ifK t3 (
some (.ret (.int .i64 3), S3)) (
(faP 0 false 1 p0.1).bind fun t6 =>
(ld1 t6 S3).bind fun p7 =>
(binV E0 .neq 9 false true p7.1 (sv [])).bind fun t8 =>
(guardV false t8).bind fun g10 => (bif g10 then ldA 5 p0.1 p7.2 else some (.tuple [], p7.2)).bind fun p10 =>
(guardV false t8).bind fun g11 => callP (bif g11 then self.f 25 [p10.1] p10.2 else some (.ret (.tuple []), p10.2)) fun t11 S11 =>
(guardV false t8).bind fun g12 => (bif g12 then unV .not t11 else some (.tuple [])).bind fun t12 =>
(pickV t8 (some (.bool true)) (some t12)).bind fun t13 =>
ifK t13 (
some (.ret (.int .i64 2), S11)) (
(ldA 5 p0.1 S11).bind fun p16 =>
callP (self.f 10 [p16.1] p16.2) fun t17 S17 =>
(extractV t17 0).bind fun t19 =>
(extractV t17 1).bind fun t20 =>
(binV E0 .gtr 3 false true t19 (.int .i64 2000)).bind fun t24 =>
(guardV false t24).bind fun g26 => (bif g26 then some t20 else some (.tuple [])).bind fun t26 =>
(guardV false t24).bind fun g27 => (bif g27 then binV E0 .gtr 3 false true t26 (.int .i64 100000) else some (.tuple [])).bind fun t27 =>
(pickV t24 (some (.bool true)) (some t27)).bind fun t28 =>
ifK t28 (
some (.ret (.int .i64 3), S17)) (
some (.ret (.int .i64 0), S17)))) := by kernel_rfl
noncomputable def C10 : Code := Tryd.f10.body.getD .skip
noncomputable def B10 : D := (annot C10 [[], [], [], [], []]).1
noncomputable def F10 (self : EV) (N : Nat) (x0 : V) (S : St) : Rs := runF E0 self N Tryd.f10 B10 [x0] S
theorem F10_eq (self : EV) (N : Nat) (x0 : V) (S : St) : F10 self N x0 S =
(boxK 24 x0 S).bind fun p0 =>
(ldA 5 p0.1 p0.2).bind fun p3 =>
callP (self.f 24 [p3.1] p3.2) fun t4 S4 =>
ifK t4 (
some (.ret (.tuple [(.int .i64 0), (.int .i64 0)]), S4)) (
(ldA 5 p0.1 S4).bind fun p7 =>
callP (self.f 27 [p7.1] p7.2) fun t8 S8 =>
(extractV t8 0).bind fun t9 =>
(extractV t8 1).bind fun t10 =>
some (.ret (.tuple [t9, t10]), S8)) := by kernel_rfl
noncomputable def C12 : Code := Tryd.f12.body.getD .skip
noncomputable def B12 : D := (annot C12 [[], []]).1
noncomputable def F12 (self : EV) (N : Nat) (x0 : V) (S : St) : Rs := runF E0 self N Tryd.f12 B12 [x0] S
theorem F12_eq (self : EV) (N : Nat) (x0 : V) (S : St) : F12 self N x0 S =
(boxK 24 x0 S).bind fun p0 =>
(ldA 5 p0.1 p0.2).bind fun p2 =>
callP (self.f 29 [p2.1, (.int .i64 14)] p2.2) fun t3 S3 =>
some (.ret t3, S3) := by kernel_rfl
noncomputable def C24 : Code := Tryd.f24.body.getD .skip
noncomputable def B24 : D := (annot C24 [[], []]).1
noncomputable def F24 (self : EV) (N : Nat) (x0 : V) (S : St) : Rs := runF E0 self N Tryd.f24 B24 [x0] S
theorem F24_eq (self : EV) (N : Nat) (x0 : V) (S : St) : F24 self N x0 S =
(boxK 24 x0 S).bind fun p0 =>
(ldA 5 p0.1 p0.2).bind fun p2 =>
callP (self.f 12 [p2.1] p2.2) fun t3 S3 =>
(binV E0 .gtr 3 false true t3 (.int .i64 12)).bind fun t4 =>
some (.ret t4, S3) := by kernel_rfl
noncomputable def C25 : Code := Tryd.f25.body.getD .skip
noncomputable def B25 : D := (annot C25 [[], [], [], [], [], [], [], [], [], [], [], []]).1
noncomputable def F25 (self : EV) (N : Nat) (x0 : V) (S : St) : Rs := runF E0 self N Tryd.f25 B25 [x0] S
theorem F25_eq (self : EV) (N : Nat) (x0 : V) (S : St) : F25 self N x0 S =
(boxK 24 x0 S).bind fun p0 =>
(faP 1 false 1 p0.1).bind fun t6 =>
(ld1 t6 p0.2).bind fun p7 =>
(binV E0 .eql 3 false true p7.1 (.int .i64 1)).bind fun t8 =>
ifK t8 (
callP (callK E0 self (.fn (.func 32) [] [p0.1]) [] p7.2) fun t11 S11 =>
some (.ret t11, S11)) (
(binV E0 .eql 3 false true p7.1 (.int .i64 3)).bind fun t13 =>
ifK t13 (
(bsP 25 1 3 (one .nilfn) [(0, (.fn (.func 32) [] [p0.1])), (1, (.fn (.func 33) [] [p0.1])), (2, (.fn (.func 35) [] [p0.1]))] p7.2).bind fun p18 =>
callP (self.f 34 [p18.1] p18.2) fun t19 S19 =>
some (.ret t19, S19)) (
(binV E0 .eql 3 false true p7.1 (.int .i64 2)).bind fun t21 =>
ifK t21 (
(bsP 25 1 3 (one .nilfn) [(0, (.fn (.func 33) [] [p0.1])), (1, (.fn (.func 37) [] [p0.1])), (2, (.fn (.func 38) [] [p0.1]))] p7.2).bind fun p26 =>
callP (self.f 34 [p26.1] p26.2) fun t27 S27 =>
some (.ret t27, S27)) (
some (.ret (.bool false), p7.2)))) := by kernel_rfl
noncomputable def C27 : Code := Tryd.f27.body.getD .skip
noncomputable def B27 : D := (annot C27 [[], [], [], [2, 3, 12, 13, 14], [], [2, 3], [], [], [], [2, 3, 12, 13, 14], [], [], [], [0, 2, 3], [2, 3], []]).1
noncomputable def RL27 : List Nat := cellsOf Tryd.f27.results.toList
noncomputable def R27_8 (self : EV) (N : Nat) (nk : Ac → St → Rs) (ek : Nat → Ac → St → Rs) (a : Ac) (S : St) : Rs := projK [2, 3] a fun a => dr E0 self RL27 N (B27.r.r).r (mkK E0 self Tryd.f27 nk ek) a S
theorem R27_8_eq (self : EV) (N : Nat) (nk : Ac → St → Rs) (ek : Nat → Ac → St → Rs) ( v2 v3 : V) (S : St) : R27_8 self N nk ek (fr 34 [(2, v2), (3, v3)]) S =
some (.ret (.tuple [v2, v3]), S) := by kernel_rfl
noncomputable def L27_17 (self : EV) (N : Nat) (nk : Ac → St → Rs) (ek : Nat → Ac → St → Rs) (n : Nat) ( v2 v3 v12 v13 v14 : V) (S : St) : Rs := loopK [2, 3, 12, 13, 14] (dr E0 self RL27 N (B27.r.r.l.r.l.l)) (mkK E0 self Tryd.f27 nk ek) n (fr 34 [(2, v2), (3, v3), (12, v12), (13, v13), (14, v14)]) S
theorem L27_17_eq (self : EV) (N : Nat) (nk : Ac → St → Rs) (ek : Nat → Ac → St → Rs) (n : Nat) ( v2 v3 v12 v13 v14 : V) (S : St) : L27_17 self N nk ek (n + 1) v2 v3 v12 v13 v14 S =
(binV E0 .lss 3 false false v14 v13).bind fun t18 =>
ifK t18 (
(ixP 5 v12 v14).bind fun t19 =>
(ldA 5 t19 S).bind fun p20 =>
(some (nwP 24 5 (Tr.ofListFrom .nil [(sv []), (.int .i64 0), (.bool false), (sv []), .nilslice] 0) p20.2)).bind fun p21 =>
(stP 5 p21.1 p20.1 p21.2).bind fun p22 =>
(ldA 5 p21.1 p22.2).bind fun p23 =>
callP (self.f 24 [p23.1] p23.2) fun t24 S24 =>
ifK t24 (
(binV E0 .add 3 false true v14 (.int .i64 1)).bind fun t25 =>
L27_17 self N nk ek n v2 v3 v12 v13 t25 S24) (
(ldA 5 p21.1 S24).bind fun p27 =>
callP (self.f 27 [p27.1] p27.2) fun t28 S28 =>
(extractV t28 0).bind fun t30 =>
(extractV t28 1).bind fun t31 =>
(binV E0 .add 3 false false v2 t30).bind fun t36 =>
(binV E0 .add 3 false false v3 t31).bind fun t39 =>
(binV E0 .add 3 false true v14 (.int .i64 1)).bind fun t42 =>
L27_17 self N nk ek n t36 t39 v12 v13 t42 S28)) (
ek 0 (fr 34 [(2, v2), (3, v3)]) S) := by kernel_rfl
noncomputable def F27 (self : EV) (N : Nat) (x0 : V) (S : St) : Rs := runF E0 self N Tryd.f27 B27 [x0] S
theorem F27_eq (self : EV) (N : Nat) (x0 : V) (S : St) : F27 self N x0 S =
(boxK 24 x0 S).bind fun p0 =>
(faP 3 false 1 p0.1).bind fun t3 =>
(ld1 t3 (onS p0.2)).bind fun p4 =>
(lnStr p4.1 (onS p4.2)).bind fun p5 =>
(faP 4 false 1 p0.1).bind fun t13 =>
(ld1 t13 (relog p0.2 (onS p5.2) [[], p4.2.log, p5.2.log, [], []])).bind fun p14 =>
(lnS p14.1 p14.2).bind fun p15 =>
L27_17 self N (R27_8 self N (finN E0 self Tryd.f27) noEx) (exB 0 (R27_8 self N (finN E0 self Tryd.f27) noEx) noEx) N (.int .i64 1) p5.1 p14.1 p15.1 (.int .i64 0) p15.2 := by kernel_rfl
noncomputable def C29 : Code := Tryd.f29.body.getD .skip
noncomputable def B29 : D := (annot C29 [[], [], [], [], [], [], [1, 5, 17, 18, 19], [], [5], [], [], [], [0, 5], [4], []]).1
noncomputable def RL29 : List Nat := cellsOf Tryd.f29.results.toList
noncomputable def R29_12 (self : EV) (N : Nat) (nk : Ac → St → Rs) (ek : Nat → Ac → St → Rs) (a : Ac) (S : St) : Rs := projK [5] a fun a => dr E0 self RL29 N (B29.r.r.r).r (mkK E0 self Tryd.f29 nk ek) a S
theorem R29_12_eq (self : EV) (N : Nat) (nk : Ac → St → Rs) (ek : Nat → Ac → St → Rs) ( v5 : V) (S : St) : R29_12 self N nk ek (fr 32 [(5, v5)]) S =
some (.ret v5, S) := by kernel_rfl
noncomputable def L29_19 (self : EV) (N : Nat) (nk : Ac → St → Rs) (ek : Nat → Ac → St → Rs) (n : Nat) ( v1 v5 v17 v18 v19 : V) (S : St) : Rs := loopK [1, 5, 17, 18, 19] (dr E0 self RL29 N (B29.r.r.r.l.r.l.l)) (mkK E0 self Tryd.f29 nk ek) n (fr 32 [(1, v1), (5, v5), (17, v17), (18, v18), (19, v19)]) S
theorem L29_19_eq (self : EV) (N : Nat) (nk : Ac → St → Rs) (ek : Nat → Ac → St → Rs) (n : Nat) ( v1 v5 v17 v18 v19 : V) (S : St) : L29_19 self N nk ek (n + 1) v1 v5 v17 v18 v19 S =
(binV E0 .lss 3 false false v19 v18).bind fun t20 =>
ifK t20 (
(ixP 5 v17 v19).bind fun t21 =>
(ldA 5 t21 S).bind fun p22 =>
(some (nwP 24 5 (Tr.ofListFrom .nil [(sv []), (.int .i64 0), (.bool false), (sv []), .nilslice] 0) p22.2)).bind fun p23 =>
(stP 5 p23.1 p22.1 p23.2).bind fun p24 =>
(ldA 5 p23.1 p24.2).bind fun p26 =>
(binV E0 .sub 3 false true v1 (.int .i64 1)).bind fun t28 =>
callP (self.f 29 [p26.1, t28] p26.2) fun t29 S29 =>
(binV E0 .add 3 true false (.int .i64 1) t29).bind fun t30 =>
(foldK maxV v5 [t30] S29).bind fun p31 =>
(binV E0 .add 3 false true v19 (.int .i64 1)).bind fun t33 =>
L29_19 self N nk ek n v1 p31.1 v17 v18 t33 p31.2) (
ek 0 (fr 32 [(5, v5)]) S) := by kernel_rfl
noncomputable def F29 (self : EV) (N : Nat) (x0 x1 : V) (S : St) : Rs := runF E0 self N Tryd.f29 B29 [x0, x1] S
theorem F29_eq (self : EV) (N : Nat) (x0 x1 : V) (S : St) : F29 self N x0 x1 S =
(boxK 24 x0 S).bind fun p0 =>
(faP 1 false 1 p0.1).bind fun t3 =>
(ld1 t3 p0.2).bind fun p4 =>
(binV E0 .neq 3 false true p4.1 (.int .i64 2)).bind fun t5 =>
(guardV false t5).bind fun g7 => (bif g7 then some x1 else some (.tuple [])).bind fun t7 =>
(guardV false t5).bind fun g8 => (bif g8 then binV E0 .eql 3 false true t7 (.int .i64 1) else some (.tuple [])).bind fun t8 =>
(pickV t5 (some (.bool true)) (some t8)).bind fun t9 =>
ifK t9 (
some (.ret (.int .i64 1), p4.2)) (
(faP 4 false 1 p0.1).bind fun t15 =>
(ld1 t15 p4.2).bind fun p16 =>
(lnS p16.1 p16.2).bind fun p17 =>
L29_19 self N (R29_12 self N (finN E0 self Tryd.f29) noEx) (exB 0 (R29_12 self N (finN E0 self Tryd.f29) noEx) noEx) N x1 (.int .i64 1) p16.1 p17.1 (.int .i64 0) p17.2) := by kernel_rfl
noncomputable def C30 : Code := Tryd.f30.body.getD .skip
noncomputable def B30 : D := (annot C30 [[], [], [], [], [], [1, 2, 15, 16, 17], [], [], [], [], [], [], [], [], [0], [6], []]).1
noncomputable def RL30 : List Nat := cellsOf Tryd.f30.results.toList
noncomputable def R30_7 (self : EV) (N : Nat) (nk : Ac → St → Rs) (ek : Nat → Ac → St → Rs) (a : Ac) (S : St) : Rs := projK [] a fun a => dr E0 self RL30 N (B30.r.r).r (mkK E0 self Tryd.f30 nk ek) a S
theorem R30_7_eq (self : EV) (N : Nat) (nk : Ac → St → Rs) (ek : Nat → Ac → St → Rs) (S : St) : R30_7 self N nk ek (fr 32 []) S =
some (.ret (.bool true), S) := by kernel_rfl
noncomputable def L30_12 (self : EV) (N : Nat) (nk : Ac → St → Rs) (ek : Nat → Ac → St → Rs) (n : Nat) ( v1 v2 v15 v16 v17 : V) (S : St) : Rs := loopK [1, 2, 15, 16, 17] (dr E0 self RL30 N (B30.r.r.l.r.l.l)) (mkK E0 self Tryd.f30 nk ek) n (fr 32 [(1, v1), (2, v2), (15, v15), (16, v16), (17, v17)]) S
theorem L30_12_eq (self : EV) (N : Nat) (nk : Ac → St → Rs) (ek : Nat → Ac → St → Rs) (n : Nat) ( v1 v2 v15 v16 v17 : V) (S : St) : L30_12 self N nk ek (n + 1) v1 v2 v15 v16 v17 S =
(binV E0 .lss 3 false false v17 v16).bind fun t13 =>
ifK t13 (
(ixP 5 v15 v17).bind fun t15 =>
(ldA 5 t15 S).bind fun p16 =>
(some (nwP 24 5 (Tr.ofListFrom .nil [(sv []), (.int .i64 0), (.bool false), (sv []), .nilslice] 0) p16.2)).bind fun p17 =>
(stP 5 p17.1 p16.1 p17.2).bind fun p19 =>
(ixP 5 v1 v17).bind fun t22 =>
(ldA 5 t22 p19.2).bind fun p23 =>
(some (nwP 24 5 (Tr.ofListFrom .nil [(sv []), (.int .i64 0), (.bool false), (sv []), .nilslice] 0) p23.2)).bind fun p24 =>
(stP 5 p24.1 p23.1 p24.2).bind fun p25 =>
(ldA 5 p17.1 p25.2).bind fun p27 =>
(ldA 5 p24.1 p27.2).bind fun p28 =>
callP (callK E0 self v2 [p27.1, p28.1] p28.2) fun t29 S29 =>
(unV .not t29).bind fun t30 =>
ifK t30 (
some (.ret (.bool false), S29)) (
(binV E0 .add 3 false true v17 (.int .i64 1)).bind fun t32 =>
L30_12 self N nk ek n v1 v2 v15 v16 t32 S29)) (
ek 0 (fr 32 []) S) := by kernel_rfl
noncomputable def F30 (self : EV) (N : Nat) (x0 x1 x2 : V) (S : St) : Rs := runF E0 self N Tryd.f30 B30 [x0, x1, x2] S
theorem F30_eq (self : EV) (N : Nat) (x0 x1 x2 : V) (S : St) : F30 self N x0 x1 x2 S =
(lnS x0 S).bind fun p2 =>
(lnS x1 p2.2).bind fun p4 =>
(binV E0 .neq 3 false false p2.1 p4.1).bind fun t5 =>
ifK t5 (
some (.ret (.bool false), p4.2)) (
(lnS x0 p4.2).bind fun p10 =>
L30_12 self N (R30_7 self N (finN E0 self Tryd.f30) noEx) (exB 0 (R30_7 self N (finN E0 self Tryd.f30) noEx) noEx) N x1 x2 x0 p10.1 (.int .i64 0) p10.2) := by kernel_rfl
noncomputable def C32 : Code := Tryd.f32.body.getD .skip
noncomputable def B32 : D := (annot C32 [[], []]).1
noncomputable def F32 (self : EV) (N : Nat) (x0 : V) (S : St) : Rs := runF E0 self N Tryd.f32 B32 [x0] S
theorem F32_eq (self : EV) (N : Nat) (x0 : V) (S : St) : F32 self N x0 S =
(faP 4 false 1 x0).bind fun t1 =>
(ld1 t1 S).bind fun p2 =>
(lnS p2.1 p2.2).bind fun p3 =>
(binV E0 .eql 3 false true p3.1 (.int .i64 0)).bind fun t4 =>
some (.ret t4, p3.2) := by kernel_rfl
noncomputable def C33 : Code := Tryd.f33.body.getD .skip
noncomputable def B33 : D := (annot C33 [[], []]).1
noncomputable def F33 (self : EV) (N : Nat) (x0 : V) (S : St) : Rs := runF E0 self N Tryd.f33 B33 [x0] S
theorem F33_eq (self : EV) (N : Nat) (x0 : V) (S : St) : F33 self N x0 S =
(faP 2 false 1 x0).bind fun t1 =>
(ld1 t1 S).bind fun p2 =>
(unV .not p2.1).bind fun t3 =>
some (.ret t3, p2.2) := by kernel_rfl
noncomputable def C34 : Code := Tryd.f34.body.getD .skip
noncomputable def B34 : D := (annot C34 [[], []]).1
noncomputable def F34 (self : EV) (N : Nat) (x0 : V) (S : St) : Rs := runF E0 self N Tryd.f34 B34 [x0] S
theorem F34_eq (self : EV) (N : Nat) (x0 : V) (S : St) : F34 self N x0 S =
callP (self.f 46 [x0, (.fn (.func 47) [] [])] S) fun t2 S2 =>
(unV .not t2).bind fun t3 =>
some (.ret t3, S2) := by kernel_rfl
noncomputable def C35 : Code := Tryd.f35.body.getD .skip
noncomputable def B35 : D := (annot C35 [[], []]).1
noncomputable def F35 (self : EV) (N : Nat) (x0 : V) (S : St) : Rs := runF E0 self N Tryd.f35 B35 [x0] S
theorem F35_eq (self : EV) (N : Nat) (x0 : V) (S : St) : F35 self N x0 S =
(faP 3 false 1 x0).bind fun t1 =>
(ld1 t1 S).bind fun p2 =>
(lnStr p2.1 p2.2).bind fun p3 =>
(binV E0 .geq 3 false true p3.1 (.int .i64 1)).bind fun t4 =>
(guardV true t4).bind fun g6 => (bif g6 then faP 3 false 1 x0 else some (.tuple [])).bind fun t6 =>
(guardV true t4).bind fun g7 => (bif g7 then ld1 t6 p3.2 else some (.tuple [], p3.2)).bind fun p7 =>
(guardV true t4).bind fun g8 => (bif g8 then lnStr p7.1 p7.2 else some (.tuple [], p7.2)).bind fun p8 =>
(guardV true t4).bind fun g9 => (bif g9 then binV E0 .leq 3 false true p8.1 (.int .i64 255) else some (.tuple [])).bind fun t9 =>
(pickV t4 (some t9) (some (.bool false))).bind fun t10 =>
(guardV true t10).bind fun g12 => (bif g12 then faP 3 false 1 x0 else some (.tuple [])).bind fun t12 =>
(guardV true t10).bind fun g13 => (bif g13 then ld1 t12 p8.2 else some (.tuple [], p8.2)).bind fun p13 =>
(guardV true t10).bind fun g14 => callP (bif g14 then self.f 36 [p13.1, (.int .u8 0)] p13.2 else some (.ret (.tuple []), p13.2)) fun t14 S14 =>
(guardV true t10).bind fun g15 => (bif g15 then binV E0 .lss 3 false true t14 (.int .i64 0) else some (.tuple [])).bind fun t15 =>
(pickV t10 (some t15) (some (.bool false))).bind fun t16 =>
some (.ret t16, S14) := by kernel_rfl
noncomputable def C36 : Code := Tryd.f36.body.getD .skip
noncomputable def B36 : D := (annot C36 [[], []]).1
noncomputable def F36 (self : EV) (N : Nat) (x0 x1 : V) (S : St) : Rs := runF E0 self N Tryd.f36 B36 [x0, x1] S
theorem F36_eq (self : EV) (N : Nat) (x0 x1 : V) (S : St) : F36 self N x0 x1 S =
callP (self.f 48 [x0, x1] S) fun t3 S3 =>
some (.ret t3, S3) := by kernel_rfl
noncomputable def C37 : Code := Tryd.f37.body.getD .skip
noncomputable def B37 : D := (annot C37 [[], []]).1
noncomputable def F37 (self : EV) (N : Nat) (x0 : V) (S : St) : Rs := runF E0 self N Tryd.f37 B37 [x0] S
theorem F37_eq (self : EV) (N : Nat) (x0 : V) (S : St) : F37 self N x0 S =
(faP 3 false 1 x0).bind fun t1 =>
(ld1 t1 S).bind fun p2 =>
(binV E0 .eql 9 false true p2.1 (sv [])).bind fun t3 =>
some (.ret t3, p2.2) := by kernel_rfl
noncomputable def C38 : Code := Tryd.f38.body.getD .skip
noncomputable def B38 : D := (annot C38 [[], [], [0, 5, 6, 7], [], [], [], [], [], [], [], [0], [1], []]).1
noncomputable def RL38 : List Nat := cellsOf Tryd.f38.results.toList
noncomputable def R38_1 (self : EV) (N : Nat) (nk : Ac → St → Rs) (ek : Nat → Ac → St → Rs) (a : Ac) (S : St) : Rs := projK [] a fun a => dr E0 self RL38 N (B38.r).r (mkK E0 self Tryd.f38 nk ek) a S
theorem R38_1_eq (self : EV) (N : Nat) (nk : Ac → St → Rs) (ek : Nat → Ac → St → Rs) (S : St) : R38_1 self N nk ek (fr 38 []) S =
some (.ret (.bool true), S) := by kernel_rfl
noncomputable def L38_7 (self : EV) (N : Nat) (nk : Ac → St → Rs) (ek : Nat → Ac → St → Rs) (n : Nat) ( v0 v5 v6 v7 : V) (S : St) : Rs := loopK [0, 5, 6, 7] (dr E0 self RL38 N (B38.r.l.r.l.l)) (mkK E0 self Tryd.f38 nk ek) n (fr 38 [(0, v0), (5, v5), (6, v6), (7, v7)]) S
theorem L38_7_eq (self : EV) (N : Nat) (nk : Ac → St → Rs) (ek : Nat → Ac → St → Rs) (n : Nat) ( v0 v5 v6 v7 : V) (S : St) : L38_7 self N nk ek (n + 1) v0 v5 v6 v7 S =
(binV E0 .lss 3 false false v7 v6).bind fun t8 =>
ifK t8 (
(ixP 5 v5 v7).bind fun t10 =>
(ldA 5 t10 S).bind fun p11 =>
(some (nwP 24 5 (Tr.ofListFrom .nil [(sv []), (.int .i64 0), (.bool false), (sv []), .nilslice] 0) p11.2)).bind fun p12 =>
(stP 5 p12.1 p11.1 p12.2).bind fun p14 =>
(faP 0 false 1 p12.1).bind fun t15 =>
(ld1 t15 (onS p14.2)).bind fun p16 =>
callD (planOf E0 (B38.r.l.r.l.l.r.r.l.l.r.l).ops) p14.2 2 [[], p16.2.log] (self.f 39 [p16.1] (onS p16.2)) fun t17 S17 =>
(unV .not t17).bind fun t18 =>
(guardV false t18).bind fun g20 => (bif g20 then ldA 5 p12.1 (onS S17) else some (.tuple [], (onS S17))).bind fun p20 =>
(guardV false t18).bind fun g21 => callD (planOf E0 (B38.r.l.r.l.l.r.r.l.l.r.l).ops) p14.2 6 [[], p16.2.log, S17.log, [], [], p20.2.log] (bif g21 then self.f 25 [p20.1] (onS p20.2) else some (.ret (.tuple []), (onS p20.2))) fun t21 S21 =>
(guardV false t18).bind fun g22 => (bif g22 then unV .not t21 else some (.tuple [])).bind fun t22 =>
(pickV t18 (some (.bool true)) (some t22)).bind fun t23 =>
(guardV false t23).bind fun g25 => (bif g25 then some v7 else some (.tuple [])).bind fun t25 =>
(guardV false t23).bind fun g26 => (bif g26 then binV E0 .gtr 3 false true t25 (.int .i64 0) else some (.tuple [])).bind fun t26 =>
(guardV false t23).bind fun g27 => (bif g27 then some t26 else some (.tuple [])).bind fun t27 =>
(guardV true t27).bind fun g28 => (bif g28 then faP 4 false 1 v0 else some (.tuple [])).bind fun t28 =>
(guardV true t27).bind fun g29 => (bif g29 then ld1 t28 (onS S21) else some (.tuple [], (onS S21))).bind fun p29 =>
(guardV true t27).bind fun g30 => (bif g30 then some v7 else some (.tuple [])).bind fun t30 =>
(guardV true t27).bind fun g31 => (bif g31 then binV E0 .sub 3 false true t30 (.int .i64 1) else some (.tuple [])).bind fun t31 =>
(guardV true t27).bind fun g32 => (bif g32 then ixP 5 p29.1 t31 else some (.tuple [])).bind fun t32 =>
(guardV true t27).bind fun g33 => (bif g33 then faP 0 false 1 t32 else some (.tuple [])).bind fun t33 =>
(guardV true t27).bind fun g34 => (bif g34 then ld1 t33 (onS p29.2) else some (.tuple [], (onS p29.2))).bind fun p34 =>
(guardV true t27).bind fun g35 => (bif g35 then faP 0 false 1 p12.1 else some (.tuple [])).bind fun t35 =>
(guardV true t27).bind fun g36 => (bif g36 then ld1 t35 (onS p34.2) else some (.tuple [], (onS p34.2))).bind fun p36 =>
(guardV true t27).bind fun g37 => (bif g37 then binV E0 .geq 9 false false p34.1 p36.1 else some (.tuple [])).bind fun t37 =>
(guardV false t23).bind fun g38 => (bif g38 then pickV t27 (some t37) (some (.bool false)) else some (.tuple [])).bind fun t38 =>
(pickV t23 (some (.bool true)) (some t38)).bind fun t39 =>
endP [(14, [21]), (19, [21])] p14.2 [[], p16.2.log, S17.log, [], [], p20.2.log, S21.log, [], [], [], [], [], [], [], p29.2.log, [], [], [], [], p34.2.log, [], p36.2.log, [], [], []] (onS p36.2) fun S40 =>
ifK t39 (
some (.ret (.bool false), S40)) (
(binV E0 .add 3 false true v7 (.int .i64 1)).bind fun t42 =>
L38_7 self N nk ek n v0 v5 v6 t42 S40)) (
ek 0 (fr 38 []) S) := by kernel_rfl
noncomputable def F38 (self : EV) (N : Nat) (x0 : V) (S : St) : Rs := runF E0 self N Tryd.f38 B38 [x0] S
theorem F38_eq (self : EV) (N : Nat) (x0 : V) (S : St) : F38 self N x0 S =
(faP 4 false 1 x0).bind fun t3 =>
(ld1 t3 S).bind fun p4 =>
(lnS p4.1 p4.2).bind fun p5 =>
L38_7 self N (R38_1 self N (finN E0 self Tryd.f38) noEx) (exB 0 (R38_1 self N (finN E0 self Tryd.f38) noEx) noEx) N x0 p4.1 p5.1 (.int .i64 0) p5.2 := by kernel_rfl
noncomputable def C39 : Code := Tryd.f39.body.getD .skip
noncomputable def B39 : D := (annot C39 [[], []]).1
noncomputable def F39 (self : EV) (N : Nat) (x0 : V) (S : St) : Rs := runF E0 self N Tryd.f39 B39 [x0] S
theorem F39_eq (self : EV) (N : Nat) (x0 : V) (S : St) : F39 self N x0 S =
(lnStr x0 S).bind fun p2 =>
(binV E0 .geq 3 false true p2.1 (.int .i64 1)).bind fun t3 =>
(guardV true t3).bind fun g5 => (bif g5 then some x0 else some (.tuple [])).bind fun t5 =>
(guardV true t3).bind fun g6 => (bif g6 then lnStr t5 p2.2 else some (.tuple [], p2.2)).bind fun p6 =>
(guardV true t3).bind fun g7 => (bif g7 then binV E0 .leq 3 false true p6.1 (.int .i64 56) else some (.tuple [])).bind fun t7 =>
(pickV t3 (some t7) (some (.bool false))).bind fun t8 =>
(guardV true t8).bind fun g10 => (bif g10 then some x0 else some (.tuple [])).bind fun t10 =>
(guardV true t8).bind fun g11 => callP (bif g11 then self.f 49 [t10, (sv [47, 0])] p6.2 else some (.ret (.tuple []), p6.2)) fun t11 S11 =>
(guardV true t8).bind fun g12 => (bif g12 then unV .not t11 else some (.tuple [])).bind fun t12 =>
(pickV t8 (some t12) (some (.bool false))).bind fun t13 =>
(guardV true t13).bind fun g15 => (bif g15 then some x0 else some (.tuple [])).bind fun t15 =>
(guardV true t13).bind fun g16 => (bif g16 then binV E0 .neq 9 false true t15 (sv [46]) else some (.tuple [])).bind fun t16 =>
(pickV t13 (some t16) (some (.bool false))).bind fun t17 =>
(guardV true t17).bind fun g19 => (bif g19 then some x0 else some (.tuple [])).bind fun t19 =>
(guardV true t17).bind fun g20 => (bif g20 then binV E0 .neq 9 false true t19 (sv [46, 46]) else some (.tuple [])).bind fun t20 =>
(pickV t17 (some t20) (some (.bool false))).bind fun t21 =>
some (.ret t21, S11) := by kernel_rfl
noncomputable def C46 : Code := Tryd.f46.body.getD .skip
noncomputable def B46 : D := (annot C46 [[], []]).1
noncomputable def F46 (self : EV) (N : Nat) (x0 x1 : V) (S : St) : Rs := runF E0 self N Tryd.f46 B46 [x0, x1] S
theorem F46_eq (self : EV) (N : Nat) (x0 x1 : V) (S : St) : F46 self N x0 x1 S =
callP (self.f 54 [x0, x1] S) fun t3 S3 =>
(binV E0 .geq 3 false true t3 (.int .i64 0)).bind fun t4 =>
some (.ret t4, S3) := by kernel_rfl
noncomputable def C47 : Code := Tryd.f47.body.getD .skip
noncomputable def B47 : D := (annot C47 [[], []]).1
noncomputable def F47 (self : EV) (N : Nat) (x0 : V) (S : St) : Rs := runF E0 self N Tryd.f47 B47 [x0] S
theorem F47_eq (self : EV) (N : Nat) (x0 : V) (S : St) : F47 self N x0 S =
callP (callK E0 self x0 [] S) fun t2 S2 =>
(unV .not t2).bind fun t3 =>
some (.ret t3, S2) := by kernel_rfl
end
end Go.Proofs.YtcbaodegkfokjaaDoor.W
