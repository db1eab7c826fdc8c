/-
  WHAT THE FUNCTIONS COME TO: each is read by the evaluator, printed, and told as a function of data, part 2 of 9 (no condition).
-/
import Derived.Test.YthmkdoaaciamlaaW1
import Derived.Test.YthmkdoaaciamlaaProg
import Derived.KernelRfl
namespace Go.Proofs.Ythmkdoaaciamlaa.W
open Go.Proofs.Ythmkdoaaciamlaa.Ev
set_option maxRecDepth 100000
noncomputable section
noncomputable def C15 : Code := Try.f15.body.getD .skip
noncomputable def B15 : D := (annot C15 [[], [], [], [], [], [], [], [], [], [], []]).1
noncomputable def F15 (self : EV) (N : Nat) (x0 : V) (S : St) : Rs := runF E0 self N Try.f15 B15 [x0] S
theorem F15_eq (self : EV) (N : Nat) (x0 : V) (S : St) : F15 self N x0 S =
(boxK 24 x0 S).bind fun p0 =>
(ldA 5 p0.1 p0.2).bind fun p2 =>
callP (self.f 35 [p2.1] p2.2) fun t3 S3 =>
ifK t3 (
some (.ret (.int .i64 3), S3)) (
(faP 0 false 1 p0.1).bind fun t6 =>
(ld1 t6 S3).bind fun p7 =>
(binV E0 .neq 9 false true p7.1 (sv [])).bind fun t8 =>
(guardV false t8).bind fun g10 => (bif g10 then ldA 5 p0.1 p7.2 else some (.tuple [], p7.2)).bind fun p10 =>
(guardV false t8).bind fun g11 => callP (bif g11 then self.f 36 [p10.1] p10.2 else some (.ret (.tuple []), p10.2)) fun t11 S11 =>
(guardV false t8).bind fun g12 => (bif g12 then unV .not t11 else some (.tuple [])).bind fun t12 =>
(pickV t8 (some (.bool true)) (some t12)).bind fun t13 =>
ifK t13 (
some (.ret (.int .i64 2), S11)) (
(ldA 5 p0.1 S11).bind fun p16 =>
callP (self.f 17 [p16.1] p16.2) fun t17 S17 =>
(extractV t17 0).bind fun t19 =>
(extractV t17 1).bind fun t20 =>
(binV E0 .gtr 3 false true t19 (.int .i64 2000)).bind fun t24 =>
(guardV false t24).bind fun g26 => (bif g26 then some t20 else some (.tuple [])).bind fun t26 =>
(guardV false t24).bind fun g27 => (bif g27 then binV E0 .gtr 3 false true t26 (.int .i64 100000) else some (.tuple [])).bind fun t27 =>
(pickV t24 (some (.bool true)) (some t27)).bind fun t28 =>
ifK t28 (
some (.ret (.int .i64 3), S17)) (
some (.ret (.int .i64 0), S17)))) := by kernel_rfl
noncomputable def C17 : Code := Try.f17.body.getD .skip
noncomputable def B17 : D := (annot C17 [[], [], [], [], []]).1
noncomputable def F17 (self : EV) (N : Nat) (x0 : V) (S : St) : Rs := runF E0 self N Try.f17 B17 [x0] S
theorem F17_eq (self : EV) (N : Nat) (x0 : V) (S : St) : F17 self N x0 S =
(boxK 24 x0 S).bind fun p0 =>
(ldA 5 p0.1 p0.2).bind fun p3 =>
callP (self.f 35 [p3.1] p3.2) fun t4 S4 =>
ifK t4 (
some (.ret (.tuple [(.int .i64 0), (.int .i64 0)]), S4)) (
(ldA 5 p0.1 S4).bind fun p7 =>
callP (self.f 38 [p7.1] p7.2) fun t8 S8 =>
(extractV t8 0).bind fun t9 =>
(extractV t8 1).bind fun t10 =>
some (.ret (.tuple [t9, t10]), S8)) := by kernel_rfl
noncomputable def C21 : Code := Try.f21.body.getD .skip
noncomputable def B21 : D := (annot C21 [[], [], [], [], [], [], [], [], [], [], [], []]).1
noncomputable def F21 (self : EV) (N : Nat) (x0 : V) (S : St) : Rs := runF E0 self N Try.f21 B21 [x0] S
theorem F21_eq (self : EV) (N : Nat) (x0 : V) (S : St) : F21 self N x0 S =
(boxK 24 x0 S).bind fun p0 =>
(ldA 5 p0.1 p0.2).bind fun p2 =>
callP (self.f 34 [p2.1] p2.2) fun t3 S3 =>
(binV E0 .gtr 3 false true t3 (.int .i64 12)).bind fun t4 =>
ifK t4 (
some (.ret (.int .i64 3), S3)) (
(faP 0 false 1 p0.1).bind fun t6 =>
(ld1 t6 S3).bind fun p7 =>
(binV E0 .neq 9 false true p7.1 (sv [])).bind fun t8 =>
(guardV false t8).bind fun g10 => (bif g10 then ldA 5 p0.1 p7.2 else some (.tuple [], p7.2)).bind fun p10 =>
(guardV false t8).bind fun g11 => callP (bif g11 then self.f 44 [p10.1] p10.2 else some (.ret (.tuple []), p10.2)) fun t11 S11 =>
(guardV false t8).bind fun g12 => (bif g12 then unV .not t11 else some (.tuple [])).bind fun t12 =>
(pickV t8 (some (.bool true)) (some t12)).bind fun t13 =>
ifK t13 (
some (.ret (.int .i64 2), S11)) (
(ldA 5 p0.1 S11).bind fun p15 =>
callP (self.f 45 [p15.1] p15.2) fun t16 S16 =>
(extractV t16 0).bind fun t18 =>
(extractV t16 1).bind fun t19 =>
(binV E0 .gtr 3 false true t18 (.int .i64 2000)).bind fun t23 =>
(guardV false t23).bind fun g25 => (bif g25 then some t19 else some (.tuple [])).bind fun t25 =>
(guardV false t23).bind fun g26 => (bif g26 then binV E0 .gtr 3 false true t25 (.int .i64 100000) else some (.tuple [])).bind fun t26 =>
(pickV t23 (some (.bool true)) (some t26)).bind fun t27 =>
ifK t27 (
some (.ret (.int .i64 3), S16)) (
some (.ret (.int .i64 0), S16)))) := by kernel_rfl
noncomputable def C34 : Code := Try.f34.body.getD .skip
noncomputable def B34 : D := (annot C34 [[], []]).1
noncomputable def F34 (self : EV) (N : Nat) (x0 : V) (S : St) : Rs := runF E0 self N Try.f34 B34 [x0] S
theorem F34_eq (self : EV) (N : Nat) (x0 : V) (S : St) : F34 self N x0 S =
(boxK 24 x0 S).bind fun p0 =>
(ldA 5 p0.1 p0.2).bind fun p2 =>
callP (self.f 57 [p2.1, (.int .i64 14)] p2.2) fun t3 S3 =>
some (.ret t3, S3) := by kernel_rfl
noncomputable def C35 : Code := Try.f35.body.getD .skip
noncomputable def B35 : D := (annot C35 [[], []]).1
noncomputable def F35 (self : EV) (N : Nat) (x0 : V) (S : St) : Rs := runF E0 self N Try.f35 B35 [x0] S
theorem F35_eq (self : EV) (N : Nat) (x0 : V) (S : St) : F35 self N x0 S =
(boxK 24 x0 S).bind fun p0 =>
(ldA 5 p0.1 p0.2).bind fun p2 =>
callP (self.f 58 [p2.1] p2.2) fun t3 S3 =>
(binV E0 .gtr 3 false true t3 (.int .i64 12)).bind fun t4 =>
some (.ret t4, S3) := by kernel_rfl
noncomputable def C36 : Code := Try.f36.body.getD .skip
noncomputable def B36 : D := (annot C36 [[], [], [], [], [], [], [], [], [], [], [], []]).1
noncomputable def F36 (self : EV) (N : Nat) (x0 : V) (S : St) : Rs := runF E0 self N Try.f36 B36 [x0] S
theorem F36_eq (self : EV) (N : Nat) (x0 : V) (S : St) : F36 self N x0 S =
(boxK 24 x0 S).bind fun p0 =>
(faP 1 false 1 p0.1).bind fun t6 =>
(ld1 t6 p0.2).bind fun p7 =>
(binV E0 .eql 3 false true p7.1 (.int .i64 1)).bind fun t8 =>
ifK t8 (
callP (callK E0 self (.fn (.func 59) [] [p0.1]) [] p7.2) fun t11 S11 =>
some (.ret t11, S11)) (
(binV E0 .eql 3 false true p7.1 (.int .i64 3)).bind fun t13 =>
ifK t13 (
(bsP 29 1 3 (one .nilfn) [(0, (.fn (.func 59) [] [p0.1])), (1, (.fn (.func 60) [] [p0.1])), (2, (.fn (.func 62) [] [p0.1]))] p7.2).bind fun p18 =>
callP (self.f 61 [p18.1] p18.2) fun t19 S19 =>
some (.ret t19, S19)) (
(binV E0 .eql 3 false true p7.1 (.int .i64 2)).bind fun t21 =>
ifK t21 (
(bsP 29 1 3 (one .nilfn) [(0, (.fn (.func 60) [] [p0.1])), (1, (.fn (.func 64) [] [p0.1])), (2, (.fn (.func 65) [] [p0.1]))] p7.2).bind fun p26 =>
callP (self.f 61 [p26.1] p26.2) fun t27 S27 =>
some (.ret t27, S27)) (
some (.ret (.bool false), p7.2)))) := by kernel_rfl
noncomputable def C38 : Code := Try.f38.body.getD .skip
noncomputable def B38 : D := (annot C38 [[], [], [], [2, 3, 12, 13, 14], [], [2, 3], [], [], [], [2, 3, 12, 13, 14], [], [], [], [0, 2, 3], [2, 3], []]).1
noncomputable def RL38 : List Nat := cellsOf Try.f38.results.toList
noncomputable def R38_8 (self : EV) (N : Nat) (nk : Ac → St → Rs) (ek : Nat → Ac → St → Rs) (a : Ac) (S : St) : Rs := projK [2, 3] a fun a => dr E0 self RL38 N (B38.r.r).r (mkK E0 self Try.f38 nk ek) a S
theorem R38_8_eq (self : EV) (N : Nat) (nk : Ac → St → Rs) (ek : Nat → Ac → St → Rs) ( v2 v3 : V) (S : St) : R38_8 self N nk ek (fr 34 [(2, v2), (3, v3)]) S =
some (.ret (.tuple [v2, v3]), S) := by kernel_rfl
noncomputable def L38_17 (self : EV) (N : Nat) (nk : Ac → St → Rs) (ek : Nat → Ac → St → Rs) (n : Nat) ( v2 v3 v12 v13 v14 : V) (S : St) : Rs := loopK [2, 3, 12, 13, 14] (dr E0 self RL38 N (B38.r.r.l.r.l.l)) (mkK E0 self Try.f38 nk ek) n (fr 34 [(2, v2), (3, v3), (12, v12), (13, v13), (14, v14)]) S
theorem L38_17_eq (self : EV) (N : Nat) (nk : Ac → St → Rs) (ek : Nat → Ac → St → Rs) (n : Nat) ( v2 v3 v12 v13 v14 : V) (S : St) : L38_17 self N nk ek (n + 1) v2 v3 v12 v13 v14 S =
(binV E0 .lss 3 false false v14 v13).bind fun t18 =>
ifK t18 (
(ixP 5 v12 v14).bind fun t19 =>
(ldA 5 t19 S).bind fun p20 =>
(some (nwP 24 5 (Tr.ofListFrom .nil [(sv []), (.int .i64 0), (.bool false), (sv []), .nilslice] 0) p20.2)).bind fun p21 =>
(stP 5 p21.1 p20.1 p21.2).bind fun p22 =>
(ldA 5 p21.1 p22.2).bind fun p23 =>
callP (self.f 35 [p23.1] p23.2) fun t24 S24 =>
ifK t24 (
(binV E0 .add 3 false true v14 (.int .i64 1)).bind fun t25 =>
L38_17 self N nk ek n v2 v3 v12 v13 t25 S24) (
(ldA 5 p21.1 S24).bind fun p27 =>
callP (self.f 38 [p27.1] p27.2) fun t28 S28 =>
(extractV t28 0).bind fun t30 =>
(extractV t28 1).bind fun t31 =>
(binV E0 .add 3 false false v2 t30).bind fun t36 =>
(binV E0 .add 3 false false v3 t31).bind fun t39 =>
(binV E0 .add 3 false true v14 (.int .i64 1)).bind fun t42 =>
L38_17 self N nk ek n t36 t39 v12 v13 t42 S28)) (
ek 0 (fr 34 [(2, v2), (3, v3)]) S) := by kernel_rfl
noncomputable def F38 (self : EV) (N : Nat) (x0 : V) (S : St) : Rs := runF E0 self N Try.f38 B38 [x0] S
theorem F38_eq (self : EV) (N : Nat) (x0 : V) (S : St) : F38 self N x0 S =
(boxK 24 x0 S).bind fun p0 =>
(faP 3 false 1 p0.1).bind fun t3 =>
(ld1 t3 (onS p0.2)).bind fun p4 =>
(lnStr p4.1 (onS p4.2)).bind fun p5 =>
(faP 4 false 1 p0.1).bind fun t13 =>
(ld1 t13 (relog p0.2 (onS p5.2) [[], p4.2.log, p5.2.log, [], []])).bind fun p14 =>
(lnS p14.1 p14.2).bind fun p15 =>
L38_17 self N (R38_8 self N (finN E0 self Try.f38) noEx) (exB 0 (R38_8 self N (finN E0 self Try.f38) noEx) noEx) N (.int .i64 1) p5.1 p14.1 p15.1 (.int .i64 0) p15.2 := by kernel_rfl
noncomputable def C44 : Code := Try.f44.body.getD .skip
noncomputable def B44 : D := (annot C44 [[], [], [], [], [], [], [1, 3], [], [1], [], [], [], [], [0, 1], [], [], [], [], [1, 4], [], [1], [], [], [], [], [0, 1], [], [], [0], [2], []]).1
noncomputable def RL44 : List Nat := cellsOf Try.f44.results.toList
noncomputable def R44_2 (self : EV) (N : Nat) (nk : Ac → St → Rs) (ek : Nat → Ac → St → Rs) (a : Ac) (S : St) : Rs := projK [] a fun a => dr E0 self RL44 N (B44.r).r (mkK E0 self Try.f44 nk ek) a S
theorem R44_2_eq (self : EV) (N : Nat) (nk : Ac → St → Rs) (ek : Nat → Ac → St → Rs) (S : St) : R44_2 self N nk ek (fr 102 []) S =
some (.ret (.bool false), S) := by kernel_rfl
noncomputable def R44_15 (self : EV) (N : Nat) (nk : Ac → St → Rs) (ek : Nat → Ac → St → Rs) (a : Ac) (S : St) : Rs := projK [1] a fun a => dr E0 self RL44 N (B44.r.l.r.l.r.r.r.l).r (mkK E0 self Try.f44 nk ek) a S
theorem R44_15_eq (self : EV) (N : Nat) (nk : Ac → St → Rs) (ek : Nat → Ac → St → Rs) ( v1 : V) (S : St) : R44_15 self N nk ek (fr 102 [(1, v1)]) S =
(faP 2 false 1 v1).bind fun t16 =>
(ld1 t16 S).bind fun p17 =>
(unV .not p17.1).bind fun t18 =>
(guardV true t18).bind fun g20 => (bif g20 then faP 4 false 1 v1 else some (.tuple [])).bind fun t20 =>
(guardV true t18).bind fun g21 => (bif g21 then ld1 t20 p17.2 else some (.tuple [], p17.2)).bind fun p21 =>
(guardV true t18).bind fun g22 => (bif g22 then lnS p21.1 p21.2 else some (.tuple [], p21.2)).bind fun p22 =>
(guardV true t18).bind fun g23 => (bif g23 then binV E0 .eql 3 false true p22.1 (.int .i64 0) else some (.tuple [])).bind fun t23 =>
(pickV t18 (some t23) (some (.bool false))).bind fun t24 =>
(guardV true t24).bind fun g26 => (bif g26 then faP 3 false 1 v1 else some (.tuple [])).bind fun t26 =>
(guardV true t24).bind fun g27 => (bif g27 then ld1 t26 p22.2 else some (.tuple [], p22.2)).bind fun p27 =>
(guardV true t24).bind fun g28 => (bif g28 then lnStr p27.1 p27.2 else some (.tuple [], p27.2)).bind fun p28 =>
(guardV true t24).bind fun g29 => (bif g29 then binV E0 .geq 3 false true p28.1 (.int .i64 1) else some (.tuple [])).bind fun t29 =>
(pickV t24 (some t29) (some (.bool false))).bind fun t30 =>
(guardV true t30).bind fun g32 => (bif g32 then faP 3 false 1 v1 else some (.tuple [])).bind fun t32 =>
(guardV true t30).bind fun g33 => (bif g33 then ld1 t32 p28.2 else some (.tuple [], p28.2)).bind fun p33 =>
(guardV true t30).bind fun g34 => (bif g34 then lnStr p33.1 p33.2 else some (.tuple [], p33.2)).bind fun p34 =>
(guardV true t30).bind fun g35 => (bif g35 then binV E0 .leq 3 false true p34.1 (.int .i64 255) else some (.tuple [])).bind fun t35 =>
(pickV t30 (some t35) (some (.bool false))).bind fun t36 =>
some (.ret t36, p34.2) := by kernel_rfl
noncomputable def L44_39 (self : EV) (N : Nat) (nk : Ac → St → Rs) (ek : Nat → Ac → St → Rs) (n : Nat) ( v1 v3 : V) (S : St) : Rs := loopK [1, 3] (dr E0 self RL44 N (B44.r.l.r.l.r.r.r.l.l.r.l.l)) (mkK E0 self Try.f44 nk ek) n (fr 102 [(1, v1), (3, v3)]) S
theorem L44_39_eq (self : EV) (N : Nat) (nk : Ac → St → Rs) (ek : Nat → Ac → St → Rs) (n : Nat) ( v1 v3 : V) (S : St) : L44_39 self N nk ek (n + 1) v1 v3 S =
(faP 3 false 1 v1).bind fun t41 =>
(ld1 t41 S).bind fun p42 =>
(lnStr p42.1 p42.2).bind fun p43 =>
(binV E0 .lss 3 false false v3 p43.1).bind fun t44 =>
ifK t44 (
(faP 3 false 1 v1).bind fun t45 =>
(ld1 t45 p43.2).bind fun p46 =>
(ixS p46.1 v3).bind fun t48 =>
(binV E0 .eql 5 false true t48 (.int .u8 0)).bind fun t49 =>
ifK t49 (
some (.ret (.bool false), p46.2)) (
(binV E0 .add 3 false true v3 (.int .i64 1)).bind fun t52 =>
L44_39 self N nk ek n v1 t52 p46.2)) (
ek 1 (fr 102 [(1, v1)]) p43.2) := by kernel_rfl
noncomputable def R44_56 (self : EV) (N : Nat) (nk : Ac → St → Rs) (ek : Nat → Ac → St → Rs) (a : Ac) (S : St) : Rs := projK [1] a fun a => dr E0 self RL44 N (B44.r.l.r.l.r.r.r.r.r.l).r (mkK E0 self Try.f44 nk ek) a S
theorem R44_56_eq (self : EV) (N : Nat) (nk : Ac → St → Rs) (ek : Nat → Ac → St → Rs) ( v1 : V) (S : St) : R44_56 self N nk ek (fr 102 [(1, v1)]) S =
(faP 2 false 1 v1).bind fun t57 =>
(ld1 t57 S).bind fun p58 =>
(unV .not p58.1).bind fun t59 =>
(guardV true t59).bind fun g61 => (bif g61 then faP 3 false 1 v1 else some (.tuple [])).bind fun t61 =>
(guardV true t59).bind fun g62 => (bif g62 then ld1 t61 p58.2 else some (.tuple [], p58.2)).bind fun p62 =>
(guardV true t59).bind fun g63 => (bif g63 then binV E0 .eql 9 false true p62.1 (sv []) else some (.tuple [])).bind fun t63 =>
(pickV t59 (some t63) (some (.bool false))).bind fun t64 =>
some (.ret t64, p62.2) := by kernel_rfl
noncomputable def L44_67 (self : EV) (N : Nat) (nk : Ac → St → Rs) (ek : Nat → Ac → St → Rs) (n : Nat) ( v1 v4 : V) (S : St) : Rs := loopK [1, 4] (dr E0 self RL44 N (B44.r.l.r.l.r.r.r.r.r.l.l.r.l.l)) (mkK E0 self Try.f44 nk ek) n (fr 102 [(1, v1), (4, v4)]) S
theorem L44_67_eq (self : EV) (N : Nat) (nk : Ac → St → Rs) (ek : Nat → Ac → St → Rs) (n : Nat) ( v1 v4 : V) (S : St) : L44_67 self N nk ek (n + 1) v1 v4 S =
(faP 4 false 1 v1).bind fun t69 =>
(ld1 t69 S).bind fun p70 =>
(lnS p70.1 p70.2).bind fun p71 =>
(binV E0 .lss 3 false false v4 p71.1).bind fun t72 =>
ifK t72 (
(faP 4 false 1 v1).bind fun t73 =>
(ld1 t73 (onS p71.2)).bind fun p74 =>
(ixP 5 p74.1 v4).bind fun t76 =>
(faP 0 false 1 t76).bind fun t77 =>
(ld1 t77 (onS p74.2)).bind fun p78 =>
callD (planOf E0 (B44.r.l.r.l.r.r.r.r.r.l.l.r.l.l.r.l.l.l).ops) p71.2 6 [[], p74.2.log, [], [], [], p78.2.log] (self.f 68 [p78.1] (onS p78.2)) fun t79 S79 =>
(unV .not t79).bind fun t80 =>
(guardV false t80).bind fun g82 => (bif g82 then faP 4 false 1 v1 else some (.tuple [])).bind fun t82 =>
(guardV false t80).bind fun g83 => (bif g83 then ld1 t82 (onS S79) else some (.tuple [], (onS S79))).bind fun p83 =>
(guardV false t80).bind fun g84 => (bif g84 then some v4 else some (.tuple [])).bind fun t84 =>
(guardV false t80).bind fun g85 => (bif g85 then ixP 5 p83.1 t84 else some (.tuple [])).bind fun t85 =>
(guardV false t80).bind fun g86 => (bif g86 then ldA 5 t85 (onS p83.2) else some (.tuple [], (onS p83.2))).bind fun p86 =>
(guardV false t80).bind fun g87 => callD (planOf E0 (B44.r.l.r.l.r.r.r.r.r.l.l.r.l.l.r.l.l.l).ops) p71.2 14 [[], p74.2.log, [], [], [], p78.2.log, S79.log, [], [], [], p83.2.log, [], [], p86.2.log] (bif g87 then self.f 44 [p86.1] (onS p86.2) else some (.ret (.tuple []), (onS p86.2))) fun t87 S87 =>
(guardV false t80).bind fun g88 => (bif g88 then unV .not t87 else some (.tuple [])).bind fun t88 =>
(pickV t80 (some (.bool true)) (some t88)).bind fun t89 =>
(guardV false t89).bind fun g91 => (bif g91 then some v4 else some (.tuple [])).bind fun t91 =>
(guardV false t89).bind fun g92 => (bif g92 then binV E0 .gtr 3 false true t91 (.int .i64 0) else some (.tuple [])).bind fun t92 =>
(guardV false t89).bind fun g93 => (bif g93 then some t92 else some (.tuple [])).bind fun t93 =>
(guardV true t93).bind fun g94 => (bif g94 then faP 4 false 1 v1 else some (.tuple [])).bind fun t94 =>
(guardV true t93).bind fun g95 => (bif g95 then ld1 t94 (onS S87) else some (.tuple [], (onS S87))).bind fun p95 =>
(guardV true t93).bind fun g96 => (bif g96 then some v4 else some (.tuple [])).bind fun t96 =>
(guardV true t93).bind fun g97 => (bif g97 then binV E0 .sub 3 false true t96 (.int .i64 1) else some (.tuple [])).bind fun t97 =>
(guardV true t93).bind fun g98 => (bif g98 then ixP 5 p95.1 t97 else some (.tuple [])).bind fun t98 =>
(guardV true t93).bind fun g99 => (bif g99 then faP 0 false 1 t98 else some (.tuple [])).bind fun t99 =>
(guardV true t93).bind fun g100 => (bif g100 then ld1 t99 (onS p95.2) else some (.tuple [], (onS p95.2))).bind fun p100 =>
(guardV true t93).bind fun g101 => (bif g101 then faP 4 false 1 v1 else some (.tuple [])).bind fun t101 =>
(guardV true t93).bind fun g102 => (bif g102 then ld1 t101 (onS p100.2) else some (.tuple [], (onS p100.2))).bind fun p102 =>
(guardV true t93).bind fun g103 => (bif g103 then some v4 else some (.tuple [])).bind fun t103 =>
(guardV true t93).bind fun g104 => (bif g104 then ixP 5 p102.1 t103 else some (.tuple [])).bind fun t104 =>
(guardV true t93).bind fun g105 => (bif g105 then faP 0 false 1 t104 else some (.tuple [])).bind fun t105 =>
(guardV true t93).bind fun g106 => (bif g106 then ld1 t105 (onS p102.2) else some (.tuple [], (onS p102.2))).bind fun p106 =>
(guardV true t93).bind fun g107 => (bif g107 then binV E0 .geq 9 false false p100.1 p106.1 else some (.tuple [])).bind fun t107 =>
(guardV false t89).bind fun g108 => (bif g108 then pickV t93 (some t107) (some (.bool false)) else some (.tuple [])).bind fun t108 =>
(pickV t89 (some (.bool true)) (some t108)).bind fun t109 =>
endP [(22, [29, 33]), (27, [29, 33])] p71.2 [[], p74.2.log, [], [], [], p78.2.log, S79.log, [], [], [], p83.2.log, [], [], p86.2.log, S87.log, [], [], [], [], [], [], [], p95.2.log, [], [], [], [], p100.2.log, [], p102.2.log, [], [], [], p106.2.log, [], [], []] (onS p106.2) fun S110 =>
ifK t109 (
some (.ret (.bool false), S110)) (
(binV E0 .add 3 false true v4 (.int .i64 1)).bind fun t113 =>
L44_67 self N nk ek n v1 t113 S110)) (
ek 3 (fr 102 [(1, v1)]) p71.2) := by kernel_rfl
noncomputable def F44 (self : EV) (N : Nat) (x0 : V) (S : St) : Rs := runF E0 self N Try.f44 B44 [x0] S
theorem F44_eq (self : EV) (N : Nat) (x0 : V) (S : St) : F44 self N x0 S =
(boxK 24 x0 S).bind fun p0 =>
(faP 1 false 1 p0.1).bind fun t4 =>
(ld1 t4 p0.2).bind fun p5 =>
(binV E0 .eql 3 false true p5.1 (.int .i64 1)).bind fun t6 =>
ifK t6 (
(faP 4 false 1 p0.1).bind fun t8 =>
(ld1 t8 p5.2).bind fun p9 =>
(lnS p9.1 p9.2).bind fun p10 =>
(binV E0 .eql 3 false true p10.1 (.int .i64 0)).bind fun t11 =>
some (.ret t11, p10.2)) (
(binV E0 .eql 3 false true p5.1 (.int .i64 3)).bind fun t13 =>
ifK t13 (
L44_39 self N (R44_15 self N (R44_2 self N (finN E0 self Try.f44) noEx) (exB 0 (R44_2 self N (finN E0 self Try.f44) noEx) noEx)) (exB 1 (R44_15 self N (R44_2 self N (finN E0 self Try.f44) noEx) (exB 0 (R44_2 self N (finN E0 self Try.f44) noEx) noEx)) (exB 0 (R44_2 self N (finN E0 self Try.f44) noEx) noEx)) N p0.1 (.int .i64 0) p5.2) (
(binV E0 .eql 3 false true p5.1 (.int .i64 2)).bind fun t54 =>
ifK t54 (
L44_67 self N (R44_56 self N (R44_2 self N (finN E0 self Try.f44) noEx) (exB 0 (R44_2 self N (finN E0 self Try.f44) noEx) noEx)) (exB 3 (R44_56 self N (R44_2 self N (finN E0 self Try.f44) noEx) (exB 0 (R44_2 self N (finN E0 self Try.f44) noEx) noEx)) (exB 0 (R44_2 self N (finN E0 self Try.f44) noEx) noEx)) N p0.1 (.int .i64 0) p5.2) (
R44_2 self N (finN E0 self Try.f44) noEx (fr 102 []) p5.2))) := by kernel_rfl
noncomputable def C45 : Code := Try.f45.body.getD .skip
noncomputable def B45 : D := (annot C45 [[], [], [], [], [], [], [1, 4, 5, 6], [], [4, 5], [], [], [], [], [0, 4, 5], [2, 3], []]).1
noncomputable def RL45 : List Nat := cellsOf Try.f45.results.toList
noncomputable def R45_13 (self : EV) (N : Nat) (nk : Ac → St → Rs) (ek : Nat → Ac → St → Rs) (a : Ac) (S : St) : Rs := projK [4, 5] a fun a => dr E0 self RL45 N (B45.r.r.r).r (mkK E0 self Try.f45 nk ek) a S
theorem R45_13_eq (self : EV) (N : Nat) (nk : Ac → St → Rs) (ek : Nat → Ac → St → Rs) ( v4 v5 : V) (S : St) : R45_13 self N nk ek (fr 39 [(4, v4), (5, v5)]) S =
some (.ret (.tuple [v4, v5]), S) := by kernel_rfl
noncomputable def L45_19 (self : EV) (N : Nat) (nk : Ac → St → Rs) (ek : Nat → Ac → St → Rs) (n : Nat) ( v1 v4 v5 v6 : V) (S : St) : Rs := loopK [1, 4, 5, 6] (dr E0 self RL45 N (B45.r.r.r.l.r.l.l)) (mkK E0 self Try.f45 nk ek) n (fr 39 [(1, v1), (4, v4), (5, v5), (6, v6)]) S
theorem L45_19_eq (self : EV) (N : Nat) (nk : Ac → St → Rs) (ek : Nat → Ac → St → Rs) (n : Nat) ( v1 v4 v5 v6 : V) (S : St) : L45_19 self N nk ek (n + 1) v1 v4 v5 v6 S =
(faP 4 false 1 v1).bind fun t21 =>
(ld1 t21 S).bind fun p22 =>
(lnS p22.1 p22.2).bind fun p23 =>
(binV E0 .lss 3 false false v6 p23.1).bind fun t24 =>
ifK t24 (
(faP 4 false 1 v1).bind fun t25 =>
(ld1 t25 p23.2).bind fun p26 =>
(ixP 5 p26.1 v6).bind fun t28 =>
(ldA 5 t28 p26.2).bind fun p29 =>
callP (self.f 45 [p29.1] p29.2) fun t30 S30 =>
(extractV t30 0).bind fun t32 =>
(extractV t30 1).bind fun t33 =>
(binV E0 .add 3 false false v4 t32).bind fun t38 =>
(binV E0 .add 3 false false v5 t33).bind fun t42 =>
(binV E0 .add 3 false true v6 (.int .i64 1)).bind fun t45 =>
L45_19 self N nk ek n v1 t38 t42 t45 S30) (
ek 0 (fr 39 [(4, v4), (5, v5)]) p23.2) := by kernel_rfl
noncomputable def F45 (self : EV) (N : Nat) (x0 : V) (S : St) : Rs := runF E0 self N Try.f45 B45 [x0] S
theorem F45_eq (self : EV) (N : Nat) (x0 : V) (S : St) : F45 self N x0 S =
(boxK 24 x0 S).bind fun p0 =>
(ldA 5 p0.1 p0.2).bind fun p3 =>
callP (self.f 34 [p3.1] p3.2) fun t4 S4 =>
(binV E0 .gtr 3 false true t4 (.int .i64 12)).bind fun t5 =>
ifK t5 (
some (.ret (.tuple [(.int .i64 0), (.int .i64 0)]), S4)) (
(faP 3 false 1 p0.1).bind fun t8 =>
(ld1 t8 (onS S4)).bind fun p9 =>
(lnStr p9.1 (onS p9.2)).bind fun p10 =>
L45_19 self N (R45_13 self N (finN E0 self Try.f45) noEx) (exB 0 (R45_13 self N (finN E0 self Try.f45) noEx) noEx) N p0.1 (.int .i64 1) p10.1 (.int .i64 0) (relog S4 (onS p10.2) [[], p9.2.log, p10.2.log, [], []])) := by kernel_rfl
noncomputable def C57 : Code := Try.f57.body.getD .skip
noncomputable def B57 : D := (annot C57 [[], [], [], [], [], [], [1, 2, 5, 6], [], [5], [], [], [0, 5], [4], []]).1
noncomputable def RL57 : List Nat := cellsOf Try.f57.results.toList
noncomputable def R57_11 (self : EV) (N : Nat) (nk : Ac → St → Rs) (ek : Nat → Ac → St → Rs) (a : Ac) (S : St) : Rs := projK [5] a fun a => dr E0 self RL57 N (B57.r.r.r).r (mkK E0 self Try.f57 nk ek) a S
theorem R57_11_eq (self : EV) (N : Nat) (nk : Ac → St → Rs) (ek : Nat → Ac → St → Rs) ( v5 : V) (S : St) : R57_11 self N nk ek (fr 33 [(5, v5)]) S =
some (.ret v5, S) := by kernel_rfl
noncomputable def L57_15 (self : EV) (N : Nat) (nk : Ac → St → Rs) (ek : Nat → Ac → St → Rs) (n : Nat) ( v1 v2 v5 v6 : V) (S : St) : Rs := loopK [1, 2, 5, 6] (dr E0 self RL57 N (B57.r.r.r.l.r.l.l)) (mkK E0 self Try.f57 nk ek) n (fr 33 [(1, v1), (2, v2), (5, v5), (6, v6)]) S
theorem L57_15_eq (self : EV) (N : Nat) (nk : Ac → St → Rs) (ek : Nat → Ac → St → Rs) (n : Nat) ( v1 v2 v5 v6 : V) (S : St) : L57_15 self N nk ek (n + 1) v1 v2 v5 v6 S =
(faP 4 false 1 v2).bind fun t17 =>
(ld1 t17 S).bind fun p18 =>
(lnS p18.1 p18.2).bind fun p19 =>
(binV E0 .lss 3 false false v6 p19.1).bind fun t20 =>
ifK t20 (
(faP 4 false 1 v2).bind fun t22 =>
(ld1 t22 p19.2).bind fun p23 =>
(ixP 5 p23.1 v6).bind fun t25 =>
(ldA 5 t25 p23.2).bind fun p26 =>
(binV E0 .sub 3 false true v1 (.int .i64 1)).bind fun t28 =>
callP (self.f 57 [p26.1, t28] p26.2) fun t29 S29 =>
(binV E0 .add 3 true false (.int .i64 1) t29).bind fun t30 =>
(foldK maxV v5 [t30] S29).bind fun p31 =>
(binV E0 .add 3 false true v6 (.int .i64 1)).bind fun t34 =>
L57_15 self N nk ek n v1 v2 p31.1 t34 p31.2) (
ek 0 (fr 33 [(5, v5)]) p19.2) := by kernel_rfl
noncomputable def F57 (self : EV) (N : Nat) (x0 x1 : V) (S : St) : Rs := runF E0 self N Try.f57 B57 [x0, x1] S
theorem F57_eq (self : EV) (N : Nat) (x0 x1 : V) (S : St) : F57 self N x0 x1 S =
(boxK 24 x0 S).bind fun p0 =>
(faP 1 false 1 p0.1).bind fun t2 =>
(ld1 t2 p0.2).bind fun p3 =>
(binV E0 .neq 3 false true p3.1 (.int .i64 2)).bind fun t4 =>
(guardV false t4).bind fun g6 => (bif g6 then some x1 else some (.tuple [])).bind fun t6 =>
(guardV false t4).bind fun g7 => (bif g7 then binV E0 .eql 3 false true t6 (.int .i64 1) else some (.tuple [])).bind fun t7 =>
(pickV t4 (some (.bool true)) (some t7)).bind fun t8 =>
ifK t8 (
some (.ret (.int .i64 1), p3.2)) (
L57_15 self N (R57_11 self N (finN E0 self Try.f57) noEx) (exB 0 (R57_11 self N (finN E0 self Try.f57) noEx) noEx) N x1 p0.1 (.int .i64 1) (.int .i64 0) p3.2) := by kernel_rfl
noncomputable def C58 : Code := Try.f58.body.getD .skip
noncomputable def B58 : D := (annot C58 [[], []]).1
noncomputable def F58 (self : EV) (N : Nat) (x0 : V) (S : St) : Rs := runF E0 self N Try.f58 B58 [x0] S
theorem F58_eq (self : EV) (N : Nat) (x0 : V) (S : St) : F58 self N x0 S =
(boxK 24 x0 S).bind fun p0 =>
(ldA 5 p0.1 p0.2).bind fun p2 =>
callP (self.f 70 [p2.1, (.int .i64 14)] p2.2) fun t3 S3 =>
some (.ret t3, S3) := by kernel_rfl
noncomputable def C59 : Code := Try.f59.body.getD .skip
noncomputable def B59 : D := (annot C59 [[], []]).1
noncomputable def F59 (self : EV) (N : Nat) (x0 : V) (S : St) : Rs := runF E0 self N Try.f59 B59 [x0] S
theorem F59_eq (self : EV) (N : Nat) (x0 : V) (S : St) : F59 self N x0 S =
(faP 4 false 1 x0).bind fun t1 =>
(ld1 t1 S).bind fun p2 =>
(lnS p2.1 p2.2).bind fun p3 =>
(binV E0 .eql 3 false true p3.1 (.int .i64 0)).bind fun t4 =>
some (.ret t4, p3.2) := by kernel_rfl
noncomputable def C60 : Code := Try.f60.body.getD .skip
noncomputable def B60 : D := (annot C60 [[], []]).1
noncomputable def F60 (self : EV) (N : Nat) (x0 : V) (S : St) : Rs := runF E0 self N Try.f60 B60 [x0] S
theorem F60_eq (self : EV) (N : Nat) (x0 : V) (S : St) : F60 self N x0 S =
(faP 2 false 1 x0).bind fun t1 =>
(ld1 t1 S).bind fun p2 =>
(unV .not p2.1).bind fun t3 =>
some (.ret t3, p2.2) := by kernel_rfl
noncomputable def C61 : Code := Try.f61.body.getD .skip
noncomputable def B61 : D := (annot C61 [[], []]).1
noncomputable def F61 (self : EV) (N : Nat) (x0 : V) (S : St) : Rs := runF E0 self N Try.f61 B61 [x0] S
theorem F61_eq (self : EV) (N : Nat) (x0 : V) (S : St) : F61 self N x0 S =
callP (self.f 71 [x0, (.fn (.func 72) [] [])] S) fun t2 S2 =>
(unV .not t2).bind fun t3 =>
some (.ret t3, S2) := by kernel_rfl
noncomputable def C62 : Code := Try.f62.body.getD .skip
noncomputable def B62 : D := (annot C62 [[], []]).1
noncomputable def F62 (self : EV) (N : Nat) (x0 : V) (S : St) : Rs := runF E0 self N Try.f62 B62 [x0] S
theorem F62_eq (self : EV) (N : Nat) (x0 : V) (S : St) : F62 self N x0 S =
(faP 3 false 1 x0).bind fun t1 =>
(ld1 t1 S).bind fun p2 =>
(lnStr p2.1 p2.2).bind fun p3 =>
(binV E0 .geq 3 false true p3.1 (.int .i64 1)).bind fun t4 =>
(guardV true t4).bind fun g6 => (bif g6 then faP 3 false 1 x0 else some (.tuple [])).bind fun t6 =>
(guardV true t4).bind fun g7 => (bif g7 then ld1 t6 p3.2 else some (.tuple [], p3.2)).bind fun p7 =>
(guardV true t4).bind fun g8 => (bif g8 then lnStr p7.1 p7.2 else some (.tuple [], p7.2)).bind fun p8 =>
(guardV true t4).bind fun g9 => (bif g9 then binV E0 .leq 3 false true p8.1 (.int .i64 255) else some (.tuple [])).bind fun t9 =>
(pickV t4 (some t9) (some (.bool false))).bind fun t10 =>
(guardV true t10).bind fun g12 => (bif g12 then faP 3 false 1 x0 else some (.tuple [])).bind fun t12 =>
(guardV true t10).bind fun g13 => (bif g13 then ld1 t12 p8.2 else some (.tuple [], p8.2)).bind fun p13 =>
(guardV true t10).bind fun g14 => callP (bif g14 then self.f 63 [p13.1, (.int .u8 0)] p13.2 else some (.ret (.tuple []), p13.2)) fun t14 S14 =>
(guardV true t10).bind fun g15 => (bif g15 then binV E0 .lss 3 false true t14 (.int .i64 0) else some (.tuple [])).bind fun t15 =>
(pickV t10 (some t15) (some (.bool false))).bind fun t16 =>
some (.ret t16, S14) := by kernel_rfl
noncomputable def C63 : Code := Try.f63.body.getD .skip
noncomputable def B63 : D := (annot C63 [[], []]).1
noncomputable def F63 (self : EV) (N : Nat) (x0 x1 : V) (S : St) : Rs := runF E0 self N Try.f63 B63 [x0, x1] S
theorem F63_eq (self : EV) (N : Nat) (x0 x1 : V) (S : St) : F63 self N x0 x1 S =
callP (self.f 73 [x0, x1] S) fun t3 S3 =>
some (.ret t3, S3) := by kernel_rfl
noncomputable def C64 : Code := Try.f64.body.getD .skip
noncomputable def B64 : D := (annot C64 [[], []]).1
noncomputable def F64 (self : EV) (N : Nat) (x0 : V) (S : St) : Rs := runF E0 self N Try.f64 B64 [x0] S
theorem F64_eq (self : EV) (N : Nat) (x0 : V) (S : St) : F64 self N x0 S =
(faP 3 false 1 x0).bind fun t1 =>
(ld1 t1 S).bind fun p2 =>
(binV E0 .eql 9 false true p2.1 (sv [])).bind fun t3 =>
some (.ret t3, p2.2) := by kernel_rfl
noncomputable def C65 : Code := Try.f65.body.getD .skip
noncomputable def B65 : D := (annot C65 [[], [], [0, 5, 6, 7], [], [], [], [], [], [], [], [0], [1], []]).1
noncomputable def RL65 : List Nat := cellsOf Try.f65.results.toList
noncomputable def R65_1 (self : EV) (N : Nat) (nk : Ac → St → Rs) (ek : Nat → Ac → St → Rs) (a : Ac) (S : St) : Rs := projK [] a fun a => dr E0 self RL65 N (B65.r).r (mkK E0 self Try.f65 nk ek) a S
theorem R65_1_eq (self : EV) (N : Nat) (nk : Ac → St → Rs) (ek : Nat → Ac → St → Rs) (S : St) : R65_1 self N nk ek (fr 38 []) S =
some (.ret (.bool true), S) := by kernel_rfl
noncomputable def L65_7 (self : EV) (N : Nat) (nk : Ac → St → Rs) (ek : Nat → Ac → St → Rs) (n : Nat) ( v0 v5 v6 v7 : V) (S : St) : Rs := loopK [0, 5, 6, 7] (dr E0 self RL65 N (B65.r.l.r.l.l)) (mkK E0 self Try.f65 nk ek) n (fr 38 [(0, v0), (5, v5), (6, v6), (7, v7)]) S
theorem L65_7_eq (self : EV) (N : Nat) (nk : Ac → St → Rs) (ek : Nat → Ac → St → Rs) (n : Nat) ( v0 v5 v6 v7 : V) (S : St) : L65_7 self N nk ek (n + 1) v0 v5 v6 v7 S =
(binV E0 .lss 3 false false v7 v6).bind fun t8 =>
ifK t8 (
(ixP 5 v5 v7).bind fun t10 =>
(ldA 5 t10 S).bind fun p11 =>
(some (nwP 24 5 (Tr.ofListFrom .nil [(sv []), (.int .i64 0), (.bool false), (sv []), .nilslice] 0) p11.2)).bind fun p12 =>
(stP 5 p12.1 p11.1 p12.2).bind fun p14 =>
(faP 0 false 1 p12.1).bind fun t15 =>
(ld1 t15 (onS p14.2)).bind fun p16 =>
callD (planOf E0 (B65.r.l.r.l.l.r.r.l.l.r.l).ops) p14.2 2 [[], p16.2.log] (self.f 66 [p16.1] (onS p16.2)) fun t17 S17 =>
(unV .not t17).bind fun t18 =>
(guardV false t18).bind fun g20 => (bif g20 then ldA 5 p12.1 (onS S17) else some (.tuple [], (onS S17))).bind fun p20 =>
(guardV false t18).bind fun g21 => callD (planOf E0 (B65.r.l.r.l.l.r.r.l.l.r.l).ops) p14.2 6 [[], p16.2.log, S17.log, [], [], p20.2.log] (bif g21 then self.f 36 [p20.1] (onS p20.2) else some (.ret (.tuple []), (onS p20.2))) fun t21 S21 =>
(guardV false t18).bind fun g22 => (bif g22 then unV .not t21 else some (.tuple [])).bind fun t22 =>
(pickV t18 (some (.bool true)) (some t22)).bind fun t23 =>
(guardV false t23).bind fun g25 => (bif g25 then some v7 else some (.tuple [])).bind fun t25 =>
(guardV false t23).bind fun g26 => (bif g26 then binV E0 .gtr 3 false true t25 (.int .i64 0) else some (.tuple [])).bind fun t26 =>
(guardV false t23).bind fun g27 => (bif g27 then some t26 else some (.tuple [])).bind fun t27 =>
(guardV true t27).bind fun g28 => (bif g28 then faP 4 false 1 v0 else some (.tuple [])).bind fun t28 =>
(guardV true t27).bind fun g29 => (bif g29 then ld1 t28 (onS S21) else some (.tuple [], (onS S21))).bind fun p29 =>
(guardV true t27).bind fun g30 => (bif g30 then some v7 else some (.tuple [])).bind fun t30 =>
(guardV true t27).bind fun g31 => (bif g31 then binV E0 .sub 3 false true t30 (.int .i64 1) else some (.tuple [])).bind fun t31 =>
(guardV true t27).bind fun g32 => (bif g32 then ixP 5 p29.1 t31 else some (.tuple [])).bind fun t32 =>
(guardV true t27).bind fun g33 => (bif g33 then faP 0 false 1 t32 else some (.tuple [])).bind fun t33 =>
(guardV true t27).bind fun g34 => (bif g34 then ld1 t33 (onS p29.2) else some (.tuple [], (onS p29.2))).bind fun p34 =>
(guardV true t27).bind fun g35 => (bif g35 then faP 0 false 1 p12.1 else some (.tuple [])).bind fun t35 =>
(guardV true t27).bind fun g36 => (bif g36 then ld1 t35 (onS p34.2) else some (.tuple [], (onS p34.2))).bind fun p36 =>
(guardV true t27).bind fun g37 => (bif g37 then binV E0 .geq 9 false false p34.1 p36.1 else some (.tuple [])).bind fun t37 =>
(guardV false t23).bind fun g38 => (bif g38 then pickV t27 (some t37) (some (.bool false)) else some (.tuple [])).bind fun t38 =>
(pickV t23 (some (.bool true)) (some t38)).bind fun t39 =>
endP [(14, [21]), (19, [21])] p14.2 [[], p16.2.log, S17.log, [], [], p20.2.log, S21.log, [], [], [], [], [], [], [], p29.2.log, [], [], [], [], p34.2.log, [], p36.2.log, [], [], []] (onS p36.2) fun S40 =>
ifK t39 (
some (.ret (.bool false), S40)) (
(binV E0 .add 3 false true v7 (.int .i64 1)).bind fun t42 =>
L65_7 self N nk ek n v0 v5 v6 t42 S40)) (
ek 0 (fr 38 []) S) := by kernel_rfl
noncomputable def F65 (self : EV) (N : Nat) (x0 : V) (S : St) : Rs := runF E0 self N Try.f65 B65 [x0] S
theorem F65_eq (self : EV) (N : Nat) (x0 : V) (S : St) : F65 self N x0 S =
(faP 4 false 1 x0).bind fun t3 =>
(ld1 t3 S).bind fun p4 =>
(lnS p4.1 p4.2).bind fun p5 =>
L65_7 self N (R65_1 self N (finN E0 self Try.f65) noEx) (exB 0 (R65_1 self N (finN E0 self Try.f65) noEx) noEx) N x0 p4.1 p5.1 (.int .i64 0) p5.2 := by kernel_rfl
noncomputable def C66 : Code := Try.f66.body.getD .skip
noncomputable def B66 : D := (annot C66 [[], []]).1
noncomputable def F66 (self : EV) (N : Nat) (x0 : V) (S : St) : Rs := runF E0 self N Try.f66 B66 [x0] S
theorem F66_eq (self : EV) (N : Nat) (x0 : V) (S : St) : F66 self N x0 S =
(lnStr x0 S).bind fun p2 =>
(binV E0 .geq 3 false true p2.1 (.int .i64 1)).bind fun t3 =>
(guardV true t3).bind fun g5 => (bif g5 then some x0 else some (.tuple [])).bind fun t5 =>
(guardV true t3).bind fun g6 => (bif g6 then lnStr t5 p2.2 else some (.tuple [], p2.2)).bind fun p6 =>
(guardV true t3).bind fun g7 => (bif g7 then binV E0 .leq 3 false true p6.1 (.int .i64 56) else some (.tuple [])).bind fun t7 =>
(pickV t3 (some t7) (some (.bool false))).bind fun t8 =>
(guardV true t8).bind fun g10 => (bif g10 then some x0 else some (.tuple [])).bind fun t10 =>
(guardV true t8).bind fun g11 => callP (bif g11 then self.f 74 [t10, (sv [47, 0])] p6.2 else some (.ret (.tuple []), p6.2)) fun t11 S11 =>
(guardV true t8).bind fun g12 => (bif g12 then unV .not t11 else some (.tuple [])).bind fun t12 =>
(pickV t8 (some t12) (some (.bool false))).bind fun t13 =>
(guardV true t13).bind fun g15 => (bif g15 then some x0 else some (.tuple [])).bind fun t15 =>
(guardV true t13).bind fun g16 => (bif g16 then binV E0 .neq 9 false true t15 (sv [46]) else some (.tuple [])).bind fun t16 =>
(pickV t13 (some t16) (some (.bool false))).bind fun t17 =>
(guardV true t17).bind fun g19 => (bif g19 then some x0 else some (.tuple [])).bind fun t19 =>
(guardV true t17).bind fun g20 => (bif g20 then binV E0 .neq 9 false true t19 (sv [46, 46]) else some (.tuple [])).bind fun t20 =>
(pickV t17 (some t20) (some (.bool false))).bind fun t21 =>
some (.ret t21, S11) := by kernel_rfl
noncomputable def C68 : Code := Try.f68.body.getD .skip
noncomputable def B68 : D := (annot C68 [[], [], [0, 3], [], [0], [], [], [], [], [0, 0], [2], []]).1
noncomputable def RL68 : List Nat := cellsOf Try.f68.results.toList
noncomputable def R68_1 (self : EV) (N : Nat) (nk : Ac → St → Rs) (ek : Nat → Ac → St → Rs) (a : Ac) (S : St) : Rs := projK [0] a fun a => dr E0 self RL68 N (B68.r).r (mkK E0 self Try.f68 nk ek) a S
theorem R68_1_eq (self : EV) (N : Nat) (nk : Ac → St → Rs) (ek : Nat → Ac → St → Rs) ( v0 : V) (S : St) : R68_1 self N nk ek (fr 36 [(0, v0)]) S =
(lnStr v0 S).bind fun p3 =>
(binV E0 .geq 3 false true p3.1 (.int .i64 1)).bind fun t4 =>
(guardV true t4).bind fun g6 => (bif g6 then some v0 else some (.tuple [])).bind fun t6 =>
(guardV true t4).bind fun g7 => (bif g7 then lnStr t6 p3.2 else some (.tuple [], p3.2)).bind fun p7 =>
(guardV true t4).bind fun g8 => (bif g8 then binV E0 .leq 3 false true p7.1 (.int .i64 56) else some (.tuple [])).bind fun t8 =>
(pickV t4 (some t8) (some (.bool false))).bind fun t9 =>
(guardV true t9).bind fun g11 => (bif g11 then some v0 else some (.tuple [])).bind fun t11 =>
(guardV true t9).bind fun g12 => (bif g12 then binV E0 .neq 9 false true t11 (sv [46]) else some (.tuple [])).bind fun t12 =>
(pickV t9 (some t12) (some (.bool false))).bind fun t13 =>
(guardV true t13).bind fun g15 => (bif g15 then some v0 else some (.tuple [])).bind fun t15 =>
(guardV true t13).bind fun g16 => (bif g16 then binV E0 .neq 9 false true t15 (sv [46, 46]) else some (.tuple [])).bind fun t16 =>
(pickV t13 (some t16) (some (.bool false))).bind fun t17 =>
some (.ret t17, p7.2) := by kernel_rfl
noncomputable def L68_20 (self : EV) (N : Nat) (nk : Ac → St → Rs) (ek : Nat → Ac → St → Rs) (n : Nat) ( v0 v3 : V) (S : St) : Rs := loopK [0, 3] (dr E0 self RL68 N (B68.r.l.r.l.l)) (mkK E0 self Try.f68 nk ek) n (fr 36 [(0, v0), (3, v3)]) S
theorem L68_20_eq (self : EV) (N : Nat) (nk : Ac → St → Rs) (ek : Nat → Ac → St → Rs) (n : Nat) ( v0 v3 : V) (S : St) : L68_20 self N nk ek (n + 1) v0 v3 S =
(lnStr v0 S).bind fun p23 =>
(binV E0 .lss 3 false false v3 p23.1).bind fun t24 =>
ifK t24 (
(ixS v0 v3).bind fun t27 =>
(binV E0 .eql 5 false true t27 (.int .u8 47)).bind fun t28 =>
(guardV false t28).bind fun g30 => (bif g30 then some v0 else some (.tuple [])).bind fun t30 =>
(guardV false t28).bind fun g31 => (bif g31 then some v3 else some (.tuple [])).bind fun t31 =>
(guardV false t28).bind fun g32 => (bif g32 then ixS t30 t31 else some (.tuple [])).bind fun t32 =>
(guardV false t28).bind fun g33 => (bif g33 then binV E0 .eql 5 false true t32 (.int .u8 0) else some (.tuple [])).bind fun t33 =>
(pickV t28 (some (.bool true)) (some t33)).bind fun t34 =>
ifK t34 (
some (.ret (.bool false), p23.2)) (
(binV E0 .add 3 false true v3 (.int .i64 1)).bind fun t37 =>
L68_20 self N nk ek n v0 t37 p23.2)) (
ek 0 (fr 36 [(0, v0)]) p23.2) := by kernel_rfl
noncomputable def F68 (self : EV) (N : Nat) (x0 : V) (S : St) : Rs := runF E0 self N Try.f68 B68 [x0] S
theorem F68_eq (self : EV) (N : Nat) (x0 : V) (S : St) : F68 self N x0 S =
L68_20 self N (R68_1 self N (finN E0 self Try.f68) noEx) (exB 0 (R68_1 self N (finN E0 self Try.f68) noEx) noEx) N x0 (.int .i64 0) S := by kernel_rfl
noncomputable def C70 : Code := Try.f70.body.getD .skip
noncomputable def B70 : D := (annot C70 [[], [], [], [], [], [], [1, 5, 17, 18, 19], [], [5], [], [], [], [0, 5], [4], []]).1
noncomputable def RL70 : List Nat := cellsOf Try.f70.results.toList
noncomputable def R70_12 (self : EV) (N : Nat) (nk : Ac → St → Rs) (ek : Nat → Ac → St → Rs) (a : Ac) (S : St) : Rs := projK [5] a fun a => dr E0 self RL70 N (B70.r.r.r).r (mkK E0 self Try.f70 nk ek) a S
theorem R70_12_eq (self : EV) (N : Nat) (nk : Ac → St → Rs) (ek : Nat → Ac → St → Rs) ( v5 : V) (S : St) : R70_12 self N nk ek (fr 32 [(5, v5)]) S =
some (.ret v5, S) := by kernel_rfl
noncomputable def L70_19 (self : EV) (N : Nat) (nk : Ac → St → Rs) (ek : Nat → Ac → St → Rs) (n : Nat) ( v1 v5 v17 v18 v19 : V) (S : St) : Rs := loopK [1, 5, 17, 18, 19] (dr E0 self RL70 N (B70.r.r.r.l.r.l.l)) (mkK E0 self Try.f70 nk ek) n (fr 32 [(1, v1), (5, v5), (17, v17), (18, v18), (19, v19)]) S
theorem L70_19_eq (self : EV) (N : Nat) (nk : Ac → St → Rs) (ek : Nat → Ac → St → Rs) (n : Nat) ( v1 v5 v17 v18 v19 : V) (S : St) : L70_19 self N nk ek (n + 1) v1 v5 v17 v18 v19 S =
(binV E0 .lss 3 false false v19 v18).bind fun t20 =>
ifK t20 (
(ixP 5 v17 v19).bind fun t21 =>
(ldA 5 t21 S).bind fun p22 =>
(some (nwP 24 5 (Tr.ofListFrom .nil [(sv []), (.int .i64 0), (.bool false), (sv []), .nilslice] 0) p22.2)).bind fun p23 =>
(stP 5 p23.1 p22.1 p23.2).bind fun p24 =>
(ldA 5 p23.1 p24.2).bind fun p26 =>
(binV E0 .sub 3 false true v1 (.int .i64 1)).bind fun t28 =>
callP (self.f 70 [p26.1, t28] p26.2) fun t29 S29 =>
(binV E0 .add 3 true false (.int .i64 1) t29).bind fun t30 =>
(foldK maxV v5 [t30] S29).bind fun p31 =>
(binV E0 .add 3 false true v19 (.int .i64 1)).bind fun t33 =>
L70_19 self N nk ek n v1 p31.1 v17 v18 t33 p31.2) (
ek 0 (fr 32 [(5, v5)]) S) := by kernel_rfl
noncomputable def F70 (self : EV) (N : Nat) (x0 x1 : V) (S : St) : Rs := runF E0 self N Try.f70 B70 [x0, x1] S
theorem F70_eq (self : EV) (N : Nat) (x0 x1 : V) (S : St) : F70 self N x0 x1 S =
(boxK 24 x0 S).bind fun p0 =>
(faP 1 false 1 p0.1).bind fun t3 =>
(ld1 t3 p0.2).bind fun p4 =>
(binV E0 .neq 3 false true p4.1 (.int .i64 2)).bind fun t5 =>
(guardV false t5).bind fun g7 => (bif g7 then some x1 else some (.tuple [])).bind fun t7 =>
(guardV false t5).bind fun g8 => (bif g8 then binV E0 .eql 3 false true t7 (.int .i64 1) else some (.tuple [])).bind fun t8 =>
(pickV t5 (some (.bool true)) (some t8)).bind fun t9 =>
ifK t9 (
some (.ret (.int .i64 1), p4.2)) (
(faP 4 false 1 p0.1).bind fun t15 =>
(ld1 t15 p4.2).bind fun p16 =>
(lnS p16.1 p16.2).bind fun p17 =>
L70_19 self N (R70_12 self N (finN E0 self Try.f70) noEx) (exB 0 (R70_12 self N (finN E0 self Try.f70) noEx) noEx) N x1 (.int .i64 1) p16.1 p17.1 (.int .i64 0) p17.2) := by kernel_rfl
noncomputable def C71 : Code := Try.f71.body.getD .skip
noncomputable def B71 : D := (annot C71 [[], []]).1
noncomputable def F71 (self : EV) (N : Nat) (x0 x1 : V) (S : St) : Rs := runF E0 self N Try.f71 B71 [x0, x1] S
theorem F71_eq (self : EV) (N : Nat) (x0 x1 : V) (S : St) : F71 self N x0 x1 S =
callP (self.f 75 [x0, x1] S) fun t3 S3 =>
(binV E0 .geq 3 false true t3 (.int .i64 0)).bind fun t4 =>
some (.ret t4, S3) := by kernel_rfl
noncomputable def C72 : Code := Try.f72.body.getD .skip
noncomputable def B72 : D := (annot C72 [[], []]).1
noncomputable def F72 (self : EV) (N : Nat) (x0 : V) (S : St) : Rs := runF E0 self N Try.f72 B72 [x0] S
theorem F72_eq (self : EV) (N : Nat) (x0 : V) (S : St) : F72 self N x0 S =
callP (callK E0 self x0 [] S) fun t2 S2 =>
(unV .not t2).bind fun t3 =>
some (.ret t3, S2) := by kernel_rfl
noncomputable def C75 : Code := Try.f75.body.getD .skip
noncomputable def B75 : D := (annot C75 [[], [], [0, 1, 7, 8], [], [], [], [], [], [], [], [0], [4], []]).1
noncomputable def RL75 : List Nat := cellsOf Try.f75.results.toList
noncomputable def R75_1 (self : EV) (N : Nat) (nk : Ac → St → Rs) (ek : Nat → Ac → St → Rs) (a : Ac) (S : St) : Rs := projK [] a fun a => dr E0 self RL75 N (B75.r).r (mkK E0 self Try.f75 nk ek) a S
theorem R75_1_eq (self : EV) (N : Nat) (nk : Ac → St → Rs) (ek : Nat → Ac → St → Rs) (S : St) : R75_1 self N nk ek (fr 19 []) S =
some (.ret (.int .i64 (-1)), S) := by kernel_rfl
noncomputable def L75_6 (self : EV) (N : Nat) (nk : Ac → St → Rs) (ek : Nat → Ac → St → Rs) (n : Nat) ( v0 v1 v7 v8 : V) (S : St) : Rs := loopK [0, 1, 7, 8] (dr E0 self RL75 N (B75.r.l.r.l.l)) (mkK E0 self Try.f75 nk ek) n (fr 19 [(0, v0), (1, v1), (7, v7), (8, v8)]) S
theorem L75_6_eq (self : EV) (N : Nat) (nk : Ac → St → Rs) (ek : Nat → Ac → St → Rs) (n : Nat) ( v0 v1 v7 v8 : V) (S : St) : L75_6 self N nk ek (n + 1) v0 v1 v7 v8 S =
(binV E0 .lss 3 false false v8 v7).bind fun t7 =>
ifK t7 (
(ixP 1 v0 v8).bind fun t13 =>
(ld1 t13 S).bind fun p14 =>
callP (callK E0 self v1 [p14.1] p14.2) fun t15 S15 =>
ifK t15 (
some (.ret v8, S15)) (
(binV E0 .add 3 false true v8 (.int .i64 1)).bind fun t18 =>
L75_6 self N nk ek n v0 v1 v7 t18 S15)) (
ek 0 (fr 19 []) S) := by kernel_rfl
noncomputable def F75 (self : EV) (N : Nat) (x0 x1 : V) (S : St) : Rs := runF E0 self N Try.f75 B75 [x0, x1] S
theorem F75_eq (self : EV) (N : Nat) (x0 x1 : V) (S : St) : F75 self N x0 x1 S =
(lnS x0 S).bind fun p4 =>
L75_6 self N (R75_1 self N (finN E0 self Try.f75) noEx) (exB 0 (R75_1 self N (finN E0 self Try.f75) noEx) noEx) N x0 x1 p4.1 (.int .i64 0) p4.2 := by kernel_rfl
end
end Go.Proofs.Ythmkdoaaciamlaa.W
namespace Go.Proofs.Ythmkdoaaciamlaa.W
open Go.Proofs.Ythmkdoaaciamlaa.Ev
set_option maxRecDepth 100000
noncomputable section
noncomputable def C73 : Code := Try.f73.body.getD .skip
noncomputable def B73 : D := (annot C73 [[], []]).1
noncomputable def F73 (self : EV) (N : Nat) (x0 x1 : V) (S : St) : Rs := runF E0 self N Try.f73 B73 [x0, x1] S
theorem F73_eq (self : EV) (N : Nat) (x0 x1 : V) (S : St) : F73 self N x0 x1 S =
callP (callK E0 self (.fn (.func 76) [] []) [x0, x1] S) fun t3 S3 =>
some (.ret t3, S3) := by kernel_rfl
noncomputable def C74 : Code := Try.f74.body.getD .skip
noncomputable def B74 : D := (annot C74 [[], []]).1
noncomputable def F74 (self : EV) (N : Nat) (x0 x1 : V) (S : St) : Rs := runF E0 self N Try.f74 B74 [x0, x1] S
theorem F74_eq (self : EV) (N : Nat) (x0 x1 : V) (S : St) : F74 self N x0 x1 S =
callP (self.f 77 [x0, x1] S) fun t3 S3 =>
(binV E0 .geq 3 false true t3 (.int .i64 0)).bind fun t4 =>
some (.ret t4, S3) := by kernel_rfl
noncomputable def C77 : Code := Try.f77.body.getD .skip
noncomputable def B77 : D := (annot C77 [[], [], [], [], [], [], [], [], [], [], [], [], [], [], [0, 6, 8], [], [], [], [], [], [], [0], [0, 1], [], [0, 0, 1], [4], [], [1, 45], [], [], [], [], [], [], [0], [4], []]).1
noncomputable def RL77 : List Nat := cellsOf Try.f77.results.toList
noncomputable def R77_22 (self : EV) (N : Nat) (nk : Ac → St → Rs) (ek : Nat → Ac → St → Rs) (a : Ac) (S : St) : Rs := projK [0, 1] a fun a => dr E0 self RL77 N (B77.r.r.r).r (mkK E0 self Try.f77 nk ek) a S
noncomputable def R77_23 (self : EV) (N : Nat) (nk : Ac → St → Rs) (ek : Nat → Ac → St → Rs) (a : Ac) (S : St) : Rs := projK [] a fun a => dr E0 self RL77 N (B77.r.r.r.r.l).r (mkK E0 self Try.f77 nk ek) a S
theorem R77_23_eq (self : EV) (N : Nat) (nk : Ac → St → Rs) (ek : Nat → Ac → St → Rs) (S : St) : R77_23 self N nk ek (fr 55 []) S =
some (.ret (.int .i64 (-1)), S) := by kernel_rfl
noncomputable def L77_27 (self : EV) (N : Nat) (nk : Ac → St → Rs) (ek : Nat → Ac → St → Rs) (n : Nat) ( v1 v45 : V) (S : St) : Rs := loopK [1, 45] (dr E0 self RL77 N (B77.r.r.r.r.l.l.r.l.l)) (mkK E0 self Try.f77 nk ek) n (fr 55 [(1, v1), (45, v45)]) S
theorem L77_27_eq (self : EV) (N : Nat) (nk : Ac → St → Rs) (ek : Nat → Ac → St → Rs) (n : Nat) ( v1 v45 : V) (S : St) : L77_27 self N nk ek (n + 1) v1 v45 S =
(nextK v45 true S).bind fun p28 =>
(extractV p28.1 0).bind fun t29 =>
ifK t29 (
(extractV p28.1 1).bind fun t30 =>
(extractV p28.1 2).bind fun t31 =>
callP (self.f 78 [v1, t31] p28.2) fun t36 S36 =>
(binV E0 .geq 3 false true t36 (.int .i64 0)).bind fun t37 =>
ifK t37 (
some (.ret t30, S36)) (
L77_27 self N nk ek n v1 v45 S36)) (
ek 2 (fr 55 []) p28.2) := by kernel_rfl
theorem R77_22_eq (self : EV) (N : Nat) (nk : Ac → St → Rs) (ek : Nat → Ac → St → Rs) ( v0 v1 : V) (S : St) : R77_22 self N nk ek (fr 55 [(0, v0), (1, v1)]) S =
(rangeStrK E0 9 v0 S).bind fun p26 =>
L77_27 self N (R77_23 self N (fun a s => projK [4] a fun a => nk a s) ek) (exB 2 (R77_23 self N (fun a s => projK [4] a fun a => nk a s) ek) ek) N v1 p26.1 p26.2 := by kernel_rfl
noncomputable def R77_52 (self : EV) (N : Nat) (nk : Ac → St → Rs) (ek : Nat → Ac → St → Rs) (a : Ac) (S : St) : Rs := projK [] a fun a => dr E0 self RL77 N (B77.r.r.r.l.r.l.r.r.l).r (mkK E0 self Try.f77 nk ek) a S
theorem R77_52_eq (self : EV) (N : Nat) (nk : Ac → St → Rs) (ek : Nat → Ac → St → Rs) (S : St) : R77_52 self N nk ek (fr 55 []) S =
some (.ret (.int .i64 (-1)), S) := by kernel_rfl
noncomputable def L77_55 (self : EV) (N : Nat) (nk : Ac → St → Rs) (ek : Nat → Ac → St → Rs) (n : Nat) ( v0 v6 v8 : V) (S : St) : Rs := loopK [0, 6, 8] (dr E0 self RL77 N (B77.r.r.r.l.r.l.r.r.l.l.r.l.l)) (mkK E0 self Try.f77 nk ek) n (fr 55 [(0, v0), (6, v6), (8, v8)]) S
theorem L77_55_eq (self : EV) (N : Nat) (nk : Ac → St → Rs) (ek : Nat → Ac → St → Rs) (n : Nat) ( v0 v6 v8 : V) (S : St) : L77_55 self N nk ek (n + 1) v0 v6 v8 S =
(lnStr v0 S).bind fun p58 =>
(binV E0 .lss 3 false false v8 p58.1).bind fun t59 =>
ifK t59 (
(ixS v0 v8).bind fun t62 =>
callP (self.f 81 [v6, t62] p58.2) fun t63 S63 =>
ifK t63 (
some (.ret v8, S63)) (
(binV E0 .add 3 false true v8 (.int .i64 1)).bind fun t67 =>
L77_55 self N nk ek n v0 v6 t67 S63)) (
ek 0 (fr 55 []) p58.2) := by kernel_rfl
noncomputable def F77 (self : EV) (N : Nat) (x0 x1 : V) (S : St) : Rs := runF E0 self N Try.f77 B77 [x0, x1] S
noncomputable def C78 : Code := Try.f78.body.getD .skip
noncomputable def B78 : D := (annot C78 [[], [], [], [], [], [175], [], [], [], [], [], [], [0], [4], [], [], [], [], [], [], [], [0, 7, 8, 9], [], [], [], [], [], [], [], [], [0, 0, 7, 8, 9], [0, 7, 8, 9], [], [0, 7, 8, 9, 12], [], [8, 9], [], [], [], [0, 8, 9], [0, 7, 8, 9], [], [], [], [], [], [], [0], [4], [], [], [], [], [], [], [], [], [], [0, 7, 8, 9, 14, 15], [], [], [], [], [], [0, 7, 8, 9, 14, 15, 16], [], [8, 9], [], [], [0, 7, 8, 9, 14, 15], [], [0, 8, 9], [0, 7, 8, 9, 14, 15], [], [0, 0, 7, 8, 9, 14, 15], [0, 7, 8, 9, 14, 15], [0], [4], []]).1
noncomputable def RL78 : List Nat := cellsOf Try.f78.results.toList
noncomputable def R78_16 (self : EV) (N : Nat) (nk : Ac → St → Rs) (ek : Nat → Ac → St → Rs) (a : Ac) (S : St) : Rs := projK [] a fun a => dr E0 self RL78 N (B78.r.l.r.r.r.l).r (mkK E0 self Try.f78 nk ek) a S
theorem R78_16_eq (self : EV) (N : Nat) (nk : Ac → St → Rs) (ek : Nat → Ac → St → Rs) (S : St) : R78_16 self N nk ek (fr 187 []) S =
some (.ret (.int .i64 (-1)), S) := by kernel_rfl
noncomputable def L78_20 (self : EV) (N : Nat) (nk : Ac → St → Rs) (ek : Nat → Ac → St → Rs) (n : Nat) ( v175 : V) (S : St) : Rs := loopK [175] (dr E0 self RL78 N (B78.r.l.r.r.r.l.l.r.l.l)) (mkK E0 self Try.f78 nk ek) n (fr 187 [(175, v175)]) S
theorem L78_20_eq (self : EV) (N : Nat) (nk : Ac → St → Rs) (ek : Nat → Ac → St → Rs) (n : Nat) ( v175 : V) (S : St) : L78_20 self N nk ek (n + 1) v175 S =
(nextK v175 true S).bind fun p21 =>
(extractV p21.1 0).bind fun t22 =>
ifK t22 (
(extractV p21.1 1).bind fun t23 =>
(extractV p21.1 2).bind fun t24 =>
(binV E0 .eql 21 false true t24 (.int .i32 65533)).bind fun t28 =>
ifK t28 (
some (.ret t23, p21.2)) (
L78_20 self N nk ek n v175 p21.2)) (
ek 9 (fr 187 []) p21.2) := by kernel_rfl
noncomputable def R78_46 (self : EV) (N : Nat) (nk : Ac → St → Rs) (ek : Nat → Ac → St → Rs) (a : Ac) (S : St) : Rs := projK [] a fun a => dr E0 self RL78 N (B78.r.l.r.r.r.r.r.r.l.r.r.r.r).r (mkK E0 self Try.f78 nk ek) a S
theorem R78_46_eq (self : EV) (N : Nat) (nk : Ac → St → Rs) (ek : Nat → Ac → St → Rs) (S : St) : R78_46 self N nk ek (fr 187 []) S =
some (.ret (.int .i64 (-1)), S) := by kernel_rfl
noncomputable def N78_48 (self : EV) (N : Nat) (nk : Ac → St → Rs) (ek : Nat → Ac → St → Rs) (n : Nat) : Ac → St → Rs := fun a S => projK [0, 7, 8, 9] a fun a => loopK [0, 7, 8, 9] (dr E0 self RL78 N (B78.r.l.r.r.r.r.r.r.l.r.r.r.r.l.l.l)) (mkK E0 self Try.f78 nk ek) n a S
noncomputable def L78_48 (self : EV) (N : Nat) (nk : Ac → St → Rs) (ek : Nat → Ac → St → Rs) (n : Nat) ( v0 v7 v8 v9 : V) (S : St) : Rs := loopK [0, 7, 8, 9] (dr E0 self RL78 N (B78.r.l.r.r.r.r.r.r.l.r.r.r.r.l.l.l)) (mkK E0 self Try.f78 nk ek) n (fr 187 [(0, v0), (7, v7), (8, v8), (9, v9)]) S
noncomputable def R78_53 (self : EV) (N : Nat) (nk : Ac → St → Rs) (ek : Nat → Ac → St → Rs) (a : Ac) (S : St) : Rs := projK [0, 7, 8, 9] a fun a => dr E0 self RL78 N (B78.r.l.r.r.r.r.r.r.l.r.r.r.r.l.l.l.r.l.l).r (mkK E0 self Try.f78 nk ek) a S
theorem L78_48_eq (self : EV) (N : Nat) (nk : Ac → St → Rs) (ek : Nat → Ac → St → Rs) (n : Nat) ( v0 v7 v8 v9 : V) (S : St) : L78_48 self N nk ek (n + 1) v0 v7 v8 v9 S =
(lnStr v0 S).bind fun p51 =>
(binV E0 .lss 3 false false v9 p51.1).bind fun t52 =>
ifK t52 (
(ixS v0 v9).bind fun t81 =>
(ixS v7 v8).bind fun t84 =>
(binV E0 .neq 5 false false t81 t84).bind fun t85 =>
ifK t85 (
(binV E0 .add 3 false true v9 (.int .i64 1)).bind fun t88 =>
(sliceV E0 9 v0 (some t88) none none (onS (relog p51.2 (onS p51.2) [[], [], [], [], [], [], []]))).bind fun p89 =>
(ixS v7 v8).bind fun t92 =>
callD (planOf E0 (B78.r.l.r.r.r.r.r.r.l.r.r.r.r.l.l.l.r.l.l.l.r.l.l).ops) (relog p51.2 (onS p51.2) [[], [], [], [], [], [], []]) 7 [[], [], [], p89.2.log, [], [], []] (self.f 63 [p89.1, t92] (onS p89.2)) fun t93 S93 =>
(binV E0 .lss 3 false true t93 (.int .i64 0)).bind fun t96 =>
ifK t96 (
some (.ret (.int .i64 (-1)), (relog (relog p51.2 (onS p51.2) [[], [], [], [], [], [], []]) (onS S93) [[], [], [], p89.2.log, [], [], [], S93.log, []]))) (
(binV E0 .add 3 false true t93 (.int .i64 1)).bind fun t100 =>
(binV E0 .add 3 false false v9 t100).bind fun t101 =>
R78_53 self N (N78_48 self N nk ek n) (exB 2 (N78_48 self N nk ek n) ek) (fr 187 [(0, v0), (7, v7), (8, v8), (9, t101)]) (relog (relog p51.2 (onS p51.2) [[], [], [], [], [], [], []]) (onS S93) [[], [], [], p89.2.log, [], [], [], S93.log, []]))) (
R78_53 self N (N78_48 self N nk ek n) (exB 2 (N78_48 self N nk ek n) ek) (fr 187 [(0, v0), (7, v7), (8, v8), (9, v9)]) (relog p51.2 (onS p51.2) [[], [], [], [], [], [], []]))) (
ek 1 (fr 187 []) p51.2) := by kernel_rfl
noncomputable def F78 (self : EV) (N : Nat) (x0 x1 : V) (S : St) : Rs := runF E0 self N Try.f78 B78 [x0, x1] S
theorem F78_eq (self : EV) (N : Nat) (x0 x1 : V) (S : St) : F78 self N x0 x1 S =
(binV E0 .leq 21 true false (.int .i32 0) x1).bind fun t2 =>
(guardV true t2).bind fun g4 => (bif g4 then some x1 else some (.tuple [])).bind fun t4 =>
(guardV true t2).bind fun g5 => (bif g5 then binV E0 .lss 21 false true t4 (.int .i32 128) else some (.tuple [])).bind fun t5 =>
(pickV t2 (some t5) (some (.bool false))).bind fun t6 =>
ifK t6 (
(cvI .u8 x1 S).bind fun p10 =>
callP (self.f 63 [x0, p10.1] p10.2) fun t11 S11 =>
some (.ret t11, S11)) (
(binV E0 .eql 21 false true x1 (.int .i32 65533)).bind fun t14 =>
ifK t14 (
(rangeStrK E0 9 x0 S).bind fun p19 =>
L78_20 self N (R78_16 self N (finN E0 self Try.f78) (exB 0 (finN E0 self Try.f78) noEx)) (exB 9 (R78_16 self N (finN E0 self Try.f78) (exB 0 (finN E0 self Try.f78) noEx)) (exB 0 (finN E0 self Try.f78) noEx)) N p19.1 p19.2) (
callP (self.f 82 [x1] S) fun t32 S32 =>
(unV .not t32).bind fun t33 =>
ifK t33 (
some (.ret (.int .i64 (-1)), S32)) (
(convertV E0 21 9 x1 S32).bind fun p37 =>
(lnStr p37.1 p37.2).bind fun p40 =>
(binV E0 .sub 3 false true p40.1 (.int .i64 1)).bind fun t41 =>
L78_48 self N (R78_46 self N (finN E0 self Try.f78) (exB 0 (finN E0 self Try.f78) noEx)) (exB 1 (R78_46 self N (finN E0 self Try.f78) (exB 0 (finN E0 self Try.f78) noEx)) (exB 0 (finN E0 self Try.f78) noEx)) N x0 p37.1 t41 t41 p40.2))) := by kernel_rfl
noncomputable def C79 : Code := Try.f79.body.getD .skip
noncomputable def B79 : D := (annot C79 [[], []]).1
noncomputable def F79 (self : EV) (N : Nat) (x0 : V) (S : St) : Rs := runF E0 self N Try.f79 B79 [x0] S
theorem F79_eq (self : EV) (N : Nat) (x0 : V) (S : St) : F79 self N x0 S =
(binV E0 .gtr 3 false true x0 (.int .i64 8)).bind fun t2 =>
some (.ret t2, S) := by kernel_rfl
noncomputable def C80 : Code := Try.f80.body.getD .skip
noncomputable def B80 : D := (annot C80 [[], [], [0, 2, 4], [], [2], [], [], [], [], [], [], [0, 2], [2, 3], []]).1
noncomputable def RL80 : List Nat := cellsOf Try.f80.results.toList
noncomputable def R80_2 (self : EV) (N : Nat) (nk : Ac → St → Rs) (ek : Nat → Ac → St → Rs) (a : Ac) (S : St) : Rs := projK [2] a fun a => dr E0 self RL80 N (B80.r).r (mkK E0 self Try.f80 nk ek) a S
theorem R80_2_eq (self : EV) (N : Nat) (nk : Ac → St → Rs) (ek : Nat → Ac → St → Rs) ( v2 : V) (S : St) : R80_2 self N nk ek (fr 21 [(2, v2)]) S =
(ldA 256 v2 S).bind fun p3 =>
(stP 256 v2 p3.1 p3.2).bind fun p4 =>
(ldrA 256 v2 p4.2).bind fun p6 =>
some (.ret (.tuple [p6.1, (.bool true)]), p6.2) := by kernel_rfl
noncomputable def L80_8 (self : EV) (N : Nat) (nk : Ac → St → Rs) (ek : Nat → Ac → St → Rs) (n : Nat) ( v0 v2 v4 : V) (S : St) : Rs := loopK [0, 2, 4] (dr E0 self RL80 N (B80.r.l.r.l.l)) (mkK E0 self Try.f80 nk ek) n (fr 21 [(0, v0), (2, v2), (4, v4)]) S
theorem L80_8_eq (self : EV) (N : Nat) (nk : Ac → St → Rs) (ek : Nat → Ac → St → Rs) (n : Nat) ( v0 v2 v4 : V) (S : St) : L80_8 self N nk ek (n + 1) v0 v2 v4 S =
(lnStr v0 S).bind fun p11 =>
(binV E0 .lss 3 false false v4 p11.1).bind fun t12 =>
ifK t12 (
(ixS v0 v4).bind fun t15 =>
(binV E0 .geq 5 false true t15 (.int .u8 128)).bind fun t18 =>
ifK t18 (
(ldA 256 v2 p11.2).bind fun p19 =>
(stP 256 v2 p19.1 p19.2).bind fun p20 =>
(ldrA 256 v2 p20.2).bind fun p22 =>
some (.ret (.tuple [p22.1, (.bool false)]), p22.2)) (
(ixA 256 1 false 1 v2 t15).bind fun t24 =>
(stP 1 t24 (.bool true) p11.2).bind fun p25 =>
(binV E0 .add 3 false true v4 (.int .i64 1)).bind fun t27 =>
L80_8 self N nk ek n v0 v2 t27 p25.2)) (
ek 0 (fr 21 [(2, v2)]) p11.2) := by kernel_rfl
noncomputable def F80 (self : EV) (N : Nat) (x0 : V) (S : St) : Rs := runF E0 self N Try.f80 B80 [x0] S
noncomputable def C81 : Code := Try.f81.body.getD .skip
noncomputable def B81 : D := (annot C81 [[], []]).1
noncomputable def F81 (self : EV) (N : Nat) (x0 x1 : V) (S : St) : Rs := runF E0 self N Try.f81 B81 [x0, x1] S
theorem F81_eq (self : EV) (N : Nat) (x0 x1 : V) (S : St) : F81 self N x0 x1 S =
(nilCheckV x0).bind fun t3 =>
(ixA 256 1 false 1 t3 x1).bind fun t4 =>
(ld1 t4 S).bind fun p5 =>
some (.ret p5.1, p5.2) := by kernel_rfl
noncomputable def C82 : Code := Try.f82.body.getD .skip
noncomputable def B82 : D := (annot C82 [[], [], [], [], [], [], []]).1
noncomputable def F82 (self : EV) (N : Nat) (x0 : V) (S : St) : Rs := runF E0 self N Try.f82 B82 [x0] S
theorem F82_eq (self : EV) (N : Nat) (x0 : V) (S : St) : F82 self N x0 S =
(binV E0 .leq 21 true false (.int .i32 0) x0).bind fun t2 =>
(guardV true t2).bind fun g4 => (bif g4 then some x0 else some (.tuple [])).bind fun t4 =>
(guardV true t2).bind fun g5 => (bif g5 then binV E0 .lss 21 false true t4 (.int .i32 55296) else some (.tuple [])).bind fun t5 =>
(pickV t2 (some t5) (some (.bool false))).bind fun t6 =>
ifK t6 (
some (.ret (.bool true), S)) (
(binV E0 .lss 21 true false (.int .i32 57343) x0).bind fun t10 =>
(guardV true t10).bind fun g12 => (bif g12 then some x0 else some (.tuple [])).bind fun t12 =>
(guardV true t10).bind fun g13 => (bif g13 then binV E0 .leq 21 false true t12 (.int .i32 1114111) else some (.tuple [])).bind fun t13 =>
(pickV t10 (some t13) (some (.bool false))).bind fun t14 =>
ifK t14 (
some (.ret (.bool true), S)) (
some (.ret (.bool false), S))) := by kernel_rfl
end
end Go.Proofs.Ythmkdoaaciamlaa.W
namespace Go.Proofs.Ythmkdoaaciamlaa.W
open Go.Proofs.Ythmkdoaaciamlaa.Ev
set_option maxRecDepth 100000
noncomputable section
end
end Go.Proofs.Ythmkdoaaciamlaa.W
namespace Go.Proofs.Ythmkdoaaciamlaa.W
open Go.Proofs.Ythmkdoaaciamlaa.Ev
set_option maxRecDepth 100000
noncomputable section
end
end Go.Proofs.Ythmkdoaaciamlaa.W
namespace Go.Proofs.Ythmkdoaaciamlaa.W
open Go.Proofs.Ythmkdoaaciamlaa.Ev
set_option maxRecDepth 100000
noncomputable section
end
end Go.Proofs.Ythmkdoaaciamlaa.W
namespace Go.Proofs.Ythmkdoaaciamlaa.W
open Go.Proofs.Ythmkdoaaciamlaa.Ev
set_option maxRecDepth 100000
noncomputable section
end
end Go.Proofs.Ythmkdoaaciamlaa.W
namespace Go.Proofs.Ythmkdoaaciamlaa.W
open Go.Proofs.Ythmkdoaaciamlaa.Ev
set_option maxRecDepth 100000
noncomputable section
end
end Go.Proofs.Ythmkdoaaciamlaa.W
namespace Go.Proofs.Ythmkdoaaciamlaa.W
open Go.Proofs.Ythmkdoaaciamlaa.Ev
set_option maxRecDepth 100000
noncomputable section
end
end Go.Proofs.Ythmkdoaaciamlaa.W
