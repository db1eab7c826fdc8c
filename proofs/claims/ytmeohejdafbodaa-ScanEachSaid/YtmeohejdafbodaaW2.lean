/-
  WHAT THE FUNCTIONS COME TO: each is read by the evaluator, printed, and told as a function of data, part 2 of 12 (no condition).
-/
import Derived.Test.YtmeohejdafbodaaW1
import Derived.Test.YtmeohejdafbodaaProg
import Derived.KernelRfl
namespace Go.Proofs.Ytmeohejdafbodaa.W
open Go.Proofs.Ytmeohejdafbodaa.Ev
set_option maxRecDepth 100000
noncomputable section
noncomputable def C74 : Code := Try.f74.body.getD .skip
noncomputable def B74 : D := (qas C74 [[], [], [0, 3], [], [0], [], [], [], [], [0, 0], [2], []]).1
noncomputable def RL74 : List Nat := cellsOf Try.f74.results.toList
noncomputable def R74_1 (self : EV) (N : Nat) (nk : Ac->St->Rs) (ek : Nat->Ac->St->Rs) (a : Ac) (S : St) : Rs := qaa [0] a fun a => dr E0 self RL74 N (B74.r).r (mkK E0 self Try.f74 nk ek) a S
theorem R74_1_eq (self : EV) (N : Nat) (nk : Ac->St->Rs) (ek : Nat->Ac->St->Rs) ( v0 : V) (S : St) : R74_1 self N nk ek (fr 36 [(0, v0)]) S =
(qd1 v0 S).bind fun p3 =>
(qa4 E0 .geq 3 false true p3.1 (.int .i64 1)).bind fun t4 =>
(qa2 true t4).bind fun g6 => (bif g6 then some v0 else some (.tuple [])).bind fun t6 =>
(qa2 true t4).bind fun g7 => (bif g7 then qd1 t6 p3.2 else some (.tuple [], p3.2)).bind fun p7 =>
(qa2 true t4).bind fun g8 => (bif g8 then qa4 E0 .leq 3 false true p7.1 (.int .i64 56) else some (.tuple [])).bind fun t8 =>
(qag t4 (some t8) (some (.bool false))).bind fun t9 =>
(qa2 true t9).bind fun g11 => (bif g11 then some v0 else some (.tuple [])).bind fun t11 =>
(qa2 true t9).bind fun g12 => (bif g12 then qa4 E0 .neq 9 false true t11 (sv [46]) else some (.tuple [])).bind fun t12 =>
(qag t9 (some t12) (some (.bool false))).bind fun t13 =>
(qa2 true t13).bind fun g15 => (bif g15 then some v0 else some (.tuple [])).bind fun t15 =>
(qa2 true t13).bind fun g16 => (bif g16 then qa4 E0 .neq 9 false true t15 (sv [46, 46]) else some (.tuple [])).bind fun t16 =>
(qag t13 (some t16) (some (.bool false))).bind fun t17 =>
some (.ret t17, p7.2) := by kernel_rfl
noncomputable def L74_20 (self : EV) (N : Nat) (nk : Ac->St->Rs) (ek : Nat->Ac->St->Rs) (n : Nat) ( v0 v3 : V) (S : St) : Rs := qbf [0, 3] (dr E0 self RL74 N (B74.r.l.r.l.l)) (mkK E0 self Try.f74 nk ek) n (fr 36 [(0, v0), (3, v3)]) S
theorem L74_20_eq (self : EV) (N : Nat) (nk : Ac->St->Rs) (ek : Nat->Ac->St->Rs) (n : Nat) ( v0 v3 : V) (S : St) : L74_20 self N nk ek (n + 1) v0 v3 S =
(qd1 v0 S).bind fun p23 =>
(qa4 E0 .lss 3 false false v3 p23.1).bind fun t24 =>
ifK t24 (
(ixS v0 v3).bind fun t27 =>
(qa4 E0 .eql 5 false true t27 (.int .u8 47)).bind fun t28 =>
(qa2 false t28).bind fun g30 => (bif g30 then some v0 else some (.tuple [])).bind fun t30 =>
(qa2 false t28).bind fun g31 => (bif g31 then some v3 else some (.tuple [])).bind fun t31 =>
(qa2 false t28).bind fun g32 => (bif g32 then ixS t30 t31 else some (.tuple [])).bind fun t32 =>
(qa2 false t28).bind fun g33 => (bif g33 then qa4 E0 .eql 5 false true t32 (.int .u8 0) else some (.tuple [])).bind fun t33 =>
(qag t28 (some (.bool true)) (some t33)).bind fun t34 =>
ifK t34 (
some (.ret (.bool false), p23.2)) (
(qa4 E0 .add 3 false true v3 (.int .i64 1)).bind fun t37 =>
L74_20 self N nk ek n v0 t37 p23.2)) (
ek 0 (fr 36 [(0, v0)]) p23.2) := by kernel_rfl
noncomputable def F74 (self : EV) (N : Nat) (x0 : V) (S : St) : Rs := qbu E0 self N Try.f74 B74 [x0] S
theorem F74_eq (self : EV) (N : Nat) (x0 : V) (S : St) : F74 self N x0 S =
L74_20 self N (R74_1 self N (qak E0 self Try.f74) qa9) (exB 0 (R74_1 self N (qak E0 self Try.f74) qa9) qa9) N x0 (.int .i64 0) S := by kernel_rfl
noncomputable def C75 : Code := Try.f75.body.getD .skip
noncomputable def B75 : D := (qas C75 [[], [], [], [], [], [], [1, 5, 17, 18, 19], [], [5], [], [], [], [0, 5], [4], []]).1
noncomputable def RL75 : List Nat := cellsOf Try.f75.results.toList
noncomputable def R75_12 (self : EV) (N : Nat) (nk : Ac->St->Rs) (ek : Nat->Ac->St->Rs) (a : Ac) (S : St) : Rs := qaa [5] a fun a => dr E0 self RL75 N (B75.r.r.r).r (mkK E0 self Try.f75 nk ek) a S
theorem R75_12_eq (self : EV) (N : Nat) (nk : Ac->St->Rs) (ek : Nat->Ac->St->Rs) ( v5 : V) (S : St) : R75_12 self N nk ek (fr 32 [(5, v5)]) S =
some (.ret v5, S) := by kernel_rfl
noncomputable def L75_19 (self : EV) (N : Nat) (nk : Ac->St->Rs) (ek : Nat->Ac->St->Rs) (n : Nat) ( v1 v5 v17 v18 v19 : V) (S : St) : Rs := qbf [1, 5, 17, 18, 19] (dr E0 self RL75 N (B75.r.r.r.l.r.l.l)) (mkK E0 self Try.f75 nk ek) n (fr 32 [(1, v1), (5, v5), (17, v17), (18, v18), (19, v19)]) S
theorem L75_19_eq (self : EV) (N : Nat) (nk : Ac->St->Rs) (ek : Nat->Ac->St->Rs) (n : Nat) ( v1 v5 v17 v18 v19 : V) (S : St) : L75_19 self N nk ek (n + 1) v1 v5 v17 v18 v19 S =
(qa4 E0 .lss 3 false false v19 v18).bind fun t20 =>
ifK t20 (
(ixP 5 v17 v19).bind fun t21 =>
(ldA 5 t21 S).bind fun p22 =>
(some (nwP 24 5 (Tr.ofListFrom .nil [(sv []), (.int .i64 0), (.bool false), (sv []), .nilslice] 0) p22.2)).bind fun p23 =>
(stP 5 p23.1 p22.1 p23.2).bind fun p24 =>
(ldA 5 p23.1 p24.2).bind fun p26 =>
(qa4 E0 .sub 3 false true v1 (.int .i64 1)).bind fun t28 =>
qax (self.f 75 [p26.1, t28] p26.2) fun t29 S29 =>
(qa4 E0 .add 3 true false (.int .i64 1) t29).bind fun t30 =>
(qhg maxV v5 [t30] S29).bind fun p31 =>
(qa4 E0 .add 3 false true v19 (.int .i64 1)).bind fun t33 =>
L75_19 self N nk ek n v1 p31.1 v17 v18 t33 p31.2) (
ek 0 (fr 32 [(5, v5)]) S) := by kernel_rfl
noncomputable def F75 (self : EV) (N : Nat) (x0 x1 : V) (S : St) : Rs := qbu E0 self N Try.f75 B75 [x0, x1] S
theorem F75_eq (self : EV) (N : Nat) (x0 x1 : V) (S : St) : F75 self N x0 x1 S =
(qm6 24 x0 S).bind fun p0 =>
(faP 1 false 1 p0.1).bind fun t3 =>
(ld1 t3 p0.2).bind fun p4 =>
(qa4 E0 .neq 3 false true p4.1 (.int .i64 2)).bind fun t5 =>
(qa2 false t5).bind fun g7 => (bif g7 then some x1 else some (.tuple [])).bind fun t7 =>
(qa2 false t5).bind fun g8 => (bif g8 then qa4 E0 .eql 3 false true t7 (.int .i64 1) else some (.tuple [])).bind fun t8 =>
(qag t5 (some (.bool true)) (some t8)).bind fun t9 =>
ifK t9 (
some (.ret (.int .i64 1), p4.2)) (
(faP 4 false 1 p0.1).bind fun t15 =>
(ld1 t15 p4.2).bind fun p16 =>
(lnS p16.1 p16.2).bind fun p17 =>
L75_19 self N (R75_12 self N (qak E0 self Try.f75) qa9) (exB 0 (R75_12 self N (qak E0 self Try.f75) qa9) qa9) N x1 (.int .i64 1) p16.1 p17.1 (.int .i64 0) p17.2) := by kernel_rfl
noncomputable def C76 : Code := Try.f76.body.getD .skip
noncomputable def B76 : D := (qas C76 [[], []]).1
noncomputable def F76 (self : EV) (N : Nat) (x0 x1 : V) (S : St) : Rs := qbu E0 self N Try.f76 B76 [x0, x1] S
theorem F76_eq (self : EV) (N : Nat) (x0 x1 : V) (S : St) : F76 self N x0 x1 S =
qax (self.f 93 [x0, x1] S) fun t3 S3 =>
(qa4 E0 .geq 3 false true t3 (.int .i64 0)).bind fun t4 =>
some (.ret t4, S3) := by kernel_rfl
noncomputable def C77 : Code := Try.f77.body.getD .skip
noncomputable def B77 : D := (qas C77 [[], []]).1
noncomputable def F77 (self : EV) (N : Nat) (x0 : V) (S : St) : Rs := qbu E0 self N Try.f77 B77 [x0] S
theorem F77_eq (self : EV) (N : Nat) (x0 : V) (S : St) : F77 self N x0 S =
qax (qdl E0 self x0 [] S) fun t2 S2 =>
(unV .not t2).bind fun t3 =>
some (.ret t3, S2) := by kernel_rfl
noncomputable def C93 : Code := Try.f93.body.getD .skip
noncomputable def B93 : D := (qas C93 [[], [], [0, 1, 7, 8], [], [], [], [], [], [], [], [0], [4], []]).1
noncomputable def RL93 : List Nat := cellsOf Try.f93.results.toList
noncomputable def R93_1 (self : EV) (N : Nat) (nk : Ac->St->Rs) (ek : Nat->Ac->St->Rs) (a : Ac) (S : St) : Rs := qaa [] a fun a => dr E0 self RL93 N (B93.r).r (mkK E0 self Try.f93 nk ek) a S
theorem R93_1_eq (self : EV) (N : Nat) (nk : Ac->St->Rs) (ek : Nat->Ac->St->Rs) (S : St) : R93_1 self N nk ek (fr 19 []) S =
some (.ret (.int .i64 (-1)), S) := by kernel_rfl
noncomputable def L93_6 (self : EV) (N : Nat) (nk : Ac->St->Rs) (ek : Nat->Ac->St->Rs) (n : Nat) ( v0 v1 v7 v8 : V) (S : St) : Rs := qbf [0, 1, 7, 8] (dr E0 self RL93 N (B93.r.l.r.l.l)) (mkK E0 self Try.f93 nk ek) n (fr 19 [(0, v0), (1, v1), (7, v7), (8, v8)]) S
theorem L93_6_eq (self : EV) (N : Nat) (nk : Ac->St->Rs) (ek : Nat->Ac->St->Rs) (n : Nat) ( v0 v1 v7 v8 : V) (S : St) : L93_6 self N nk ek (n + 1) v0 v1 v7 v8 S =
(qa4 E0 .lss 3 false false v8 v7).bind fun t7 =>
ifK t7 (
(ixP 1 v0 v8).bind fun t13 =>
(ld1 t13 S).bind fun p14 =>
qax (qdl E0 self v1 [p14.1] p14.2) fun t15 S15 =>
ifK t15 (
some (.ret v8, S15)) (
(qa4 E0 .add 3 false true v8 (.int .i64 1)).bind fun t18 =>
L93_6 self N nk ek n v0 v1 v7 t18 S15)) (
ek 0 (fr 19 []) S) := by kernel_rfl
noncomputable def F93 (self : EV) (N : Nat) (x0 x1 : V) (S : St) : Rs := qbu E0 self N Try.f93 B93 [x0, x1] S
theorem F93_eq (self : EV) (N : Nat) (x0 x1 : V) (S : St) : F93 self N x0 x1 S =
(lnS x0 S).bind fun p4 =>
L93_6 self N (R93_1 self N (qak E0 self Try.f93) qa9) (exB 0 (R93_1 self N (qak E0 self Try.f93) qa9) qa9) N x0 x1 p4.1 (.int .i64 0) p4.2 := by kernel_rfl
noncomputable def C78 : Code := Try.f78.body.getD .skip
noncomputable def B78 : D := (qas C78 [[], []]).1
noncomputable def F78 (self : EV) (N : Nat) (x0 x1 : V) (S : St) : Rs := qbu E0 self N Try.f78 B78 [x0, x1] S
theorem F78_eq (self : EV) (N : Nat) (x0 x1 : V) (S : St) : F78 self N x0 x1 S =
qax (qdl E0 self (.fn (.func 94) [] []) [x0, x1] S) fun t3 S3 =>
some (.ret t3, S3) := by kernel_rfl
noncomputable def C79 : Code := Try.f79.body.getD .skip
noncomputable def B79 : D := (qas C79 [[], []]).1
noncomputable def F79 (self : EV) (N : Nat) (x0 x1 : V) (S : St) : Rs := qbu E0 self N Try.f79 B79 [x0, x1] S
theorem F79_eq (self : EV) (N : Nat) (x0 x1 : V) (S : St) : F79 self N x0 x1 S =
qax (self.f 95 [x0, x1] S) fun t3 S3 =>
(qa4 E0 .geq 3 false true t3 (.int .i64 0)).bind fun t4 =>
some (.ret t4, S3) := by kernel_rfl
noncomputable def C95 : Code := Try.f95.body.getD .skip
noncomputable def B95 : D := (qas C95 [[], [], [], [], [], [], [], [], [], [], [], [], [], [], [0, 6, 8], [], [], [], [], [], [], [0], [0, 1], [], [0, 0, 1], [4], [], [1, 45], [], [], [], [], [], [], [0], [4], []]).1
noncomputable def RL95 : List Nat := cellsOf Try.f95.results.toList
noncomputable def qlm (self : EV) (N : Nat) (nk : Ac->St->Rs) (ek : Nat->Ac->St->Rs) (a : Ac) (S : St) : Rs := qaa [0, 1] a fun a => dr E0 self RL95 N (B95.r.r.r).r (mkK E0 self Try.f95 nk ek) a S
noncomputable def R95_23 (self : EV) (N : Nat) (nk : Ac->St->Rs) (ek : Nat->Ac->St->Rs) (a : Ac) (S : St) : Rs := qaa [] a fun a => dr E0 self RL95 N (B95.r.r.r.r.l).r (mkK E0 self Try.f95 nk ek) a S
theorem R95_23_eq (self : EV) (N : Nat) (nk : Ac->St->Rs) (ek : Nat->Ac->St->Rs) (S : St) : R95_23 self N nk ek (fr 55 []) S =
some (.ret (.int .i64 (-1)), S) := by kernel_rfl
noncomputable def L95_27 (self : EV) (N : Nat) (nk : Ac->St->Rs) (ek : Nat->Ac->St->Rs) (n : Nat) ( v1 v45 : V) (S : St) : Rs := qbf [1, 45] (dr E0 self RL95 N (B95.r.r.r.r.l.l.r.l.l)) (mkK E0 self Try.f95 nk ek) n (fr 55 [(1, v1), (45, v45)]) S
theorem L95_27_eq (self : EV) (N : Nat) (nk : Ac->St->Rs) (ek : Nat->Ac->St->Rs) (n : Nat) ( v1 v45 : V) (S : St) : L95_27 self N nk ek (n + 1) v1 v45 S =
(nextK v45 true S).bind fun p28 =>
(qac p28.1 0).bind fun t29 =>
ifK t29 (
(qac p28.1 1).bind fun t30 =>
(qac p28.1 2).bind fun t31 =>
qax (self.f 99 [v1, t31] p28.2) fun t36 S36 =>
(qa4 E0 .geq 3 false true t36 (.int .i64 0)).bind fun t37 =>
ifK t37 (
some (.ret t30, S36)) (
L95_27 self N nk ek n v1 v45 S36)) (
ek 2 (fr 55 []) p28.2) := by kernel_rfl
theorem R95_22_eq (self : EV) (N : Nat) (nk : Ac->St->Rs) (ek : Nat->Ac->St->Rs) ( v0 v1 : V) (S : St) : qlm self N nk ek (fr 55 [(0, v0), (1, v1)]) S =
(qga E0 9 v0 S).bind fun p26 =>
L95_27 self N (R95_23 self N (fun a s => qaa [4] a fun a => nk a s) ek) (exB 2 (R95_23 self N (fun a s => qaa [4] a fun a => nk a s) ek) ek) N v1 p26.1 p26.2 := by kernel_rfl
noncomputable def R95_52 (self : EV) (N : Nat) (nk : Ac->St->Rs) (ek : Nat->Ac->St->Rs) (a : Ac) (S : St) : Rs := qaa [] a fun a => dr E0 self RL95 N (B95.r.r.r.l.r.l.r.r.l).r (mkK E0 self Try.f95 nk ek) a S
theorem R95_52_eq (self : EV) (N : Nat) (nk : Ac->St->Rs) (ek : Nat->Ac->St->Rs) (S : St) : R95_52 self N nk ek (fr 55 []) S =
some (.ret (.int .i64 (-1)), S) := by kernel_rfl
noncomputable def L95_55 (self : EV) (N : Nat) (nk : Ac->St->Rs) (ek : Nat->Ac->St->Rs) (n : Nat) ( v0 v6 v8 : V) (S : St) : Rs := qbf [0, 6, 8] (dr E0 self RL95 N (B95.r.r.r.l.r.l.r.r.l.l.r.l.l)) (mkK E0 self Try.f95 nk ek) n (fr 55 [(0, v0), (6, v6), (8, v8)]) S
theorem L95_55_eq (self : EV) (N : Nat) (nk : Ac->St->Rs) (ek : Nat->Ac->St->Rs) (n : Nat) ( v0 v6 v8 : V) (S : St) : L95_55 self N nk ek (n + 1) v0 v6 v8 S =
(qd1 v0 S).bind fun p58 =>
(qa4 E0 .lss 3 false false v8 p58.1).bind fun t59 =>
ifK t59 (
(ixS v0 v8).bind fun t62 =>
qax (self.f 102 [v6, t62] p58.2) fun t63 S63 =>
ifK t63 (
some (.ret v8, S63)) (
(qa4 E0 .add 3 false true v8 (.int .i64 1)).bind fun t67 =>
L95_55 self N nk ek n v0 v6 t67 S63)) (
ek 0 (fr 55 []) p58.2) := by kernel_rfl
noncomputable def F95 (self : EV) (N : Nat) (x0 x1 : V) (S : St) : Rs := qbu E0 self N Try.f95 B95 [x0, x1] S
noncomputable def C99 : Code := Try.f99.body.getD .skip
noncomputable def B99 : D := (qas C99 [[], [], [], [], [], [175], [], [], [], [], [], [], [0], [4], [], [], [], [], [], [], [], [0, 7, 8, 9], [], [], [], [], [], [], [], [], [0, 0, 7, 8, 9], [0, 7, 8, 9], [], [0, 7, 8, 9, 12], [], [8, 9], [], [], [], [0, 8, 9], [0, 7, 8, 9], [], [], [], [], [], [], [0], [4], [], [], [], [], [], [], [], [], [], [0, 7, 8, 9, 14, 15], [], [], [], [], [], [0, 7, 8, 9, 14, 15, 16], [], [8, 9], [], [], [0, 7, 8, 9, 14, 15], [], [0, 8, 9], [0, 7, 8, 9, 14, 15], [], [0, 0, 7, 8, 9, 14, 15], [0, 7, 8, 9, 14, 15], [0], [4], []]).1
noncomputable def RL99 : List Nat := cellsOf Try.f99.results.toList
noncomputable def R99_16 (self : EV) (N : Nat) (nk : Ac->St->Rs) (ek : Nat->Ac->St->Rs) (a : Ac) (S : St) : Rs := qaa [] a fun a => dr E0 self RL99 N (B99.r.l.r.r.r.l).r (mkK E0 self Try.f99 nk ek) a S
theorem R99_16_eq (self : EV) (N : Nat) (nk : Ac->St->Rs) (ek : Nat->Ac->St->Rs) (S : St) : R99_16 self N nk ek (fr 187 []) S =
some (.ret (.int .i64 (-1)), S) := by kernel_rfl
noncomputable def L99_20 (self : EV) (N : Nat) (nk : Ac->St->Rs) (ek : Nat->Ac->St->Rs) (n : Nat) ( v175 : V) (S : St) : Rs := qbf [175] (dr E0 self RL99 N (B99.r.l.r.r.r.l.l.r.l.l)) (mkK E0 self Try.f99 nk ek) n (fr 187 [(175, v175)]) S
theorem qn9 (self : EV) (N : Nat) (nk : Ac->St->Rs) (ek : Nat->Ac->St->Rs) (n : Nat) ( v175 : V) (S : St) : L99_20 self N nk ek (n + 1) v175 S =
(nextK v175 true S).bind fun p21 =>
(qac p21.1 0).bind fun t22 =>
ifK t22 (
(qac p21.1 1).bind fun t23 =>
(qac p21.1 2).bind fun t24 =>
(qa4 E0 .eql 21 false true t24 (.int .i32 65533)).bind fun t28 =>
ifK t28 (
some (.ret t23, p21.2)) (
L99_20 self N nk ek n v175 p21.2)) (
ek 9 (fr 187 []) p21.2) := by kernel_rfl
noncomputable def R99_46 (self : EV) (N : Nat) (nk : Ac->St->Rs) (ek : Nat->Ac->St->Rs) (a : Ac) (S : St) : Rs := qaa [] a fun a => dr E0 self RL99 N (B99.r.l.r.r.r.r.r.r.l.r.r.r.r).r (mkK E0 self Try.f99 nk ek) a S
theorem R99_46_eq (self : EV) (N : Nat) (nk : Ac->St->Rs) (ek : Nat->Ac->St->Rs) (S : St) : R99_46 self N nk ek (fr 187 []) S =
some (.ret (.int .i64 (-1)), S) := by kernel_rfl
noncomputable def N99_48 (self : EV) (N : Nat) (nk : Ac->St->Rs) (ek : Nat->Ac->St->Rs) (n : Nat) : Ac->St->Rs := fun a S => qaa [0, 7, 8, 9] a fun a => qbf [0, 7, 8, 9] (dr E0 self RL99 N (B99.r.l.r.r.r.r.r.r.l.r.r.r.r.l.l.l)) (mkK E0 self Try.f99 nk ek) n a S
noncomputable def L99_48 (self : EV) (N : Nat) (nk : Ac->St->Rs) (ek : Nat->Ac->St->Rs) (n : Nat) ( v0 v7 v8 v9 : V) (S : St) : Rs := qbf [0, 7, 8, 9] (dr E0 self RL99 N (B99.r.l.r.r.r.r.r.r.l.r.r.r.r.l.l.l)) (mkK E0 self Try.f99 nk ek) n (fr 187 [(0, v0), (7, v7), (8, v8), (9, v9)]) S
noncomputable def R99_53 (self : EV) (N : Nat) (nk : Ac->St->Rs) (ek : Nat->Ac->St->Rs) (a : Ac) (S : St) : Rs := qaa [0, 7, 8, 9] a fun a => dr E0 self RL99 N (B99.r.l.r.r.r.r.r.r.l.r.r.r.r.l.l.l.r.l.l).r (mkK E0 self Try.f99 nk ek) a S
theorem L99_48_eq (self : EV) (N : Nat) (nk : Ac->St->Rs) (ek : Nat->Ac->St->Rs) (n : Nat) ( v0 v7 v8 v9 : V) (S : St) : L99_48 self N nk ek (n + 1) v0 v7 v8 v9 S =
(qd1 v0 S).bind fun p51 =>
(qa4 E0 .lss 3 false false v9 p51.1).bind fun t52 =>
ifK t52 (
(ixS v0 v9).bind fun t81 =>
(ixS v7 v8).bind fun t84 =>
(qa4 E0 .neq 5 false false t81 t84).bind fun t85 =>
ifK t85 (
(qa4 E0 .add 3 false true v9 (.int .i64 1)).bind fun t88 =>
(qbl E0 9 v0 (some t88) none none (onS (qb3 p51.2 (onS p51.2) [[], [], [], [], [], [], []]))).bind fun p89 =>
(ixS v7 v8).bind fun t92 =>
qjr (qat E0 (B99.r.l.r.r.r.r.r.r.l.r.r.r.r.l.l.l.r.l.l.l.r.l.l).ops) (qb3 p51.2 (onS p51.2) [[], [], [], [], [], [], []]) 7 [[], [], [], p89.2.log, [], [], []] (self.f 47 [p89.1, t92] (onS p89.2)) fun t93 S93 =>
(qa4 E0 .lss 3 false true t93 (.int .i64 0)).bind fun t96 =>
ifK t96 (
some (.ret (.int .i64 (-1)), (qb3 (qb3 p51.2 (onS p51.2) [[], [], [], [], [], [], []]) (onS S93) [[], [], [], p89.2.log, [], [], [], S93.log, []]))) (
(qa4 E0 .add 3 false true t93 (.int .i64 1)).bind fun t100 =>
(qa4 E0 .add 3 false false v9 t100).bind fun t101 =>
R99_53 self N (N99_48 self N nk ek n) (exB 2 (N99_48 self N nk ek n) ek) (fr 187 [(0, v0), (7, v7), (8, v8), (9, t101)]) (qb3 (qb3 p51.2 (onS p51.2) [[], [], [], [], [], [], []]) (onS S93) [[], [], [], p89.2.log, [], [], [], S93.log, []]))) (
R99_53 self N (N99_48 self N nk ek n) (exB 2 (N99_48 self N nk ek n) ek) (fr 187 [(0, v0), (7, v7), (8, v8), (9, v9)]) (qb3 p51.2 (onS p51.2) [[], [], [], [], [], [], []]))) (
ek 1 (fr 187 []) p51.2) := by kernel_rfl
noncomputable def F99 (self : EV) (N : Nat) (x0 x1 : V) (S : St) : Rs := qbu E0 self N Try.f99 B99 [x0, x1] S
theorem F99_eq (self : EV) (N : Nat) (x0 x1 : V) (S : St) : F99 self N x0 x1 S =
(qa4 E0 .leq 21 true false (.int .i32 0) x1).bind fun t2 =>
(qa2 true t2).bind fun g4 => (bif g4 then some x1 else some (.tuple [])).bind fun t4 =>
(qa2 true t2).bind fun g5 => (bif g5 then qa4 E0 .lss 21 false true t4 (.int .i32 128) else some (.tuple [])).bind fun t5 =>
(qag t2 (some t5) (some (.bool false))).bind fun t6 =>
ifK t6 (
(cvI .u8 x1 S).bind fun p10 =>
qax (self.f 47 [x0, p10.1] p10.2) fun t11 S11 =>
some (.ret t11, S11)) (
(qa4 E0 .eql 21 false true x1 (.int .i32 65533)).bind fun t14 =>
ifK t14 (
(qga E0 9 x0 S).bind fun p19 =>
L99_20 self N (R99_16 self N (qak E0 self Try.f99) (exB 0 (qak E0 self Try.f99) qa9)) (exB 9 (R99_16 self N (qak E0 self Try.f99) (exB 0 (qak E0 self Try.f99) qa9)) (exB 0 (qak E0 self Try.f99) qa9)) N p19.1 p19.2) (
qax (self.f 103 [x1] S) fun t32 S32 =>
(unV .not t32).bind fun t33 =>
ifK t33 (
some (.ret (.int .i64 (-1)), S32)) (
(qaz E0 21 9 x1 S32).bind fun p37 =>
(qd1 p37.1 p37.2).bind fun p40 =>
(qa4 E0 .sub 3 false true p40.1 (.int .i64 1)).bind fun t41 =>
L99_48 self N (R99_46 self N (qak E0 self Try.f99) (exB 0 (qak E0 self Try.f99) qa9)) (exB 1 (R99_46 self N (qak E0 self Try.f99) (exB 0 (qak E0 self Try.f99) qa9)) (exB 0 (qak E0 self Try.f99) qa9)) N x0 p37.1 t41 t41 p40.2))) := by kernel_rfl
noncomputable def C100 : Code := Try.f100.body.getD .skip
noncomputable def B100 : D := (qas C100 [[], []]).1
noncomputable def F100 (self : EV) (N : Nat) (x0 : V) (S : St) : Rs := qbu E0 self N Try.f100 B100 [x0] S
theorem F100_eq (self : EV) (N : Nat) (x0 : V) (S : St) : F100 self N x0 S =
(qa4 E0 .gtr 3 false true x0 (.int .i64 8)).bind fun t2 =>
some (.ret t2, S) := by kernel_rfl
noncomputable def C101 : Code := Try.f101.body.getD .skip
noncomputable def B101 : D := (qas C101 [[], [], [0, 2, 4], [], [2], [], [], [], [], [], [], [0, 2], [2, 3], []]).1
noncomputable def RL101 : List Nat := cellsOf Try.f101.results.toList
noncomputable def qnb (self : EV) (N : Nat) (nk : Ac->St->Rs) (ek : Nat->Ac->St->Rs) (a : Ac) (S : St) : Rs := qaa [2] a fun a => dr E0 self RL101 N (B101.r).r (mkK E0 self Try.f101 nk ek) a S
theorem R101_2_eq (self : EV) (N : Nat) (nk : Ac->St->Rs) (ek : Nat->Ac->St->Rs) ( v2 : V) (S : St) : qnb self N nk ek (fr 21 [(2, v2)]) S =
(ldA 256 v2 S).bind fun p3 =>
(stP 256 v2 p3.1 p3.2).bind fun p4 =>
(ldrA 256 v2 p4.2).bind fun p6 =>
some (.ret (.tuple [p6.1, (.bool true)]), p6.2) := by kernel_rfl
noncomputable def L101_8 (self : EV) (N : Nat) (nk : Ac->St->Rs) (ek : Nat->Ac->St->Rs) (n : Nat) ( v0 v2 v4 : V) (S : St) : Rs := qbf [0, 2, 4] (dr E0 self RL101 N (B101.r.l.r.l.l)) (mkK E0 self Try.f101 nk ek) n (fr 21 [(0, v0), (2, v2), (4, v4)]) S
theorem L101_8_eq (self : EV) (N : Nat) (nk : Ac->St->Rs) (ek : Nat->Ac->St->Rs) (n : Nat) ( v0 v2 v4 : V) (S : St) : L101_8 self N nk ek (n + 1) v0 v2 v4 S =
(qd1 v0 S).bind fun p11 =>
(qa4 E0 .lss 3 false false v4 p11.1).bind fun t12 =>
ifK t12 (
(ixS v0 v4).bind fun t15 =>
(qa4 E0 .geq 5 false true t15 (.int .u8 128)).bind fun t18 =>
ifK t18 (
(ldA 256 v2 p11.2).bind fun p19 =>
(stP 256 v2 p19.1 p19.2).bind fun p20 =>
(ldrA 256 v2 p20.2).bind fun p22 =>
some (.ret (.tuple [p22.1, (.bool false)]), p22.2)) (
(ixA 256 1 false 1 v2 t15).bind fun t24 =>
(stP 1 t24 (.bool true) p11.2).bind fun p25 =>
(qa4 E0 .add 3 false true v4 (.int .i64 1)).bind fun t27 =>
L101_8 self N nk ek n v0 v2 t27 p25.2)) (
ek 0 (fr 21 [(2, v2)]) p11.2) := by kernel_rfl
noncomputable def F101 (self : EV) (N : Nat) (x0 : V) (S : St) : Rs := qbu E0 self N Try.f101 B101 [x0] S
noncomputable def C102 : Code := Try.f102.body.getD .skip
noncomputable def B102 : D := (qas C102 [[], []]).1
noncomputable def F102 (self : EV) (N : Nat) (x0 x1 : V) (S : St) : Rs := qbu E0 self N Try.f102 B102 [x0, x1] S
theorem F102_eq (self : EV) (N : Nat) (x0 x1 : V) (S : St) : F102 self N x0 x1 S =
(qe8 x0).bind fun t3 =>
(ixA 256 1 false 1 t3 x1).bind fun t4 =>
(ld1 t4 S).bind fun p5 =>
some (.ret p5.1, p5.2) := by kernel_rfl
noncomputable def C103 : Code := Try.f103.body.getD .skip
noncomputable def B103 : D := (qas C103 [[], [], [], [], [], [], []]).1
noncomputable def F103 (self : EV) (N : Nat) (x0 : V) (S : St) : Rs := qbu E0 self N Try.f103 B103 [x0] S
theorem F103_eq (self : EV) (N : Nat) (x0 : V) (S : St) : F103 self N x0 S =
(qa4 E0 .leq 21 true false (.int .i32 0) x0).bind fun t2 =>
(qa2 true t2).bind fun g4 => (bif g4 then some x0 else some (.tuple [])).bind fun t4 =>
(qa2 true t2).bind fun g5 => (bif g5 then qa4 E0 .lss 21 false true t4 (.int .i32 55296) else some (.tuple [])).bind fun t5 =>
(qag t2 (some t5) (some (.bool false))).bind fun t6 =>
ifK t6 (
some (.ret (.bool true), S)) (
(qa4 E0 .lss 21 true false (.int .i32 57343) x0).bind fun t10 =>
(qa2 true t10).bind fun g12 => (bif g12 then some x0 else some (.tuple [])).bind fun t12 =>
(qa2 true t10).bind fun g13 => (bif g13 then qa4 E0 .leq 21 false true t12 (.int .i32 1114111) else some (.tuple [])).bind fun t13 =>
(qag t10 (some t13) (some (.bool false))).bind fun t14 =>
ifK t14 (
some (.ret (.bool true), S)) (
some (.ret (.bool false), S))) := by kernel_rfl
end
noncomputable section
noncomputable def C14 : Code := Try.f14.body.getD .skip
noncomputable def B14 : D := (qas C14 [[], [], [], [], [], [], [], [], []]).1
noncomputable def F14 (self : EV) (N : Nat) (x0 x1 : V) (S : St) : Rs := qbu E0 self N Try.f14 B14 [x0, x1] S
theorem F14_eq (self : EV) (N : Nat) (x0 x1 : V) (S : St) : F14 self N x0 x1 S =
qax (self.f 30 [x0] S) fun t3 S3 =>
(unV .not t3).bind fun t4 =>
ifK t4 (
some (.ret (.tuple [(sv []), (.int .i64 2)]), S3)) (
qax (self.f 31 [x1] S3) fun t8 S8 =>
(qa4 E0 .neq 32 false true t8 (.int .i64 0)).bind fun t11 =>
ifK t11 (
some (.ret (.tuple [(sv []), t8]), S8)) (
(qa4 E0 .add 9 false true x0 (sv [45])).bind fun t16 =>
(qa4 E0 .add 9 false false t16 x1).bind fun t18 =>
some (.ret (.tuple [t18, (.int .i64 0)]), S8))) := by kernel_rfl
noncomputable def C30 : Code := Try.f30.body.getD .skip
noncomputable def B30 : D := (qas C30 [[], [], [], [0, 3, 9, 10], [], [0], [], [], [], [], [], [], [0, 0], [2], []]).1
noncomputable def RL30 : List Nat := cellsOf Try.f30.results.toList
noncomputable def R30_3 (self : EV) (N : Nat) (nk : Ac->St->Rs) (ek : Nat->Ac->St->Rs) (a : Ac) (S : St) : Rs := qaa [0] a fun a => dr E0 self RL30 N (B30.r.r).r (mkK E0 self Try.f30 nk ek) a S
theorem R30_3_eq (self : EV) (N : Nat) (nk : Ac->St->Rs) (ek : Nat->Ac->St->Rs) ( v0 : V) (S : St) : R30_3 self N nk ek (fr 27 [(0, v0)]) S =
(qd1 v0 S).bind fun p5 =>
(qa4 E0 .eql 3 false true p5.1 (.int .i64 32)).bind fun t6 =>
some (.ret t6, p5.2) := by kernel_rfl
noncomputable def L30_11 (self : EV) (N : Nat) (nk : Ac->St->Rs) (ek : Nat->Ac->St->Rs) (n : Nat) ( v0 v3 v9 v10 : V) (S : St) : Rs := qbf [0, 3, 9, 10] (dr E0 self RL30 N (B30.r.r.l.r.l.l)) (mkK E0 self Try.f30 nk ek) n (fr 27 [(0, v0), (3, v3), (9, v9), (10, v10)]) S
theorem L30_11_eq (self : EV) (N : Nat) (nk : Ac->St->Rs) (ek : Nat->Ac->St->Rs) (n : Nat) ( v0 v3 v9 v10 : V) (S : St) : L30_11 self N nk ek (n + 1) v0 v3 v9 v10 S =
(qa4 E0 .lss 3 false false v10 v9).bind fun t12 =>
ifK t12 (
(ixS v0 v10).bind fun t18 =>
(qch E0 82 v3 t18 true S).bind fun p19 =>
(qac p19.1 0).bind fun t21 =>
(qac p19.1 1).bind fun t22 =>
(unV .not t22).bind fun t26 =>
ifK t26 (
some (.ret (.bool false), p19.2)) (
(qa4 E0 .add 3 false true v10 (.int .i64 1)).bind fun t28 =>
L30_11 self N nk ek n v0 v3 v9 t28 p19.2)) (
ek 0 (fr 27 [(0, v0)]) S) := by kernel_rfl
noncomputable def F30 (self : EV) (N : Nat) (x0 : V) (S : St) : Rs := qbu E0 self N Try.f30 B30 [x0] S
theorem F30_eq (self : EV) (N : Nat) (x0 : V) (S : St) : F30 self N x0 S =
qax (self.f 56 [] S) fun t1 S1 =>
(qd1 x0 S1).bind fun p9 =>
L30_11 self N (R30_3 self N (qak E0 self Try.f30) qa9) (exB 0 (R30_3 self N (qak E0 self Try.f30) qa9) qa9) N x0 t1 p9.1 (.int .i64 0) p9.2 := by kernel_rfl
noncomputable def C31 : Code := Try.f31.body.getD .skip
noncomputable def B31 : D := (qas C31 [[], [], [], [], [], [], [], [], [], [0, 3, 4, 5, 6, 12, 13], [], [0], [], [], [], [], [], [0, 0], [2], [], [], [], []]).1
noncomputable def RL31 : List Nat := cellsOf Try.f31.results.toList
noncomputable def R31_9 (self : EV) (N : Nat) (nk : Ac->St->Rs) (ek : Nat->Ac->St->Rs) (a : Ac) (S : St) : Rs := qaa [0] a fun a => dr E0 self RL31 N (B31.r.r.r.r.r.r).r (mkK E0 self Try.f31 nk ek) a S
theorem R31_9_eq (self : EV) (N : Nat) (nk : Ac->St->Rs) (ek : Nat->Ac->St->Rs) ( v0 : V) (S : St) : R31_9 self N nk ek (fr 34 [(0, v0)]) S =
(qa4 E0 .eql 9 false true v0 (sv [])).bind fun t11 =>
(qa2 false t11).bind fun g13 => (bif g13 then some v0 else some (.tuple [])).bind fun t13 =>
(qa2 false t11).bind fun g14 => (bif g14 then ixS t13 (.int .i64 0) else some (.tuple [])).bind fun t14 =>
(qa2 false t11).bind fun g15 => (bif g15 then qa4 E0 .eql 5 false true t14 (.int .u8 46) else some (.tuple [])).bind fun t15 =>
(qag t11 (some (.bool true)) (some t15)).bind fun t16 =>
ifK t16 (
some (.ret (.int .i64 2), S)) (
some (.ret (.int .i64 0), S)) := by kernel_rfl
noncomputable def L31_22 (self : EV) (N : Nat) (nk : Ac->St->Rs) (ek : Nat->Ac->St->Rs) (n : Nat) ( v0 v3 v4 v5 v6 v12 v13 : V) (S : St) : Rs := qbf [0, 3, 4, 5, 6, 12, 13] (dr E0 self RL31 N (B31.r.r.r.r.r.r.l.r.l.l)) (mkK E0 self Try.f31 nk ek) n (fr 34 [(0, v0), (3, v3), (4, v4), (5, v5), (6, v6), (12, v12), (13, v13)]) S
theorem L31_22_eq (self : EV) (N : Nat) (nk : Ac->St->Rs) (ek : Nat->Ac->St->Rs) (n : Nat) ( v0 v3 v4 v5 v6 v12 v13 : V) (S : St) : L31_22 self N nk ek (n + 1) v0 v3 v4 v5 v6 v12 v13 S =
(qa4 E0 .lss 3 false false v13 v12).bind fun t23 =>
ifK t23 (
(ixS v0 v13).bind fun t28 =>
(bsP 85 1 4 (Ev.one .nilfn) [(0, v3), (1, v4), (2, v5), (3, v6)] S).bind fun p33 =>
qax (self.f 61 [t28, p33.1] p33.2) fun t34 S34 =>
(unV .not t34).bind fun t35 =>
ifK t35 (
some (.ret (.int .i64 2), S34)) (
(qa4 E0 .add 3 false true v13 (.int .i64 1)).bind fun t37 =>
L31_22 self N nk ek n v0 v3 v4 v5 v6 v12 t37 S34)) (
ek 0 (fr 34 [(0, v0)]) S) := by kernel_rfl
noncomputable def F31 (self : EV) (N : Nat) (x0 : V) (S : St) : Rs := qbu E0 self N Try.f31 B31 [x0] S
theorem F31_eq (self : EV) (N : Nat) (x0 : V) (S : St) : F31 self N x0 S =
(qd1 x0 S).bind fun p2 =>
(qa4 E0 .gtr 3 false true p2.1 (.int .i64 20)).bind fun t3 =>
ifK t3 (
some (.ret (.int .i64 3), p2.2)) (
(qd1 x0 p2.2).bind fun p20 =>
L31_22 self N (R31_9 self N (qak E0 self Try.f31) qa9) (exB 0 (R31_9 self N (qak E0 self Try.f31) qa9) qa9) N x0 (.fn (.func 57) [] []) (.fn (.func 58) [] []) (.fn (.func 59) [] []) (.fn (.func 60) [] []) p20.1 (.int .i64 0) p20.2) := by kernel_rfl
noncomputable def C56 : Code := Try.f56.body.getD .skip
noncomputable def B56 : D := (qas C56 [[], [], [], [1, 4], [], [1], [], [], [], [0, 1], [0], []]).1
noncomputable def RL56 : List Nat := cellsOf Try.f56.results.toList
noncomputable def R56_3 (self : EV) (N : Nat) (nk : Ac->St->Rs) (ek : Nat->Ac->St->Rs) (a : Ac) (S : St) : Rs := qaa [1] a fun a => dr E0 self RL56 N (B56.r.r).r (mkK E0 self Try.f56 nk ek) a S
theorem R56_3_eq (self : EV) (N : Nat) (nk : Ac->St->Rs) (ek : Nat->Ac->St->Rs) ( v1 : V) (S : St) : R56_3 self N nk ek (fr 13 [(1, v1)]) S =
some (.ret v1, S) := by kernel_rfl
noncomputable def L56_7 (self : EV) (N : Nat) (nk : Ac->St->Rs) (ek : Nat->Ac->St->Rs) (n : Nat) ( v1 v4 : V) (S : St) : Rs := qbf [1, 4] (dr E0 self RL56 N (B56.r.r.l.r.l.l)) (mkK E0 self Try.f56 nk ek) n (fr 13 [(1, v1), (4, v4)]) S
theorem L56_7_eq (self : EV) (N : Nat) (nk : Ac->St->Rs) (ek : Nat->Ac->St->Rs) (n : Nat) ( v1 v4 : V) (S : St) : L56_7 self N nk ek (n + 1) v1 v4 S =
(qa4 E0 .lss 3 false true v4 (.int .i64 32)).bind fun t8 =>
ifK t8 (
(ixS (sv [48, 49, 50, 51, 52, 53, 54, 55, 56, 57, 97, 98, 99, 100, 102, 103, 104, 105, 106, 107, 108, 109, 110, 112, 113, 114, 115, 118, 119, 120, 121, 122]) v4).bind fun t13 =>
(vu (qbp E0 82 v1 t13 v4 S)).bind fun p15 =>
(qa4 E0 .add 3 false true v4 (.int .i64 1)).bind fun t16 =>
L56_7 self N nk ek n v1 t16 p15.2) (
ek 0 (fr 13 [(1, v1)]) S) := by kernel_rfl
noncomputable def F56 (self : EV) (N : Nat) (S : St) : Rs := qbu E0 self N Try.f56 B56 [] S
theorem F56_eq (self : EV) (N : Nat) (S : St) : F56 self N S =
(qfh E0 82 none S).bind fun p1 =>
L56_7 self N (R56_3 self N (qak E0 self Try.f56) qa9) (exB 0 (R56_3 self N (qak E0 self Try.f56) qa9) qa9) N p1.1 (.int .i64 0) p1.2 := by kernel_rfl
noncomputable def C57 : Code := Try.f57.body.getD .skip
noncomputable def B57 : D := (qas C57 [[], []]).1
noncomputable def F57 (self : EV) (N : Nat) (x0 : V) (S : St) : Rs := qbu E0 self N Try.f57 B57 [x0] S
theorem F57_eq (self : EV) (N : Nat) (x0 : V) (S : St) : F57 self N x0 S =
(qa4 E0 .geq 5 false true x0 (.int .u8 97)).bind fun t2 =>
(qa2 true t2).bind fun g4 => (bif g4 then some x0 else some (.tuple [])).bind fun t4 =>
(qa2 true t2).bind fun g5 => (bif g5 then qa4 E0 .leq 5 false true t4 (.int .u8 122) else some (.tuple [])).bind fun t5 =>
(qag t2 (some t5) (some (.bool false))).bind fun t6 =>
some (.ret t6, S) := by kernel_rfl
noncomputable def C61 : Code := Try.f61.body.getD .skip
noncomputable def B61 : D := (qas C61 [[], [], [0, 7, 8, 9], [], [], [], [], [], [], [], [0], [4], []]).1
noncomputable def RL61 : List Nat := cellsOf Try.f61.results.toList
noncomputable def R61_1 (self : EV) (N : Nat) (nk : Ac->St->Rs) (ek : Nat->Ac->St->Rs) (a : Ac) (S : St) : Rs := qaa [] a fun a => dr E0 self RL61 N (B61.r).r (mkK E0 self Try.f61 nk ek) a S
noncomputable def L61_6 (self : EV) (N : Nat) (nk : Ac->St->Rs) (ek : Nat->Ac->St->Rs) (n : Nat) ( v0 v7 v8 v9 : V) (S : St) : Rs := qbf [0, 7, 8, 9] (dr E0 self RL61 N (B61.r.l.r.l.l)) (mkK E0 self Try.f61 nk ek) n (fr 17 [(0, v0), (7, v7), (8, v8), (9, v9)]) S
theorem L61_6_eq (self : EV) (N : Nat) (nk : Ac->St->Rs) (ek : Nat->Ac->St->Rs) (n : Nat) ( v0 v7 v8 v9 : V) (S : St) : L61_6 self N nk ek (n + 1) v0 v7 v8 v9 S =
(qa4 E0 .lss 3 false false v9 v8).bind fun t7 =>
ifK t7 (
(ixP 1 v7 v9).bind fun t8 =>
(ld1 t8 S).bind fun p9 =>
qax (qdl E0 self p9.1 [v0] p9.2) fun t13 S13 =>
ifK t13 (
some (.ret (.bool true), S13)) (
(qa4 E0 .add 3 false true v9 (.int .i64 1)).bind fun t15 =>
L61_6 self N nk ek n v0 v7 v8 t15 S13)) (
ek 0 (fr 17 []) S) := by kernel_rfl
noncomputable def F61 (self : EV) (N : Nat) (x0 x1 : V) (S : St) : Rs := qbu E0 self N Try.f61 B61 [x0, x1] S
theorem F61_eq (self : EV) (N : Nat) (x0 x1 : V) (S : St) : F61 self N x0 x1 S =
(lnS x1 S).bind fun p4 =>
L61_6 self N (R61_1 self N (qak E0 self Try.f61) qa9) (exB 0 (R61_1 self N (qak E0 self Try.f61) qa9) qa9) N x0 x1 p4.1 (.int .i64 0) p4.2 := by kernel_rfl
end
noncomputable section
end
noncomputable section
noncomputable def C8 : Code := Try.f8.body.getD .skip
noncomputable def B8 : D := (qas C8 [[], [], [], [], [], [], [2, 4, 5, 18, 19, 20], [], [2, 4, 5], [], [], [], [], [], [0, 2, 4, 5], [4], [], [], [], [0, 10], [4], [], []]).1
noncomputable def RL8 : List Nat := cellsOf Try.f8.results.toList
noncomputable def R8_9 (self : EV) (N : Nat) (nk : Ac->St->Rs) (ek : Nat->Ac->St->Rs) (a : Ac) (S : St) : Rs := qaa [2, 4, 5] a fun a => dr E0 self RL8 N (B8.r.r.r).r (mkK E0 self Try.f8 nk ek) a S
noncomputable def R8_14 (self : EV) (N : Nat) (nk : Ac->St->Rs) (ek : Nat->Ac->St->Rs) (a : Ac) (S : St) : Rs := qaa [10] a fun a => dr E0 self RL8 N (B8.r.r.r.r.l.r.r).r (mkK E0 self Try.f8 nk ek) a S
theorem R8_14_eq (self : EV) (N : Nat) (nk : Ac->St->Rs) (ek : Nat->Ac->St->Rs) (ds : List AD) ( v10 : V) (S : St) : R8_14 self N nk ek (frD 60 [(10, v10)] ds) S =
(ld1 v10 S).bind fun p15 =>
qnq E0 self Try.f8 (frD 60 [(10, v10), (57, p15.1)] ds) (self.f 17 [p15.1] p15.2) fun t16 S16 =>
(ld1 v10 S16).bind fun p17 =>
finR E0 self Try.f8 (frD 60 [(4, p17.1), (10, v10), (57, p15.1), (58, t16), (59, p17.1)] ds) p17.2 := by kernel_rfl
noncomputable def YA8_21 : Code := (B8.r.r.r.r.l.r.r.l.r.l).as
noncomputable def YB8_21 : Code := (B8.r.r.r.r.l.r.r.l.r.l).bd
noncomputable def DA8_21 : D := (qas YA8_21 []).1
noncomputable def DB8_21 : D := (qas YB8_21 [[], [5, 11, 12, 13], [], [], [], []]).1
noncomputable def qfa (st : Nat) (pend : Option Code) ( v5 v11 : V) : O := .loop st pend (frT [(5, v5), (11, v11)] .nil) 60 [37] YA8_21 YB8_21
noncomputable def Y8_21 (self : EV) (N : Nat) (l : Nat) ( v5 v11 : V) ( w37 : V) (S : St) : Rs := roundK E0 self N DA8_21 DB8_21 l (frT [(5, v5), (11, v11)] .nil) 60 [37] [w37] S
noncomputable def L8_25 (self : EV) (N : Nat) (nk : Ac->St->Rs) (ek : Nat->Ac->St->Rs) (n : Nat) (l : Nat) ( v5 v11 v12 v13 : V) (S : St) : Rs := qbf [5, 11, 12, 13] (dr E0 self [] N (DB8_21.l.r.l.l)) (mkKR l nk ek) n (frR 60 [(5, v5), (11, v11), (12, v12), (13, v13)] l) S
theorem L8_25_eq (self : EV) (N : Nat) (nk : Ac->St->Rs) (ek : Nat->Ac->St->Rs) (n : Nat) (l : Nat) ( v5 v11 v12 v13 : V) (S : St) : L8_25 self N nk ek (n + 1) l v5 v11 v12 v13 S =
(qa4 E0 .add 3 false true v13 (.int .i64 32)).bind fun t27 =>
(qd1 v12 S).bind fun p29 =>
(qa4 E0 .leq 3 false false t27 p29.1).bind fun t30 =>
(qa2 true t30).bind fun g32 => (bif g32 then ld1 v5 p29.2 else some (.tuple [], p29.2)).bind fun p32 =>
(qa2 true t30).bind fun g33 => (bif g33 then lnMap p32.1 p32.2 else some (.tuple [], p32.2)).bind fun p33 =>
(qa2 true t30).bind fun g34 => (bif g34 then qa4 E0 .gtr 3 false true p33.1 (.int .i64 0) else some (.tuple [])).bind fun t34 =>
(qag t30 (some t34) (some (.bool false))).bind fun t35 =>
ifK t35 (
(ld1 v11 (onS p33.2)).bind fun p36 =>
(qa4 E0 .add 3 false true v13 (.int .i64 32)).bind fun t40 =>
(qbl E0 9 v12 (some v13) (some t40) none (onS p36.2)).bind fun p41 =>
callDR (frR 60 [(5, v5), (11, v11), (12, v12), (13, v13), (38, v13), (39, t27), (40, v12), (41, p29.1), (42, t30), (43, t30), (44, p32.1), (45, p33.1), (46, t34), (47, t35), (50, p36.1), (51, v12), (52, v13), (53, v13), (54, t40), (55, p41.1)] l) (qat E0 (DB8_21.l.r.l.l.r.l.l).ops) p33.2 6 [p36.2.log, [], [], [], [], p41.2.log] (qdl E0 self p36.1 [p41.1] (onS p41.2)) fun t42 S42 =>
qm8 [(0, [5])] p33.2 [p36.2.log, [], [], [], [], p41.2.log, S42.log] S42 fun S43 =>
(qa4 E0 .add 3 false true v13 (.int .i64 1)).bind fun t45 =>
L8_25 self N nk ek n l v5 v11 v12 t45 S43) (
ek 4 (frR 60 [] l) p33.2) := by kernel_rfl
theorem Y8_21_eq (self : EV) (N : Nat) (l : Nat) ( v5 v11 : V) ( w37 : V) (S : St) : Y8_21 self N l v5 v11 w37 S =
midR l (frR 60 [(5, v5), (11, v11), (12, w37), (37, w37)] l) S fun S22 =>
L8_25 self N (qjy l 0 none true) (exB 4 (qjy l 0 none true) (exB 3 (qjy l 0 none true) (fun i => qjy l 1 (some (.exit i)) false))) N l v5 v11 w37 (.int .i64 0) S22 := by kernel_rfl
theorem R8_9_eq (self : EV) (N : Nat) (nk : Ac->St->Rs) (ek : Nat->Ac->St->Rs) (ds : List AD) ( v2 v4 v5 : V) (S : St) : R8_9 self N nk ek (frD 60 [(2, v2), (4, v4), (5, v5)] ds) S =
(some (nwP 25 1 (Ev.one .nilslice) S)).bind fun p10 =>
(some (nwP 41 1 (Ev.one .nilfn) p10.2)).bind fun p12 =>
(stP 1 p12.1 (.fn (.func 15) [] [v5, p10.1]) p12.2).bind fun p13 =>
(ldA 5 v2 p13.2).bind fun p19 =>
qnq E0 self Try.f8 (frD 60 [(2, v2), (4, v4), (5, v5), (10, p10.1), (11, p12.1), (34, (.fn (.func 15) [] [v5, p10.1])), (35, p19.1)] ds) (self.f 16 [p19.1] p19.2) fun t20 S20 =>
rangeP E0 self t20 (qfa 0 none v5 p12.1) S20 (fun S47 =>
R8_14 self N (fun a s => qaa [4] a fun a => nk a s) ek (frD 60 [(10, p10.1)] (mkR S20.next :: ds)) S47) (fun s => finR E0 self Try.f8 (frD 60 [(2, v2), (4, v4), (5, v5), (10, p10.1), (11, p12.1), (34, (.fn (.func 15) [] [v5, p10.1])), (35, p19.1), (36, t20)] (mkR S20.next :: ds)) s) (fun i s => (exB 2 (R8_14 self N (fun a s => qaa [4] a fun a => nk a s) ek) ek) i (frD 60 [(2, v2), (4, v4), (5, v5), (10, p10.1), (11, p12.1), (34, (.fn (.func 15) [] [v5, p10.1])), (35, p19.1), (36, t20)] (mkR S20.next :: ds)) s) (fun v s => qbi E0 self Try.f8 (frD 60 [(2, v2), (4, v4), (5, v5), (10, p10.1), (11, p12.1), (34, (.fn (.func 15) [] [v5, p10.1])), (35, p19.1), (36, t20)] (mkR S20.next :: ds)) (mkR S20.next :: ds) (.pan v) s) := by kernel_rfl
noncomputable def L8_51 (self : EV) (N : Nat) (nk : Ac->St->Rs) (ek : Nat->Ac->St->Rs) (n : Nat) (ds : List AD) ( v2 v4 v5 v18 v19 v20 : V) (S : St) : Rs := qbf [2, 4, 5, 18, 19, 20] (dr E0 self RL8 N (B8.r.r.r.l.r.l.l)) (mkK E0 self Try.f8 nk ek) n (frD 60 [(2, v2), (4, v4), (5, v5), (18, v18), (19, v19), (20, v20)] ds) S
theorem L8_51_eq (self : EV) (N : Nat) (nk : Ac->St->Rs) (ek : Nat->Ac->St->Rs) (n : Nat) (ds : List AD) ( v2 v4 v5 v18 v19 v20 : V) (S : St) : L8_51 self N nk ek (n + 1) ds v2 v4 v5 v18 v19 v20 S =
(qa4 E0 .lss 3 false false v20 v19).bind fun t52 =>
ifK t52 (
(ixP 1 v18 v20).bind fun t53 =>
(ld1 t53 S).bind fun p54 =>
qnq E0 self Try.f8 (frD 60 [(2, v2), (4, v4), (5, v5), (7, p54.1), (18, v18), (19, v19), (20, v20), (21, t52), (22, t53), (23, p54.1), (25, p54.1)] ds) (self.f 14 [p54.1, (sv [120])] p54.2) fun t57 S57 =>
(qac t57 0).bind fun t59 =>
(qac t57 1).bind fun t60 =>
(qa4 E0 .eql 32 false true t60 (.int .i64 0)).bind fun t64 =>
ifK t64 (
(ld1 v5 S57).bind fun p65 =>
(vu (qbp E0 31 p65.1 p54.1 (.int .i64 1) p65.2)).bind fun p67 =>
(qa4 E0 .add 3 false true v20 (.int .i64 1)).bind fun t68 =>
L8_51 self N nk ek n ds v2 v4 v5 v18 v19 t68 p67.2) (
(qa4 E0 .add 3 false true v20 (.int .i64 1)).bind fun t70 =>
L8_51 self N nk ek n ds v2 v4 v5 v18 v19 t70 S57)) (
ek 0 (frD 60 [(2, v2), (4, v4), (5, v5)] ds) S) := by kernel_rfl
noncomputable def F8 (self : EV) (N : Nat) (x0 x1 : V) (S : St) : Rs := qbu E0 self N Try.f8 B8 [x0, x1] S
theorem F8_eq (self : EV) (N : Nat) (x0 x1 : V) (S : St) : F8 self N x0 x1 S =
(qm6 24 x0 S).bind fun p0 =>
(ldA 5 p0.1 p0.2).bind fun p2 =>
qnq E0 self Try.f8 (frD 60 [(0, x0), (1, x1), (2, p0.1), (4, .nilslice), (14, p2.1)] []) (self.f 11 [p2.1] p2.2) fun t3 S3 =>
(qa4 E0 .neq 32 false true t3 (.int .i64 0)).bind fun t4 =>
ifK t4 (
finR E0 self Try.f8 (frD 60 [(0, x0), (1, x1), (2, p0.1), (4, .nilslice), (14, p2.1), (15, t3), (16, t4)] []) S3) (
(qfh E0 31 none S3).bind fun p6 =>
(some (nwP 31 1 (Ev.one .nilmap) p6.2)).bind fun p7 =>
(stP 1 p7.1 p6.1 p7.2).bind fun p8 =>
(lnS x1 p8.2).bind fun p49 =>
L8_51 self N (R8_9 self N (qak E0 self Try.f8) qa9) (exB 0 (R8_9 self N (qak E0 self Try.f8) qa9) qa9) N [] p0.1 .nilslice p7.1 x1 p49.1 (.int .i64 0) p49.2) := by kernel_rfl
noncomputable def C15 : Code := Try.f15.body.getD .skip
noncomputable def B15 : D := (qas C15 [[], []]).1
noncomputable def F15 (self : EV) (N : Nat) (x0 x1 x2 : V) (S : St) : Rs := qbu E0 self N Try.f15 B15 [x0, x1, x2] S
theorem F15_eq (self : EV) (N : Nat) (x0 x1 x2 : V) (S : St) : F15 self N x0 x1 x2 S =
(ld1 x1 S).bind fun p0 =>
(qch E0 31 p0.1 x0 false p0.2).bind fun p2 =>
(qa4 E0 .gtr 3 false true p2.1 (.int .i64 0)).bind fun t3 =>
ifK t3 (
(ld1 x2 p2.2).bind fun p4 =>
(bsP 9 1 1 (Ev.one (sv [])) [(0, x0)] p4.2).bind fun p6 =>
(apP 9 1 16 p4.1 p6.1 p6.2).bind fun p7 =>
(stP 1 x2 p7.1 p7.2).bind fun p8 =>
(ld1 x1 p8.2).bind fun p9 =>
(vu (qee E0 31 p9.1 x0 p9.2)).bind fun p11 =>
some (.ret (.tuple []), p11.2)) (
some (.ret (.tuple []), p2.2)) := by kernel_rfl
noncomputable def C16 : Code := Try.f16.body.getD .skip
noncomputable def B16 : D := (qas C16 [[], []]).1
noncomputable def F16 (self : EV) (N : Nat) (x0 : V) (S : St) : Rs := qbu E0 self N Try.f16 B16 [x0] S
theorem F16_eq (self : EV) (N : Nat) (x0 : V) (S : St) : F16 self N x0 S =
(qm6 24 x0 S).bind fun p0 =>
some (.ret (.fn (.func 32) [] [p0.1]), p0.2) := by kernel_rfl
noncomputable def C32 : Code := Try.f32.body.getD .skip
noncomputable def B32 : D := (qas C32 []).1
noncomputable def F32 (self : EV) (N : Nat) (x0 x1 : V) (S : St) : Rs := qbu E0 self N Try.f32 B32 [x0, x1] S
theorem F32_eq (self : EV) (N : Nat) (x0 x1 : V) (S : St) : F32 self N x0 x1 S =
(ldA 5 x1 S).bind fun p0 =>
qax (self.f 33 [p0.1, x0] p0.2) fun t2 S2 =>
some (.ret (.tuple []), S2) := by kernel_rfl
noncomputable def C33 : Code := Try.f33.body.getD .skip
noncomputable def B33 : D := (qas C33 [[], [], [], [], [], [1, 13, 14, 15], [], [], [], [], [], [], [], [0], [4], []]).1
noncomputable def RL33 : List Nat := cellsOf Try.f33.results.toList
noncomputable def R33_8 (self : EV) (N : Nat) (nk : Ac->St->Rs) (ek : Nat->Ac->St->Rs) (a : Ac) (S : St) : Rs := qaa [] a fun a => dr E0 self RL33 N (B33.r.r).r (mkK E0 self Try.f33 nk ek) a S
theorem R33_8_eq (self : EV) (N : Nat) (nk : Ac->St->Rs) (ek : Nat->Ac->St->Rs) (S : St) : R33_8 self N nk ek (fr 24 []) S =
some (.ret (.bool true), S) := by kernel_rfl
noncomputable def L33_14 (self : EV) (N : Nat) (nk : Ac->St->Rs) (ek : Nat->Ac->St->Rs) (n : Nat) ( v1 v13 v14 v15 : V) (S : St) : Rs := qbf [1, 13, 14, 15] (dr E0 self RL33 N (B33.r.r.l.r.l.l)) (mkK E0 self Try.f33 nk ek) n (fr 24 [(1, v1), (13, v13), (14, v14), (15, v15)]) S
theorem L33_14_eq (self : EV) (N : Nat) (nk : Ac->St->Rs) (ek : Nat->Ac->St->Rs) (n : Nat) ( v1 v13 v14 v15 : V) (S : St) : L33_14 self N nk ek (n + 1) v1 v13 v14 v15 S =
(qa4 E0 .lss 3 false false v15 v14).bind fun t15 =>
ifK t15 (
(ixP 5 v13 v15).bind fun t16 =>
(ldA 5 t16 S).bind fun p17 =>
(some (nwP 24 5 (Tr.ofListFrom .nil [(sv []), (.int .i64 0), (.bool false), (sv []), .nilslice] 0) p17.2)).bind fun p18 =>
(stP 5 p18.1 p17.1 p18.2).bind fun p19 =>
(ldA 5 p18.1 p19.2).bind fun p20 =>
qax (self.f 33 [p20.1, v1] p20.2) fun t22 S22 =>
(unV .not t22).bind fun t23 =>
ifK t23 (
some (.ret (.bool false), S22)) (
(qa4 E0 .add 3 false true v15 (.int .i64 1)).bind fun t25 =>
L33_14 self N nk ek n v1 v13 v14 t25 S22)) (
ek 0 (fr 24 []) S) := by kernel_rfl
noncomputable def F33 (self : EV) (N : Nat) (x0 x1 : V) (S : St) : Rs := qbu E0 self N Try.f33 B33 [x0, x1] S
theorem F33_eq (self : EV) (N : Nat) (x0 x1 : V) (S : St) : F33 self N x0 x1 S =
(qm6 24 x0 S).bind fun p0 =>
(faP 3 false 1 p0.1).bind fun t3 =>
(ld1 t3 p0.2).bind fun p4 =>
qax (qdl E0 self x1 [p4.1] p4.2) fun t5 S5 =>
(unV .not t5).bind fun t6 =>
ifK t6 (
some (.ret (.bool false), S5)) (
(faP 4 false 1 p0.1).bind fun t10 =>
(ld1 t10 S5).bind fun p11 =>
(lnS p11.1 p11.2).bind fun p12 =>
L33_14 self N (R33_8 self N (qak E0 self Try.f33) qa9) (exB 0 (R33_8 self N (qak E0 self Try.f33) qa9) qa9) N x1 p11.1 p12.1 (.int .i64 0) p12.2) := by kernel_rfl
end
noncomputable section
end
noncomputable section
end
end Go.Proofs.Ytmeohejdafbodaa.W
