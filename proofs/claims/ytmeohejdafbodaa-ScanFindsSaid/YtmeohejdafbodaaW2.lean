/-
  WHAT THE FUNCTIONS COME TO: each is read by the evaluator, printed, and told as a function of data, part 2 of 8 (no condition).
-/
import Derived.Test.YtmeohejdafbodaaW1
import Derived.Test.YtmeohejdafbodaaProg
import Derived.KernelRfl
namespace Go.Proofs.Ytmeohejdafbodaa.W
open Go.Proofs.Ytmeohejdafbodaa.Ev
set_option maxRecDepth 100000
noncomputable section
noncomputable def C74 : Code := Try.f74.body.getD .skip
noncomputable def B74 : D := (qaw C74 [[], [], [0, 3], [], [0], [], [], [], [], [0, 0], [2], []]).1
noncomputable def RL74 : List Nat := cellsOf Try.f74.results.toList
noncomputable def R74_1 (self : EV) (N : Nat) (nk : Ac → St → Rs) (ek : Nat → Ac → St → Rs) (a : Ac) (S : St) : Rs := qb9 [0] a fun a => dr E0 self RL74 N (B74.r).r (mkK E0 self Try.f74 nk ek) a S
theorem R74_1_eq (self : EV) (N : Nat) (nk : Ac → St → Rs) (ek : Nat → Ac → St → Rs) ( v0 : V) (S : St) : R74_1 self N nk ek (fr 36 [(0, v0)]) S =
(qcz v0 S).bind fun p3 =>
(qad E0 .geq 3 false true p3.1 (.int .i64 1)).bind fun t4 =>
(qa2 true t4).bind fun g6 => (bif g6 then some v0 else some (.tuple [])).bind fun t6 =>
(qa2 true t4).bind fun g7 => (bif g7 then qcz t6 p3.2 else some (.tuple [], p3.2)).bind fun p7 =>
(qa2 true t4).bind fun g8 => (bif g8 then qad E0 .leq 3 false true p7.1 (.int .i64 56) else some (.tuple [])).bind fun t8 =>
(qah t4 (some t8) (some (.bool false))).bind fun t9 =>
(qa2 true t9).bind fun g11 => (bif g11 then some v0 else some (.tuple [])).bind fun t11 =>
(qa2 true t9).bind fun g12 => (bif g12 then qad E0 .neq 9 false true t11 (sv [46]) else some (.tuple [])).bind fun t12 =>
(qah t9 (some t12) (some (.bool false))).bind fun t13 =>
(qa2 true t13).bind fun g15 => (bif g15 then some v0 else some (.tuple [])).bind fun t15 =>
(qa2 true t13).bind fun g16 => (bif g16 then qad E0 .neq 9 false true t15 (sv [46, 46]) else some (.tuple [])).bind fun t16 =>
(qah t13 (some t16) (some (.bool false))).bind fun t17 =>
some (.ret t17, p7.2) := by kernel_rfl
noncomputable def L74_20 (self : EV) (N : Nat) (nk : Ac → St → Rs) (ek : Nat → Ac → St → Rs) (n : Nat) ( v0 v3 : V) (S : St) : Rs := qci [0, 3] (dr E0 self RL74 N (B74.r.l.r.l.l)) (mkK E0 self Try.f74 nk ek) n (fr 36 [(0, v0), (3, v3)]) S
theorem L74_20_eq (self : EV) (N : Nat) (nk : Ac → St → Rs) (ek : Nat → Ac → St → Rs) (n : Nat) ( v0 v3 : V) (S : St) : L74_20 self N nk ek (n + 1) v0 v3 S =
(qcz v0 S).bind fun p23 =>
(qad E0 .lss 3 false false v3 p23.1).bind fun t24 =>
ifK t24 (
(ixS v0 v3).bind fun t27 =>
(qad E0 .eql 5 false true t27 (.int .u8 47)).bind fun t28 =>
(qa2 false t28).bind fun g30 => (bif g30 then some v0 else some (.tuple [])).bind fun t30 =>
(qa2 false t28).bind fun g31 => (bif g31 then some v3 else some (.tuple [])).bind fun t31 =>
(qa2 false t28).bind fun g32 => (bif g32 then ixS t30 t31 else some (.tuple [])).bind fun t32 =>
(qa2 false t28).bind fun g33 => (bif g33 then qad E0 .eql 5 false true t32 (.int .u8 0) else some (.tuple [])).bind fun t33 =>
(qah t28 (some (.bool true)) (some t33)).bind fun t34 =>
ifK t34 (
some (.ret (.bool false), p23.2)) (
(qad E0 .add 3 false true v3 (.int .i64 1)).bind fun t37 =>
L74_20 self N nk ek n v0 t37 p23.2)) (
ek 0 (fr 36 [(0, v0)]) p23.2) := by kernel_rfl
noncomputable def F74 (self : EV) (N : Nat) (x0 : V) (S : St) : Rs := qc0 E0 self N Try.f74 B74 [x0] S
theorem F74_eq (self : EV) (N : Nat) (x0 : V) (S : St) : F74 self N x0 S =
L74_20 self N (R74_1 self N (qay E0 self Try.f74) qae) (exB 0 (R74_1 self N (qay E0 self Try.f74) qae) qae) N x0 (.int .i64 0) S := by kernel_rfl
noncomputable def C75 : Code := Try.f75.body.getD .skip
noncomputable def B75 : D := (qaw C75 [[], [], [], [], [], [], [1, 5, 17, 18, 19], [], [5], [], [], [], [0, 5], [4], []]).1
noncomputable def RL75 : List Nat := cellsOf Try.f75.results.toList
noncomputable def R75_12 (self : EV) (N : Nat) (nk : Ac → St → Rs) (ek : Nat → Ac → St → Rs) (a : Ac) (S : St) : Rs := qb9 [5] a fun a => dr E0 self RL75 N (B75.r.r.r).r (mkK E0 self Try.f75 nk ek) a S
theorem R75_12_eq (self : EV) (N : Nat) (nk : Ac → St → Rs) (ek : Nat → Ac → St → Rs) ( v5 : V) (S : St) : R75_12 self N nk ek (fr 32 [(5, v5)]) S =
some (.ret v5, S) := by kernel_rfl
noncomputable def L75_19 (self : EV) (N : Nat) (nk : Ac → St → Rs) (ek : Nat → Ac → St → Rs) (n : Nat) ( v1 v5 v17 v18 v19 : V) (S : St) : Rs := qci [1, 5, 17, 18, 19] (dr E0 self RL75 N (B75.r.r.r.l.r.l.l)) (mkK E0 self Try.f75 nk ek) n (fr 32 [(1, v1), (5, v5), (17, v17), (18, v18), (19, v19)]) S
theorem L75_19_eq (self : EV) (N : Nat) (nk : Ac → St → Rs) (ek : Nat → Ac → St → Rs) (n : Nat) ( v1 v5 v17 v18 v19 : V) (S : St) : L75_19 self N nk ek (n + 1) v1 v5 v17 v18 v19 S =
(qad E0 .lss 3 false false v19 v18).bind fun t20 =>
ifK t20 (
(ixP 5 v17 v19).bind fun t21 =>
(ldA 5 t21 S).bind fun p22 =>
(some (nwP 24 5 (Tr.ofListFrom .nil [(sv []), (.int .i64 0), (.bool false), (sv []), .nilslice] 0) p22.2)).bind fun p23 =>
(stP 5 p23.1 p22.1 p23.2).bind fun p24 =>
(ldA 5 p23.1 p24.2).bind fun p26 =>
(qad E0 .sub 3 false true v1 (.int .i64 1)).bind fun t28 =>
qb6 (self.f 75 [p26.1, t28] p26.2) fun t29 S29 =>
(qad E0 .add 3 true false (.int .i64 1) t29).bind fun t30 =>
(qjv maxV v5 [t30] S29).bind fun p31 =>
(qad E0 .add 3 false true v19 (.int .i64 1)).bind fun t33 =>
L75_19 self N nk ek n v1 p31.1 v17 v18 t33 p31.2) (
ek 0 (fr 32 [(5, v5)]) S) := by kernel_rfl
noncomputable def F75 (self : EV) (N : Nat) (x0 x1 : V) (S : St) : Rs := qc0 E0 self N Try.f75 B75 [x0, x1] S
theorem F75_eq (self : EV) (N : Nat) (x0 x1 : V) (S : St) : F75 self N x0 x1 S =
(qlv 24 x0 S).bind fun p0 =>
(faP 1 false 1 p0.1).bind fun t3 =>
(ld1 t3 p0.2).bind fun p4 =>
(qad E0 .neq 3 false true p4.1 (.int .i64 2)).bind fun t5 =>
(qa2 false t5).bind fun g7 => (bif g7 then some x1 else some (.tuple [])).bind fun t7 =>
(qa2 false t5).bind fun g8 => (bif g8 then qad E0 .eql 3 false true t7 (.int .i64 1) else some (.tuple [])).bind fun t8 =>
(qah t5 (some (.bool true)) (some t8)).bind fun t9 =>
ifK t9 (
some (.ret (.int .i64 1), p4.2)) (
(faP 4 false 1 p0.1).bind fun t15 =>
(ld1 t15 p4.2).bind fun p16 =>
(lnS p16.1 p16.2).bind fun p17 =>
L75_19 self N (R75_12 self N (qay E0 self Try.f75) qae) (exB 0 (R75_12 self N (qay E0 self Try.f75) qae) qae) N x1 (.int .i64 1) p16.1 p17.1 (.int .i64 0) p17.2) := by kernel_rfl
noncomputable def C76 : Code := Try.f76.body.getD .skip
noncomputable def B76 : D := (qaw C76 [[], []]).1
noncomputable def F76 (self : EV) (N : Nat) (x0 x1 : V) (S : St) : Rs := qc0 E0 self N Try.f76 B76 [x0, x1] S
theorem F76_eq (self : EV) (N : Nat) (x0 x1 : V) (S : St) : F76 self N x0 x1 S =
qb6 (self.f 93 [x0, x1] S) fun t3 S3 =>
(qad E0 .geq 3 false true t3 (.int .i64 0)).bind fun t4 =>
some (.ret t4, S3) := by kernel_rfl
noncomputable def C77 : Code := Try.f77.body.getD .skip
noncomputable def B77 : D := (qaw C77 [[], []]).1
noncomputable def F77 (self : EV) (N : Nat) (x0 : V) (S : St) : Rs := qc0 E0 self N Try.f77 B77 [x0] S
theorem F77_eq (self : EV) (N : Nat) (x0 : V) (S : St) : F77 self N x0 S =
qb6 (qfp E0 self x0 [] S) fun t2 S2 =>
(unV .not t2).bind fun t3 =>
some (.ret t3, S2) := by kernel_rfl
noncomputable def C93 : Code := Try.f93.body.getD .skip
noncomputable def B93 : D := (qaw C93 [[], [], [0, 1, 7, 8], [], [], [], [], [], [], [], [0], [4], []]).1
noncomputable def RL93 : List Nat := cellsOf Try.f93.results.toList
noncomputable def R93_1 (self : EV) (N : Nat) (nk : Ac → St → Rs) (ek : Nat → Ac → St → Rs) (a : Ac) (S : St) : Rs := qb9 [] a fun a => dr E0 self RL93 N (B93.r).r (mkK E0 self Try.f93 nk ek) a S
theorem R93_1_eq (self : EV) (N : Nat) (nk : Ac → St → Rs) (ek : Nat → Ac → St → Rs) (S : St) : R93_1 self N nk ek (fr 19 []) S =
some (.ret (.int .i64 (-1)), S) := by kernel_rfl
noncomputable def L93_6 (self : EV) (N : Nat) (nk : Ac → St → Rs) (ek : Nat → Ac → St → Rs) (n : Nat) ( v0 v1 v7 v8 : V) (S : St) : Rs := qci [0, 1, 7, 8] (dr E0 self RL93 N (B93.r.l.r.l.l)) (mkK E0 self Try.f93 nk ek) n (fr 19 [(0, v0), (1, v1), (7, v7), (8, v8)]) S
theorem L93_6_eq (self : EV) (N : Nat) (nk : Ac → St → Rs) (ek : Nat → Ac → St → Rs) (n : Nat) ( v0 v1 v7 v8 : V) (S : St) : L93_6 self N nk ek (n + 1) v0 v1 v7 v8 S =
(qad E0 .lss 3 false false v8 v7).bind fun t7 =>
ifK t7 (
(ixP 1 v0 v8).bind fun t13 =>
(ld1 t13 S).bind fun p14 =>
qb6 (qfp E0 self v1 [p14.1] p14.2) fun t15 S15 =>
ifK t15 (
some (.ret v8, S15)) (
(qad E0 .add 3 false true v8 (.int .i64 1)).bind fun t18 =>
L93_6 self N nk ek n v0 v1 v7 t18 S15)) (
ek 0 (fr 19 []) S) := by kernel_rfl
noncomputable def F93 (self : EV) (N : Nat) (x0 x1 : V) (S : St) : Rs := qc0 E0 self N Try.f93 B93 [x0, x1] S
theorem F93_eq (self : EV) (N : Nat) (x0 x1 : V) (S : St) : F93 self N x0 x1 S =
(lnS x0 S).bind fun p4 =>
L93_6 self N (R93_1 self N (qay E0 self Try.f93) qae) (exB 0 (R93_1 self N (qay E0 self Try.f93) qae) qae) N x0 x1 p4.1 (.int .i64 0) p4.2 := by kernel_rfl
noncomputable def C78 : Code := Try.f78.body.getD .skip
noncomputable def B78 : D := (qaw C78 [[], []]).1
noncomputable def F78 (self : EV) (N : Nat) (x0 x1 : V) (S : St) : Rs := qc0 E0 self N Try.f78 B78 [x0, x1] S
theorem F78_eq (self : EV) (N : Nat) (x0 x1 : V) (S : St) : F78 self N x0 x1 S =
qb6 (qfp E0 self (.fn (.func 94) [] []) [x0, x1] S) fun t3 S3 =>
some (.ret t3, S3) := by kernel_rfl
noncomputable def C79 : Code := Try.f79.body.getD .skip
noncomputable def B79 : D := (qaw C79 [[], []]).1
noncomputable def F79 (self : EV) (N : Nat) (x0 x1 : V) (S : St) : Rs := qc0 E0 self N Try.f79 B79 [x0, x1] S
theorem F79_eq (self : EV) (N : Nat) (x0 x1 : V) (S : St) : F79 self N x0 x1 S =
qb6 (self.f 95 [x0, x1] S) fun t3 S3 =>
(qad E0 .geq 3 false true t3 (.int .i64 0)).bind fun t4 =>
some (.ret t4, S3) := by kernel_rfl
noncomputable def C95 : Code := Try.f95.body.getD .skip
noncomputable def B95 : D := (qaw C95 [[], [], [], [], [], [], [], [], [], [], [], [], [], [], [0, 6, 8], [], [], [], [], [], [], [0], [0, 1], [], [0, 0, 1], [4], [], [1, 45], [], [], [], [], [], [], [0], [4], []]).1
noncomputable def RL95 : List Nat := cellsOf Try.f95.results.toList
noncomputable def qkb (self : EV) (N : Nat) (nk : Ac → St → Rs) (ek : Nat → Ac → St → Rs) (a : Ac) (S : St) : Rs := qb9 [0, 1] a fun a => dr E0 self RL95 N (B95.r.r.r).r (mkK E0 self Try.f95 nk ek) a S
noncomputable def R95_23 (self : EV) (N : Nat) (nk : Ac → St → Rs) (ek : Nat → Ac → St → Rs) (a : Ac) (S : St) : Rs := qb9 [] a fun a => dr E0 self RL95 N (B95.r.r.r.r.l).r (mkK E0 self Try.f95 nk ek) a S
theorem R95_23_eq (self : EV) (N : Nat) (nk : Ac → St → Rs) (ek : Nat → Ac → St → Rs) (S : St) : R95_23 self N nk ek (fr 55 []) S =
some (.ret (.int .i64 (-1)), S) := by kernel_rfl
noncomputable def L95_27 (self : EV) (N : Nat) (nk : Ac → St → Rs) (ek : Nat → Ac → St → Rs) (n : Nat) ( v1 v45 : V) (S : St) : Rs := qci [1, 45] (dr E0 self RL95 N (B95.r.r.r.r.l.l.r.l.l)) (mkK E0 self Try.f95 nk ek) n (fr 55 [(1, v1), (45, v45)]) S
theorem L95_27_eq (self : EV) (N : Nat) (nk : Ac → St → Rs) (ek : Nat → Ac → St → Rs) (n : Nat) ( v1 v45 : V) (S : St) : L95_27 self N nk ek (n + 1) v1 v45 S =
(nextK v45 true S).bind fun p28 =>
(qa9 p28.1 0).bind fun t29 =>
ifK t29 (
(qa9 p28.1 1).bind fun t30 =>
(qa9 p28.1 2).bind fun t31 =>
qb6 (self.f 99 [v1, t31] p28.2) fun t36 S36 =>
(qad E0 .geq 3 false true t36 (.int .i64 0)).bind fun t37 =>
ifK t37 (
some (.ret t30, S36)) (
L95_27 self N nk ek n v1 v45 S36)) (
ek 2 (fr 55 []) p28.2) := by kernel_rfl
theorem R95_22_eq (self : EV) (N : Nat) (nk : Ac → St → Rs) (ek : Nat → Ac → St → Rs) ( v0 v1 : V) (S : St) : qkb self N nk ek (fr 55 [(0, v0), (1, v1)]) S =
(qfl E0 9 v0 S).bind fun p26 =>
L95_27 self N (R95_23 self N (fun a s => qb9 [4] a fun a => nk a s) ek) (exB 2 (R95_23 self N (fun a s => qb9 [4] a fun a => nk a s) ek) ek) N v1 p26.1 p26.2 := by kernel_rfl
noncomputable def R95_52 (self : EV) (N : Nat) (nk : Ac → St → Rs) (ek : Nat → Ac → St → Rs) (a : Ac) (S : St) : Rs := qb9 [] a fun a => dr E0 self RL95 N (B95.r.r.r.l.r.l.r.r.l).r (mkK E0 self Try.f95 nk ek) a S
theorem R95_52_eq (self : EV) (N : Nat) (nk : Ac → St → Rs) (ek : Nat → Ac → St → Rs) (S : St) : R95_52 self N nk ek (fr 55 []) S =
some (.ret (.int .i64 (-1)), S) := by kernel_rfl
noncomputable def L95_55 (self : EV) (N : Nat) (nk : Ac → St → Rs) (ek : Nat → Ac → St → Rs) (n : Nat) ( v0 v6 v8 : V) (S : St) : Rs := qci [0, 6, 8] (dr E0 self RL95 N (B95.r.r.r.l.r.l.r.r.l.l.r.l.l)) (mkK E0 self Try.f95 nk ek) n (fr 55 [(0, v0), (6, v6), (8, v8)]) S
theorem L95_55_eq (self : EV) (N : Nat) (nk : Ac → St → Rs) (ek : Nat → Ac → St → Rs) (n : Nat) ( v0 v6 v8 : V) (S : St) : L95_55 self N nk ek (n + 1) v0 v6 v8 S =
(qcz v0 S).bind fun p58 =>
(qad E0 .lss 3 false false v8 p58.1).bind fun t59 =>
ifK t59 (
(ixS v0 v8).bind fun t62 =>
qb6 (self.f 102 [v6, t62] p58.2) fun t63 S63 =>
ifK t63 (
some (.ret v8, S63)) (
(qad E0 .add 3 false true v8 (.int .i64 1)).bind fun t67 =>
L95_55 self N nk ek n v0 v6 t67 S63)) (
ek 0 (fr 55 []) p58.2) := by kernel_rfl
noncomputable def F95 (self : EV) (N : Nat) (x0 x1 : V) (S : St) : Rs := qc0 E0 self N Try.f95 B95 [x0, x1] S
noncomputable def C99 : Code := Try.f99.body.getD .skip
noncomputable def B99 : D := (qaw C99 [[], [], [], [], [], [175], [], [], [], [], [], [], [0], [4], [], [], [], [], [], [], [], [0, 7, 8, 9], [], [], [], [], [], [], [], [], [0, 0, 7, 8, 9], [0, 7, 8, 9], [], [0, 7, 8, 9, 12], [], [8, 9], [], [], [], [0, 8, 9], [0, 7, 8, 9], [], [], [], [], [], [], [0], [4], [], [], [], [], [], [], [], [], [], [0, 7, 8, 9, 14, 15], [], [], [], [], [], [0, 7, 8, 9, 14, 15, 16], [], [8, 9], [], [], [0, 7, 8, 9, 14, 15], [], [0, 8, 9], [0, 7, 8, 9, 14, 15], [], [0, 0, 7, 8, 9, 14, 15], [0, 7, 8, 9, 14, 15], [0], [4], []]).1
noncomputable def RL99 : List Nat := cellsOf Try.f99.results.toList
noncomputable def R99_16 (self : EV) (N : Nat) (nk : Ac → St → Rs) (ek : Nat → Ac → St → Rs) (a : Ac) (S : St) : Rs := qb9 [] a fun a => dr E0 self RL99 N (B99.r.l.r.r.r.l).r (mkK E0 self Try.f99 nk ek) a S
theorem R99_16_eq (self : EV) (N : Nat) (nk : Ac → St → Rs) (ek : Nat → Ac → St → Rs) (S : St) : R99_16 self N nk ek (fr 187 []) S =
some (.ret (.int .i64 (-1)), S) := by kernel_rfl
noncomputable def L99_20 (self : EV) (N : Nat) (nk : Ac → St → Rs) (ek : Nat → Ac → St → Rs) (n : Nat) ( v175 : V) (S : St) : Rs := qci [175] (dr E0 self RL99 N (B99.r.l.r.r.r.l.l.r.l.l)) (mkK E0 self Try.f99 nk ek) n (fr 187 [(175, v175)]) S
theorem qln (self : EV) (N : Nat) (nk : Ac → St → Rs) (ek : Nat → Ac → St → Rs) (n : Nat) ( v175 : V) (S : St) : L99_20 self N nk ek (n + 1) v175 S =
(nextK v175 true S).bind fun p21 =>
(qa9 p21.1 0).bind fun t22 =>
ifK t22 (
(qa9 p21.1 1).bind fun t23 =>
(qa9 p21.1 2).bind fun t24 =>
(qad E0 .eql 21 false true t24 (.int .i32 65533)).bind fun t28 =>
ifK t28 (
some (.ret t23, p21.2)) (
L99_20 self N nk ek n v175 p21.2)) (
ek 9 (fr 187 []) p21.2) := by kernel_rfl
noncomputable def R99_46 (self : EV) (N : Nat) (nk : Ac → St → Rs) (ek : Nat → Ac → St → Rs) (a : Ac) (S : St) : Rs := qb9 [] a fun a => dr E0 self RL99 N (B99.r.l.r.r.r.r.r.r.l.r.r.r.r).r (mkK E0 self Try.f99 nk ek) a S
theorem R99_46_eq (self : EV) (N : Nat) (nk : Ac → St → Rs) (ek : Nat → Ac → St → Rs) (S : St) : R99_46 self N nk ek (fr 187 []) S =
some (.ret (.int .i64 (-1)), S) := by kernel_rfl
noncomputable def N99_48 (self : EV) (N : Nat) (nk : Ac → St → Rs) (ek : Nat → Ac → St → Rs) (n : Nat) : Ac → St → Rs := fun a S => qb9 [0, 7, 8, 9] a fun a => qci [0, 7, 8, 9] (dr E0 self RL99 N (B99.r.l.r.r.r.r.r.r.l.r.r.r.r.l.l.l)) (mkK E0 self Try.f99 nk ek) n a S
noncomputable def L99_48 (self : EV) (N : Nat) (nk : Ac → St → Rs) (ek : Nat → Ac → St → Rs) (n : Nat) ( v0 v7 v8 v9 : V) (S : St) : Rs := qci [0, 7, 8, 9] (dr E0 self RL99 N (B99.r.l.r.r.r.r.r.r.l.r.r.r.r.l.l.l)) (mkK E0 self Try.f99 nk ek) n (fr 187 [(0, v0), (7, v7), (8, v8), (9, v9)]) S
noncomputable def R99_53 (self : EV) (N : Nat) (nk : Ac → St → Rs) (ek : Nat → Ac → St → Rs) (a : Ac) (S : St) : Rs := qb9 [0, 7, 8, 9] a fun a => dr E0 self RL99 N (B99.r.l.r.r.r.r.r.r.l.r.r.r.r.l.l.l.r.l.l).r (mkK E0 self Try.f99 nk ek) a S
theorem L99_48_eq (self : EV) (N : Nat) (nk : Ac → St → Rs) (ek : Nat → Ac → St → Rs) (n : Nat) ( v0 v7 v8 v9 : V) (S : St) : L99_48 self N nk ek (n + 1) v0 v7 v8 v9 S =
(qcz v0 S).bind fun p51 =>
(qad E0 .lss 3 false false v9 p51.1).bind fun t52 =>
ifK t52 (
(ixS v0 v9).bind fun t81 =>
(ixS v7 v8).bind fun t84 =>
(qad E0 .neq 5 false false t81 t84).bind fun t85 =>
ifK t85 (
(qad E0 .add 3 false true v9 (.int .i64 1)).bind fun t88 =>
(qb4 E0 9 v0 (some t88) none none (onS (qaz p51.2 (onS p51.2) [[], [], [], [], [], [], []]))).bind fun p89 =>
(ixS v7 v8).bind fun t92 =>
qiu (qap E0 (B99.r.l.r.r.r.r.r.r.l.r.r.r.r.l.l.l.r.l.l.l.r.l.l).ops) (qaz p51.2 (onS p51.2) [[], [], [], [], [], [], []]) 7 [[], [], [], p89.2.log, [], [], []] (self.f 47 [p89.1, t92] (onS p89.2)) fun t93 S93 =>
(qad E0 .lss 3 false true t93 (.int .i64 0)).bind fun t96 =>
ifK t96 (
some (.ret (.int .i64 (-1)), (qaz (qaz p51.2 (onS p51.2) [[], [], [], [], [], [], []]) (onS S93) [[], [], [], p89.2.log, [], [], [], S93.log, []]))) (
(qad E0 .add 3 false true t93 (.int .i64 1)).bind fun t100 =>
(qad E0 .add 3 false false v9 t100).bind fun t101 =>
R99_53 self N (N99_48 self N nk ek n) (exB 2 (N99_48 self N nk ek n) ek) (fr 187 [(0, v0), (7, v7), (8, v8), (9, t101)]) (qaz (qaz p51.2 (onS p51.2) [[], [], [], [], [], [], []]) (onS S93) [[], [], [], p89.2.log, [], [], [], S93.log, []]))) (
R99_53 self N (N99_48 self N nk ek n) (exB 2 (N99_48 self N nk ek n) ek) (fr 187 [(0, v0), (7, v7), (8, v8), (9, v9)]) (qaz p51.2 (onS p51.2) [[], [], [], [], [], [], []]))) (
ek 1 (fr 187 []) p51.2) := by kernel_rfl
noncomputable def F99 (self : EV) (N : Nat) (x0 x1 : V) (S : St) : Rs := qc0 E0 self N Try.f99 B99 [x0, x1] S
theorem F99_eq (self : EV) (N : Nat) (x0 x1 : V) (S : St) : F99 self N x0 x1 S =
(qad E0 .leq 21 true false (.int .i32 0) x1).bind fun t2 =>
(qa2 true t2).bind fun g4 => (bif g4 then some x1 else some (.tuple [])).bind fun t4 =>
(qa2 true t2).bind fun g5 => (bif g5 then qad E0 .lss 21 false true t4 (.int .i32 128) else some (.tuple [])).bind fun t5 =>
(qah t2 (some t5) (some (.bool false))).bind fun t6 =>
ifK t6 (
(cvI .u8 x1 S).bind fun p10 =>
qb6 (self.f 47 [x0, p10.1] p10.2) fun t11 S11 =>
some (.ret t11, S11)) (
(qad E0 .eql 21 false true x1 (.int .i32 65533)).bind fun t14 =>
ifK t14 (
(qfl E0 9 x0 S).bind fun p19 =>
L99_20 self N (R99_16 self N (qay E0 self Try.f99) (exB 0 (qay E0 self Try.f99) qae)) (exB 9 (R99_16 self N (qay E0 self Try.f99) (exB 0 (qay E0 self Try.f99) qae)) (exB 0 (qay E0 self Try.f99) qae)) N p19.1 p19.2) (
qb6 (self.f 103 [x1] S) fun t32 S32 =>
(unV .not t32).bind fun t33 =>
ifK t33 (
some (.ret (.int .i64 (-1)), S32)) (
(qc1 E0 21 9 x1 S32).bind fun p37 =>
(qcz p37.1 p37.2).bind fun p40 =>
(qad E0 .sub 3 false true p40.1 (.int .i64 1)).bind fun t41 =>
L99_48 self N (R99_46 self N (qay E0 self Try.f99) (exB 0 (qay E0 self Try.f99) qae)) (exB 1 (R99_46 self N (qay E0 self Try.f99) (exB 0 (qay E0 self Try.f99) qae)) (exB 0 (qay E0 self Try.f99) qae)) N x0 p37.1 t41 t41 p40.2))) := by kernel_rfl
noncomputable def C100 : Code := Try.f100.body.getD .skip
noncomputable def B100 : D := (qaw C100 [[], []]).1
noncomputable def F100 (self : EV) (N : Nat) (x0 : V) (S : St) : Rs := qc0 E0 self N Try.f100 B100 [x0] S
theorem F100_eq (self : EV) (N : Nat) (x0 : V) (S : St) : F100 self N x0 S =
(qad E0 .gtr 3 false true x0 (.int .i64 8)).bind fun t2 =>
some (.ret t2, S) := by kernel_rfl
noncomputable def C101 : Code := Try.f101.body.getD .skip
noncomputable def B101 : D := (qaw C101 [[], [], [0, 2, 4], [], [2], [], [], [], [], [], [], [0, 2], [2, 3], []]).1
noncomputable def RL101 : List Nat := cellsOf Try.f101.results.toList
noncomputable def qlp (self : EV) (N : Nat) (nk : Ac → St → Rs) (ek : Nat → Ac → St → Rs) (a : Ac) (S : St) : Rs := qb9 [2] a fun a => dr E0 self RL101 N (B101.r).r (mkK E0 self Try.f101 nk ek) a S
theorem R101_2_eq (self : EV) (N : Nat) (nk : Ac → St → Rs) (ek : Nat → Ac → St → Rs) ( v2 : V) (S : St) : qlp self N nk ek (fr 21 [(2, v2)]) S =
(ldA 256 v2 S).bind fun p3 =>
(stP 256 v2 p3.1 p3.2).bind fun p4 =>
(ldrA 256 v2 p4.2).bind fun p6 =>
some (.ret (.tuple [p6.1, (.bool true)]), p6.2) := by kernel_rfl
noncomputable def L101_8 (self : EV) (N : Nat) (nk : Ac → St → Rs) (ek : Nat → Ac → St → Rs) (n : Nat) ( v0 v2 v4 : V) (S : St) : Rs := qci [0, 2, 4] (dr E0 self RL101 N (B101.r.l.r.l.l)) (mkK E0 self Try.f101 nk ek) n (fr 21 [(0, v0), (2, v2), (4, v4)]) S
theorem L101_8_eq (self : EV) (N : Nat) (nk : Ac → St → Rs) (ek : Nat → Ac → St → Rs) (n : Nat) ( v0 v2 v4 : V) (S : St) : L101_8 self N nk ek (n + 1) v0 v2 v4 S =
(qcz v0 S).bind fun p11 =>
(qad E0 .lss 3 false false v4 p11.1).bind fun t12 =>
ifK t12 (
(ixS v0 v4).bind fun t15 =>
(qad E0 .geq 5 false true t15 (.int .u8 128)).bind fun t18 =>
ifK t18 (
(ldA 256 v2 p11.2).bind fun p19 =>
(stP 256 v2 p19.1 p19.2).bind fun p20 =>
(ldrA 256 v2 p20.2).bind fun p22 =>
some (.ret (.tuple [p22.1, (.bool false)]), p22.2)) (
(ixA 256 1 false 1 v2 t15).bind fun t24 =>
(stP 1 t24 (.bool true) p11.2).bind fun p25 =>
(qad E0 .add 3 false true v4 (.int .i64 1)).bind fun t27 =>
L101_8 self N nk ek n v0 v2 t27 p25.2)) (
ek 0 (fr 21 [(2, v2)]) p11.2) := by kernel_rfl
noncomputable def F101 (self : EV) (N : Nat) (x0 : V) (S : St) : Rs := qc0 E0 self N Try.f101 B101 [x0] S
noncomputable def C102 : Code := Try.f102.body.getD .skip
noncomputable def B102 : D := (qaw C102 [[], []]).1
noncomputable def F102 (self : EV) (N : Nat) (x0 x1 : V) (S : St) : Rs := qc0 E0 self N Try.f102 B102 [x0, x1] S
theorem F102_eq (self : EV) (N : Nat) (x0 x1 : V) (S : St) : F102 self N x0 x1 S =
(qjb x0).bind fun t3 =>
(ixA 256 1 false 1 t3 x1).bind fun t4 =>
(ld1 t4 S).bind fun p5 =>
some (.ret p5.1, p5.2) := by kernel_rfl
noncomputable def C103 : Code := Try.f103.body.getD .skip
noncomputable def B103 : D := (qaw C103 [[], [], [], [], [], [], []]).1
noncomputable def F103 (self : EV) (N : Nat) (x0 : V) (S : St) : Rs := qc0 E0 self N Try.f103 B103 [x0] S
theorem F103_eq (self : EV) (N : Nat) (x0 : V) (S : St) : F103 self N x0 S =
(qad E0 .leq 21 true false (.int .i32 0) x0).bind fun t2 =>
(qa2 true t2).bind fun g4 => (bif g4 then some x0 else some (.tuple [])).bind fun t4 =>
(qa2 true t2).bind fun g5 => (bif g5 then qad E0 .lss 21 false true t4 (.int .i32 55296) else some (.tuple [])).bind fun t5 =>
(qah t2 (some t5) (some (.bool false))).bind fun t6 =>
ifK t6 (
some (.ret (.bool true), S)) (
(qad E0 .lss 21 true false (.int .i32 57343) x0).bind fun t10 =>
(qa2 true t10).bind fun g12 => (bif g12 then some x0 else some (.tuple [])).bind fun t12 =>
(qa2 true t10).bind fun g13 => (bif g13 then qad E0 .leq 21 false true t12 (.int .i32 1114111) else some (.tuple [])).bind fun t13 =>
(qah t10 (some t13) (some (.bool false))).bind fun t14 =>
ifK t14 (
some (.ret (.bool true), S)) (
some (.ret (.bool false), S))) := by kernel_rfl
end
noncomputable section
noncomputable def C14 : Code := Try.f14.body.getD .skip
noncomputable def B14 : D := (qaw C14 [[], [], [], [], [], [], [], [], []]).1
noncomputable def F14 (self : EV) (N : Nat) (x0 x1 : V) (S : St) : Rs := qc0 E0 self N Try.f14 B14 [x0, x1] S
theorem F14_eq (self : EV) (N : Nat) (x0 x1 : V) (S : St) : F14 self N x0 x1 S =
qb6 (self.f 30 [x0] S) fun t3 S3 =>
(unV .not t3).bind fun t4 =>
ifK t4 (
some (.ret (.tuple [(sv []), (.int .i64 2)]), S3)) (
qb6 (self.f 31 [x1] S3) fun t8 S8 =>
(qad E0 .neq 32 false true t8 (.int .i64 0)).bind fun t11 =>
ifK t11 (
some (.ret (.tuple [(sv []), t8]), S8)) (
(qad E0 .add 9 false true x0 (sv [45])).bind fun t16 =>
(qad E0 .add 9 false false t16 x1).bind fun t18 =>
some (.ret (.tuple [t18, (.int .i64 0)]), S8))) := by kernel_rfl
noncomputable def C30 : Code := Try.f30.body.getD .skip
noncomputable def B30 : D := (qaw C30 [[], [], [], [0, 3, 9, 10], [], [0], [], [], [], [], [], [], [0, 0], [2], []]).1
noncomputable def RL30 : List Nat := cellsOf Try.f30.results.toList
noncomputable def R30_3 (self : EV) (N : Nat) (nk : Ac → St → Rs) (ek : Nat → Ac → St → Rs) (a : Ac) (S : St) : Rs := qb9 [0] a fun a => dr E0 self RL30 N (B30.r.r).r (mkK E0 self Try.f30 nk ek) a S
theorem R30_3_eq (self : EV) (N : Nat) (nk : Ac → St → Rs) (ek : Nat → Ac → St → Rs) ( v0 : V) (S : St) : R30_3 self N nk ek (fr 27 [(0, v0)]) S =
(qcz v0 S).bind fun p5 =>
(qad E0 .eql 3 false true p5.1 (.int .i64 32)).bind fun t6 =>
some (.ret t6, p5.2) := by kernel_rfl
noncomputable def L30_11 (self : EV) (N : Nat) (nk : Ac → St → Rs) (ek : Nat → Ac → St → Rs) (n : Nat) ( v0 v3 v9 v10 : V) (S : St) : Rs := qci [0, 3, 9, 10] (dr E0 self RL30 N (B30.r.r.l.r.l.l)) (mkK E0 self Try.f30 nk ek) n (fr 27 [(0, v0), (3, v3), (9, v9), (10, v10)]) S
theorem L30_11_eq (self : EV) (N : Nat) (nk : Ac → St → Rs) (ek : Nat → Ac → St → Rs) (n : Nat) ( v0 v3 v9 v10 : V) (S : St) : L30_11 self N nk ek (n + 1) v0 v3 v9 v10 S =
(qad E0 .lss 3 false false v10 v9).bind fun t12 =>
ifK t12 (
(ixS v0 v10).bind fun t18 =>
(qcu E0 82 v3 t18 true S).bind fun p19 =>
(qa9 p19.1 0).bind fun t21 =>
(qa9 p19.1 1).bind fun t22 =>
(unV .not t22).bind fun t26 =>
ifK t26 (
some (.ret (.bool false), p19.2)) (
(qad E0 .add 3 false true v10 (.int .i64 1)).bind fun t28 =>
L30_11 self N nk ek n v0 v3 v9 t28 p19.2)) (
ek 0 (fr 27 [(0, v0)]) S) := by kernel_rfl
noncomputable def F30 (self : EV) (N : Nat) (x0 : V) (S : St) : Rs := qc0 E0 self N Try.f30 B30 [x0] S
theorem F30_eq (self : EV) (N : Nat) (x0 : V) (S : St) : F30 self N x0 S =
qb6 (self.f 56 [] S) fun t1 S1 =>
(qcz x0 S1).bind fun p9 =>
L30_11 self N (R30_3 self N (qay E0 self Try.f30) qae) (exB 0 (R30_3 self N (qay E0 self Try.f30) qae) qae) N x0 t1 p9.1 (.int .i64 0) p9.2 := by kernel_rfl
noncomputable def C31 : Code := Try.f31.body.getD .skip
noncomputable def B31 : D := (qaw C31 [[], [], [], [], [], [], [], [], [], [0, 3, 4, 5, 6, 12, 13], [], [0], [], [], [], [], [], [0, 0], [2], [], [], [], []]).1
noncomputable def RL31 : List Nat := cellsOf Try.f31.results.toList
noncomputable def R31_9 (self : EV) (N : Nat) (nk : Ac → St → Rs) (ek : Nat → Ac → St → Rs) (a : Ac) (S : St) : Rs := qb9 [0] a fun a => dr E0 self RL31 N (B31.r.r.r.r.r.r).r (mkK E0 self Try.f31 nk ek) a S
theorem R31_9_eq (self : EV) (N : Nat) (nk : Ac → St → Rs) (ek : Nat → Ac → St → Rs) ( v0 : V) (S : St) : R31_9 self N nk ek (fr 34 [(0, v0)]) S =
(qad E0 .eql 9 false true v0 (sv [])).bind fun t11 =>
(qa2 false t11).bind fun g13 => (bif g13 then some v0 else some (.tuple [])).bind fun t13 =>
(qa2 false t11).bind fun g14 => (bif g14 then ixS t13 (.int .i64 0) else some (.tuple [])).bind fun t14 =>
(qa2 false t11).bind fun g15 => (bif g15 then qad E0 .eql 5 false true t14 (.int .u8 46) else some (.tuple [])).bind fun t15 =>
(qah t11 (some (.bool true)) (some t15)).bind fun t16 =>
ifK t16 (
some (.ret (.int .i64 2), S)) (
some (.ret (.int .i64 0), S)) := by kernel_rfl
noncomputable def L31_22 (self : EV) (N : Nat) (nk : Ac → St → Rs) (ek : Nat → Ac → St → Rs) (n : Nat) ( v0 v3 v4 v5 v6 v12 v13 : V) (S : St) : Rs := qci [0, 3, 4, 5, 6, 12, 13] (dr E0 self RL31 N (B31.r.r.r.r.r.r.l.r.l.l)) (mkK E0 self Try.f31 nk ek) n (fr 34 [(0, v0), (3, v3), (4, v4), (5, v5), (6, v6), (12, v12), (13, v13)]) S
theorem L31_22_eq (self : EV) (N : Nat) (nk : Ac → St → Rs) (ek : Nat → Ac → St → Rs) (n : Nat) ( v0 v3 v4 v5 v6 v12 v13 : V) (S : St) : L31_22 self N nk ek (n + 1) v0 v3 v4 v5 v6 v12 v13 S =
(qad E0 .lss 3 false false v13 v12).bind fun t23 =>
ifK t23 (
(ixS v0 v13).bind fun t28 =>
(bsP 85 1 4 (Go.Proofs.Ytmeohejdafbodaa.Ev.one .nilfn) [(0, v3), (1, v4), (2, v5), (3, v6)] S).bind fun p33 =>
qb6 (self.f 61 [t28, p33.1] p33.2) fun t34 S34 =>
(unV .not t34).bind fun t35 =>
ifK t35 (
some (.ret (.int .i64 2), S34)) (
(qad E0 .add 3 false true v13 (.int .i64 1)).bind fun t37 =>
L31_22 self N nk ek n v0 v3 v4 v5 v6 v12 t37 S34)) (
ek 0 (fr 34 [(0, v0)]) S) := by kernel_rfl
noncomputable def F31 (self : EV) (N : Nat) (x0 : V) (S : St) : Rs := qc0 E0 self N Try.f31 B31 [x0] S
theorem F31_eq (self : EV) (N : Nat) (x0 : V) (S : St) : F31 self N x0 S =
(qcz x0 S).bind fun p2 =>
(qad E0 .gtr 3 false true p2.1 (.int .i64 20)).bind fun t3 =>
ifK t3 (
some (.ret (.int .i64 3), p2.2)) (
(qcz x0 p2.2).bind fun p20 =>
L31_22 self N (R31_9 self N (qay E0 self Try.f31) qae) (exB 0 (R31_9 self N (qay E0 self Try.f31) qae) qae) N x0 (.fn (.func 57) [] []) (.fn (.func 58) [] []) (.fn (.func 59) [] []) (.fn (.func 60) [] []) p20.1 (.int .i64 0) p20.2) := by kernel_rfl
noncomputable def C56 : Code := Try.f56.body.getD .skip
noncomputable def B56 : D := (qaw C56 [[], [], [], [1, 4], [], [1], [], [], [], [0, 1], [0], []]).1
noncomputable def RL56 : List Nat := cellsOf Try.f56.results.toList
noncomputable def R56_3 (self : EV) (N : Nat) (nk : Ac → St → Rs) (ek : Nat → Ac → St → Rs) (a : Ac) (S : St) : Rs := qb9 [1] a fun a => dr E0 self RL56 N (B56.r.r).r (mkK E0 self Try.f56 nk ek) a S
theorem R56_3_eq (self : EV) (N : Nat) (nk : Ac → St → Rs) (ek : Nat → Ac → St → Rs) ( v1 : V) (S : St) : R56_3 self N nk ek (fr 13 [(1, v1)]) S =
some (.ret v1, S) := by kernel_rfl
noncomputable def L56_7 (self : EV) (N : Nat) (nk : Ac → St → Rs) (ek : Nat → Ac → St → Rs) (n : Nat) ( v1 v4 : V) (S : St) : Rs := qci [1, 4] (dr E0 self RL56 N (B56.r.r.l.r.l.l)) (mkK E0 self Try.f56 nk ek) n (fr 13 [(1, v1), (4, v4)]) S
theorem L56_7_eq (self : EV) (N : Nat) (nk : Ac → St → Rs) (ek : Nat → Ac → St → Rs) (n : Nat) ( v1 v4 : V) (S : St) : L56_7 self N nk ek (n + 1) v1 v4 S =
(qad E0 .lss 3 false true v4 (.int .i64 32)).bind fun t8 =>
ifK t8 (
(ixS (sv [48, 49, 50, 51, 52, 53, 54, 55, 56, 57, 97, 98, 99, 100, 102, 103, 104, 105, 106, 107, 108, 109, 110, 112, 113, 114, 115, 118, 119, 120, 121, 122]) v4).bind fun t13 =>
(vu (qbn E0 82 v1 t13 v4 S)).bind fun p15 =>
(qad E0 .add 3 false true v4 (.int .i64 1)).bind fun t16 =>
L56_7 self N nk ek n v1 t16 p15.2) (
ek 0 (fr 13 [(1, v1)]) S) := by kernel_rfl
noncomputable def F56 (self : EV) (N : Nat) (S : St) : Rs := qc0 E0 self N Try.f56 B56 [] S
theorem F56_eq (self : EV) (N : Nat) (S : St) : F56 self N S =
(qhg E0 82 none S).bind fun p1 =>
L56_7 self N (R56_3 self N (qay E0 self Try.f56) qae) (exB 0 (R56_3 self N (qay E0 self Try.f56) qae) qae) N p1.1 (.int .i64 0) p1.2 := by kernel_rfl
noncomputable def C57 : Code := Try.f57.body.getD .skip
noncomputable def B57 : D := (qaw C57 [[], []]).1
noncomputable def F57 (self : EV) (N : Nat) (x0 : V) (S : St) : Rs := qc0 E0 self N Try.f57 B57 [x0] S
theorem F57_eq (self : EV) (N : Nat) (x0 : V) (S : St) : F57 self N x0 S =
(qad E0 .geq 5 false true x0 (.int .u8 97)).bind fun t2 =>
(qa2 true t2).bind fun g4 => (bif g4 then some x0 else some (.tuple [])).bind fun t4 =>
(qa2 true t2).bind fun g5 => (bif g5 then qad E0 .leq 5 false true t4 (.int .u8 122) else some (.tuple [])).bind fun t5 =>
(qah t2 (some t5) (some (.bool false))).bind fun t6 =>
some (.ret t6, S) := by kernel_rfl
noncomputable def C61 : Code := Try.f61.body.getD .skip
noncomputable def B61 : D := (qaw C61 [[], [], [0, 7, 8, 9], [], [], [], [], [], [], [], [0], [4], []]).1
noncomputable def RL61 : List Nat := cellsOf Try.f61.results.toList
noncomputable def R61_1 (self : EV) (N : Nat) (nk : Ac → St → Rs) (ek : Nat → Ac → St → Rs) (a : Ac) (S : St) : Rs := qb9 [] a fun a => dr E0 self RL61 N (B61.r).r (mkK E0 self Try.f61 nk ek) a S
noncomputable def L61_6 (self : EV) (N : Nat) (nk : Ac → St → Rs) (ek : Nat → Ac → St → Rs) (n : Nat) ( v0 v7 v8 v9 : V) (S : St) : Rs := qci [0, 7, 8, 9] (dr E0 self RL61 N (B61.r.l.r.l.l)) (mkK E0 self Try.f61 nk ek) n (fr 17 [(0, v0), (7, v7), (8, v8), (9, v9)]) S
theorem L61_6_eq (self : EV) (N : Nat) (nk : Ac → St → Rs) (ek : Nat → Ac → St → Rs) (n : Nat) ( v0 v7 v8 v9 : V) (S : St) : L61_6 self N nk ek (n + 1) v0 v7 v8 v9 S =
(qad E0 .lss 3 false false v9 v8).bind fun t7 =>
ifK t7 (
(ixP 1 v7 v9).bind fun t8 =>
(ld1 t8 S).bind fun p9 =>
qb6 (qfp E0 self p9.1 [v0] p9.2) fun t13 S13 =>
ifK t13 (
some (.ret (.bool true), S13)) (
(qad E0 .add 3 false true v9 (.int .i64 1)).bind fun t15 =>
L61_6 self N nk ek n v0 v7 v8 t15 S13)) (
ek 0 (fr 17 []) S) := by kernel_rfl
noncomputable def F61 (self : EV) (N : Nat) (x0 x1 : V) (S : St) : Rs := qc0 E0 self N Try.f61 B61 [x0, x1] S
theorem F61_eq (self : EV) (N : Nat) (x0 x1 : V) (S : St) : F61 self N x0 x1 S =
(lnS x1 S).bind fun p4 =>
L61_6 self N (R61_1 self N (qay E0 self Try.f61) qae) (exB 0 (R61_1 self N (qay E0 self Try.f61) qae) qae) N x0 x1 p4.1 (.int .i64 0) p4.2 := by kernel_rfl
end
noncomputable section
noncomputable def C19 : Code := Try.f19.body.getD .skip
noncomputable def B19 : D := (qaw C19 [[], [], [0, 3], [], [0], [], [], [], [], [0, 0], [2], []]).1
noncomputable def RL19 : List Nat := cellsOf Try.f19.results.toList
noncomputable def R19_1 (self : EV) (N : Nat) (nk : Ac → St → Rs) (ek : Nat → Ac → St → Rs) (a : Ac) (S : St) : Rs := qb9 [0] a fun a => dr E0 self RL19 N (B19.r).r (mkK E0 self Try.f19 nk ek) a S
theorem R19_1_eq (self : EV) (N : Nat) (nk : Ac → St → Rs) (ek : Nat → Ac → St → Rs) ( v0 : V) (S : St) : R19_1 self N nk ek (fr 19 [(0, v0)]) S =
(qcz v0 S).bind fun p3 =>
(qad E0 .eql 3 false true p3.1 (.int .i64 32)).bind fun t4 =>
some (.ret t4, p3.2) := by kernel_rfl
noncomputable def L19_7 (self : EV) (N : Nat) (nk : Ac → St → Rs) (ek : Nat → Ac → St → Rs) (n : Nat) ( v0 v3 : V) (S : St) : Rs := qci [0, 3] (dr E0 self RL19 N (B19.r.l.r.l.l)) (mkK E0 self Try.f19 nk ek) n (fr 19 [(0, v0), (3, v3)]) S
theorem L19_7_eq (self : EV) (N : Nat) (nk : Ac → St → Rs) (ek : Nat → Ac → St → Rs) (n : Nat) ( v0 v3 : V) (S : St) : L19_7 self N nk ek (n + 1) v0 v3 S =
(qcz v0 S).bind fun p10 =>
(qad E0 .lss 3 false false v3 p10.1).bind fun t11 =>
ifK t11 (
(ixS v0 v3).bind fun t14 =>
qiu (qap E0 (B19.r.l.r.l.l.r.l.l.l).ops) p10.2 3 [[], [], []] (self.f 40 [] (onS p10.2)) fun t15 S15 =>
qiu (qap E0 (B19.r.l.r.l.l.r.l.l.l).ops) p10.2 4 [[], [], [], S15.log] (self.f 39 [t14, t15] (onS S15)) fun t16 S16 =>
(unV .not t16).bind fun t17 =>
ifK t17 (
some (.ret (.bool false), (qaz p10.2 (onS S16) [[], [], [], S15.log, S16.log, []]))) (
(qad E0 .add 3 false true v3 (.int .i64 1)).bind fun t20 =>
L19_7 self N nk ek n v0 t20 (qaz p10.2 (onS S16) [[], [], [], S15.log, S16.log, []]))) (
ek 0 (fr 19 [(0, v0)]) p10.2) := by kernel_rfl
noncomputable def F19 (self : EV) (N : Nat) (x0 : V) (S : St) : Rs := qc0 E0 self N Try.f19 B19 [x0] S
theorem F19_eq (self : EV) (N : Nat) (x0 : V) (S : St) : F19 self N x0 S =
L19_7 self N (R19_1 self N (qay E0 self Try.f19) qae) (exB 0 (R19_1 self N (qay E0 self Try.f19) qae) qae) N x0 (.int .i64 0) S := by kernel_rfl
noncomputable def C39 : Code := Try.f39.body.getD .skip
noncomputable def B39 : D := (qaw C39 [[], [], [0, 1, 5], [], [], [], [], [], [], [0], [4], []]).1
noncomputable def RL39 : List Nat := cellsOf Try.f39.results.toList
noncomputable def R39_1 (self : EV) (N : Nat) (nk : Ac → St → Rs) (ek : Nat → Ac → St → Rs) (a : Ac) (S : St) : Rs := qb9 [] a fun a => dr E0 self RL39 N (B39.r).r (mkK E0 self Try.f39 nk ek) a S
theorem R39_1_eq (self : EV) (N : Nat) (nk : Ac → St → Rs) (ek : Nat → Ac → St → Rs) (S : St) : R39_1 self N nk ek (fr 17 []) S =
some (.ret (.bool false), S) := by kernel_rfl
noncomputable def L39_4 (self : EV) (N : Nat) (nk : Ac → St → Rs) (ek : Nat → Ac → St → Rs) (n : Nat) ( v0 v1 v5 : V) (S : St) : Rs := qci [0, 1, 5] (dr E0 self RL39 N (B39.r.l.r.l.l)) (mkK E0 self Try.f39 nk ek) n (fr 17 [(0, v0), (1, v1), (5, v5)]) S
theorem L39_4_eq (self : EV) (N : Nat) (nk : Ac → St → Rs) (ek : Nat → Ac → St → Rs) (n : Nat) ( v0 v1 v5 : V) (S : St) : L39_4 self N nk ek (n + 1) v0 v1 v5 S =
(qcz v1 S).bind fun p7 =>
(qad E0 .lss 3 false false v5 p7.1).bind fun t8 =>
ifK t8 (
(ixS v1 v5).bind fun t11 =>
(qad E0 .eql 5 false false t11 v0).bind fun t13 =>
ifK t13 (
some (.ret (.bool true), p7.2)) (
(qad E0 .add 3 false true v5 (.int .i64 1)).bind fun t16 =>
L39_4 self N nk ek n v0 v1 t16 p7.2)) (
ek 0 (fr 17 []) p7.2) := by kernel_rfl
noncomputable def F39 (self : EV) (N : Nat) (x0 x1 : V) (S : St) : Rs := qc0 E0 self N Try.f39 B39 [x0, x1] S
theorem F39_eq (self : EV) (N : Nat) (x0 x1 : V) (S : St) : F39 self N x0 x1 S =
L39_4 self N (R39_1 self N (qay E0 self Try.f39) qae) (exB 0 (R39_1 self N (qay E0 self Try.f39) qae) qae) N x0 x1 (.int .i64 0) S := by kernel_rfl
noncomputable def C40 : Code := Try.f40.body.getD .skip
noncomputable def B40 : D := (qaw C40 [[], []]).1
noncomputable def F40 (self : EV) (N : Nat) (S : St) : Rs := qc0 E0 self N Try.f40 B40 [] S
theorem F40_eq (self : EV) (N : Nat) (S : St) : F40 self N S =
some (.ret (sv [48, 49, 50, 51, 52, 53, 54, 55, 56, 57, 97, 98, 99, 100, 102, 103, 104, 105, 106, 107, 108, 109, 110, 112, 113, 114, 115, 118, 119, 120, 121, 122]), S) := by kernel_rfl
noncomputable def C20 : Code := Try.f20.body.getD .skip
noncomputable def B20 : D := (qaw C20 [[], [], [], [], [], [1, 2, 5], [], [], [], [], [], [], [0], [4], []]).1
noncomputable def RL20 : List Nat := cellsOf Try.f20.results.toList
noncomputable def R20_7 (self : EV) (N : Nat) (nk : Ac → St → Rs) (ek : Nat → Ac → St → Rs) (a : Ac) (S : St) : Rs := qb9 [] a fun a => dr E0 self RL20 N (B20.r.r).r (mkK E0 self Try.f20 nk ek) a S
theorem R20_7_eq (self : EV) (N : Nat) (nk : Ac → St → Rs) (ek : Nat → Ac → St → Rs) (S : St) : R20_7 self N nk ek (fr 24 []) S =
some (.ret (.bool false), S) := by kernel_rfl
noncomputable def L20_10 (self : EV) (N : Nat) (nk : Ac → St → Rs) (ek : Nat → Ac → St → Rs) (n : Nat) ( v1 v2 v5 : V) (S : St) : Rs := qci [1, 2, 5] (dr E0 self RL20 N (B20.r.r.l.r.l.l)) (mkK E0 self Try.f20 nk ek) n (fr 24 [(1, v1), (2, v2), (5, v5)]) S
theorem L20_10_eq (self : EV) (N : Nat) (nk : Ac → St → Rs) (ek : Nat → Ac → St → Rs) (n : Nat) ( v1 v2 v5 : V) (S : St) : L20_10 self N nk ek (n + 1) v1 v2 v5 S =
(faP 4 false 1 v2).bind fun t12 =>
(ld1 t12 S).bind fun p13 =>
(lnS p13.1 p13.2).bind fun p14 =>
(qad E0 .lss 3 false false v5 p14.1).bind fun t15 =>
ifK t15 (
(faP 4 false 1 v2).bind fun t16 =>
(ld1 t16 p14.2).bind fun p17 =>
(ixP 5 p17.1 v5).bind fun t19 =>
(ldA 5 t19 p17.2).bind fun p20 =>
qb6 (self.f 20 [p20.1, v1] p20.2) fun t22 S22 =>
ifK t22 (
some (.ret (.bool true), S22)) (
(qad E0 .add 3 false true v5 (.int .i64 1)).bind fun t25 =>
L20_10 self N nk ek n v1 v2 t25 S22)) (
ek 0 (fr 24 []) p14.2) := by kernel_rfl
noncomputable def F20 (self : EV) (N : Nat) (x0 x1 : V) (S : St) : Rs := qc0 E0 self N Try.f20 B20 [x0, x1] S
theorem F20_eq (self : EV) (N : Nat) (x0 x1 : V) (S : St) : F20 self N x0 x1 S =
(qlv 24 x0 S).bind fun p0 =>
(faP 3 false 1 p0.1).bind fun t3 =>
(ld1 t3 p0.2).bind fun p4 =>
qb6 (self.f 41 [x1, p4.1] p4.2) fun t5 S5 =>
ifK t5 (
some (.ret (.bool true), S5)) (
L20_10 self N (R20_7 self N (qay E0 self Try.f20) qae) (exB 0 (R20_7 self N (qay E0 self Try.f20) qae) qae) N x1 p0.1 (.int .i64 0) S5) := by kernel_rfl
noncomputable def C41 : Code := Try.f41.body.getD .skip
noncomputable def B41 : D := (qaw C41 [[], [], [0, 1, 5], [], [], [], [], [], [], [0], [4], []]).1
noncomputable def RL41 : List Nat := cellsOf Try.f41.results.toList
noncomputable def R41_1 (self : EV) (N : Nat) (nk : Ac → St → Rs) (ek : Nat → Ac → St → Rs) (a : Ac) (S : St) : Rs := qb9 [] a fun a => dr E0 self RL41 N (B41.r).r (mkK E0 self Try.f41 nk ek) a S
theorem R41_1_eq (self : EV) (N : Nat) (nk : Ac → St → Rs) (ek : Nat → Ac → St → Rs) (S : St) : R41_1 self N nk ek (fr 24 []) S =
some (.ret (.bool false), S) := by kernel_rfl
noncomputable def L41_4 (self : EV) (N : Nat) (nk : Ac → St → Rs) (ek : Nat → Ac → St → Rs) (n : Nat) ( v0 v1 v5 : V) (S : St) : Rs := qci [0, 1, 5] (dr E0 self RL41 N (B41.r.l.r.l.l)) (mkK E0 self Try.f41 nk ek) n (fr 24 [(0, v0), (1, v1), (5, v5)]) S
theorem L41_4_eq (self : EV) (N : Nat) (nk : Ac → St → Rs) (ek : Nat → Ac → St → Rs) (n : Nat) ( v0 v1 v5 : V) (S : St) : L41_4 self N nk ek (n + 1) v0 v1 v5 S =
(qcz v0 S).bind fun p7 =>
(qad E0 .add 3 false false v5 p7.1).bind fun t8 =>
(qcz v1 p7.2).bind fun p10 =>
(qad E0 .leq 3 false false t8 p10.1).bind fun t11 =>
ifK t11 (
(qcz v0 p10.2).bind fun p16 =>
(qad E0 .add 3 false false v5 p16.1).bind fun t17 =>
(qb4 E0 9 v1 (some v5) (some t17) none p16.2).bind fun p18 =>
(qad E0 .eql 9 false false p18.1 v0).bind fun t20 =>
ifK t20 (
some (.ret (.bool true), p18.2)) (
(qad E0 .add 3 false true v5 (.int .i64 1)).bind fun t23 =>
L41_4 self N nk ek n v0 v1 t23 p18.2)) (
ek 0 (fr 24 []) p10.2) := by kernel_rfl
noncomputable def F41 (self : EV) (N : Nat) (x0 x1 : V) (S : St) : Rs := qc0 E0 self N Try.f41 B41 [x0, x1] S
theorem F41_eq (self : EV) (N : Nat) (x0 x1 : V) (S : St) : F41 self N x0 x1 S =
L41_4 self N (R41_1 self N (qay E0 self Try.f41) qae) (exB 0 (R41_1 self N (qay E0 self Try.f41) qae) qae) N x0 x1 (.int .i64 0) S := by kernel_rfl
noncomputable def C9 : Code := Try.f9.body.getD .skip
noncomputable def B9 : D := (qaw C9 [[], [], [], [], [], [], [1, 2, 5, 6], [], [5], [], [], [1, 2, 5, 6], [], [], [1, 2, 5, 6, 7], [], [1, 2, 5, 6, 7], [], [0, 1, 2, 5, 6, 7], [1, 2, 5, 6], [], [1, 2, 5, 6], [], [], [], [], [0, 1, 2, 5, 6], [1, 2, 5, 6], [0, 5], [4], []]).1
noncomputable def RL9 : List Nat := cellsOf Try.f9.results.toList
noncomputable def R9_7 (self : EV) (N : Nat) (nk : Ac → St → Rs) (ek : Nat → Ac → St → Rs) (a : Ac) (S : St) : Rs := qb9 [5] a fun a => dr E0 self RL9 N (B9.r.r.r).r (mkK E0 self Try.f9 nk ek) a S
theorem R9_7_eq (self : EV) (N : Nat) (nk : Ac → St → Rs) (ek : Nat → Ac → St → Rs) ( v5 : V) (S : St) : R9_7 self N nk ek (fr 83 [(5, v5)]) S =
some (.ret v5, S) := by kernel_rfl
noncomputable def qhp (self : EV) (N : Nat) (nk : Ac → St → Rs) (ek : Nat → Ac → St → Rs) (n : Nat) : Ac → St → Rs := fun a S => qb9 [1, 2, 5, 6] a fun a => qci [1, 2, 5, 6] (dr E0 self RL9 N (B9.r.r.r.l.r.l.l)) (mkK E0 self Try.f9 nk ek) n a S
noncomputable def L9_11 (self : EV) (N : Nat) (nk : Ac → St → Rs) (ek : Nat → Ac → St → Rs) (n : Nat) ( v1 v2 v5 v6 : V) (S : St) : Rs := qci [1, 2, 5, 6] (dr E0 self RL9 N (B9.r.r.r.l.r.l.l)) (mkK E0 self Try.f9 nk ek) n (fr 83 [(1, v1), (2, v2), (5, v5), (6, v6)]) S
noncomputable def qhq (self : EV) (N : Nat) (nk : Ac → St → Rs) (ek : Nat → Ac → St → Rs) (a : Ac) (S : St) : Rs := qb9 [1, 2, 5, 6] a fun a => dr E0 self RL9 N (B9.r.r.r.l.r.l.l.r).r (mkK E0 self Try.f9 nk ek) a S
theorem R9_16_eq (self : EV) (N : Nat) (nk : Ac → St → Rs) (ek : Nat → Ac → St → Rs) ( v1 v2 v5 v6 : V) (S : St) : qhq self N nk ek (fr 83 [(1, v1), (2, v2), (5, v5), (6, v6)]) S =
(qad E0 .add 3 false true v6 (.int .i64 1)).bind fun t18 =>
nk (fr 83 [(1, v1), (2, v2), (5, v5), (6, t18)]) S := by kernel_rfl
noncomputable def R9_37 (self : EV) (N : Nat) (nk : Ac → St → Rs) (ek : Nat → Ac → St → Rs) (a : Ac) (S : St) : Rs := qb9 [1, 2, 5, 6, 7] a fun a => dr E0 self RL9 N (B9.r.r.r.l.r.l.l.r.l.l.r.r).r (mkK E0 self Try.f9 nk ek) a S
theorem R9_37_eq (self : EV) (N : Nat) (nk : Ac → St → Rs) (ek : Nat → Ac → St → Rs) ( v1 v2 v5 v6 v7 : V) (S : St) : R9_37 self N nk ek (fr 83 [(1, v1), (2, v2), (5, v5), (6, v6), (7, v7)]) S =
(lnS v5 (onS S)).bind fun p40 =>
(qad E0 .lss 3 false false v7 p40.1).bind fun t41 =>
(qa2 true t41).bind fun g43 => (bif g43 then some v5 else some (.tuple [])).bind fun t43 =>
(qa2 true t41).bind fun g44 => (bif g44 then some v7 else some (.tuple [])).bind fun t44 =>
(qa2 true t41).bind fun g45 => (bif g45 then ixP 1 t43 t44 else some (.tuple [])).bind fun t45 =>
(qa2 true t41).bind fun g46 => (bif g46 then ld1 t45 (onS p40.2) else some (.tuple [], (onS p40.2))).bind fun p46 =>
(qa2 true t41).bind fun g47 => (bif g47 then some v1 else some (.tuple [])).bind fun t47 =>
(qa2 true t41).bind fun g48 => (bif g48 then some v6 else some (.tuple [])).bind fun t48 =>
(qa2 true t41).bind fun g49 => (bif g49 then ixP 1 t47 t48 else some (.tuple [])).bind fun t49 =>
(qa2 true t41).bind fun g50 => (bif g50 then ld1 t49 (onS p46.2) else some (.tuple [], (onS p46.2))).bind fun p50 =>
(qa2 true t41).bind fun g51 => (bif g51 then qad E0 .eql 9 false false p46.1 p50.1 else some (.tuple [])).bind fun t51 =>
(qah t41 (some t51) (some (.bool false))).bind fun t52 =>
endP [(8, [12])] S [[], [], p40.2.log, [], [], [], [], [], p46.2.log, [], [], [], p50.2.log, [], []] (onS p50.2) fun S53 =>
ifK t52 (
ek 1 (fr 83 [(1, v1), (2, v2), (5, v5), (6, v6)]) S53) (
(qb4 E0 25 v5 none (some v7) none S53).bind fun p58 =>
(apP 9 1 16 .nilslice p58.1 p58.2).bind fun p59 =>
(ixP 1 v1 v6).bind fun t64 =>
(ld1 t64 p59.2).bind fun p65 =>
(bsP 9 1 1 (Go.Proofs.Ytmeohejdafbodaa.Ev.one (sv [])) [(0, p65.1)] p65.2).bind fun p66 =>
(apP 9 1 16 p59.1 p66.1 p66.2).bind fun p67 =>
(qb4 E0 25 v5 (some v7) none none p67.2).bind fun p72 =>
(apP 9 1 16 p67.1 p72.1 p72.2).bind fun p73 =>
nk (fr 83 [(1, v1), (2, v2), (5, p73.1), (6, v6)]) p73.2) := by kernel_rfl
noncomputable def L9_75 (self : EV) (N : Nat) (nk : Ac → St → Rs) (ek : Nat → Ac → St → Rs) (n : Nat) ( v1 v2 v5 v6 v7 : V) (S : St) : Rs := qci [1, 2, 5, 6, 7] (dr E0 self RL9 N (B9.r.r.r.l.r.l.l.r.l.l.r.r.l.l.l)) (mkK E0 self Try.f9 nk ek) n (fr 83 [(1, v1), (2, v2), (5, v5), (6, v6), (7, v7)]) S
theorem L9_75_eq (self : EV) (N : Nat) (nk : Ac → St → Rs) (ek : Nat → Ac → St → Rs) (n : Nat) ( v1 v2 v5 v6 v7 : V) (S : St) : L9_75 self N nk ek (n + 1) v1 v2 v5 v6 v7 S =
(lnS v5 (onS S)).bind fun p78 =>
(qad E0 .lss 3 false false v7 p78.1).bind fun t79 =>
(qa2 true t79).bind fun g81 => (bif g81 then some v5 else some (.tuple [])).bind fun t81 =>
(qa2 true t79).bind fun g82 => (bif g82 then some v7 else some (.tuple [])).bind fun t82 =>
(qa2 true t79).bind fun g83 => (bif g83 then ixP 1 t81 t82 else some (.tuple [])).bind fun t83 =>
(qa2 true t79).bind fun g84 => (bif g84 then ld1 t83 (onS p78.2) else some (.tuple [], (onS p78.2))).bind fun p84 =>
(qa2 true t79).bind fun g85 => (bif g85 then some v1 else some (.tuple [])).bind fun t85 =>
(qa2 true t79).bind fun g86 => (bif g86 then some v6 else some (.tuple [])).bind fun t86 =>
(qa2 true t79).bind fun g87 => (bif g87 then ixP 1 t85 t86 else some (.tuple [])).bind fun t87 =>
(qa2 true t79).bind fun g88 => (bif g88 then ld1 t87 (onS p84.2) else some (.tuple [], (onS p84.2))).bind fun p88 =>
(qa2 true t79).bind fun g89 => (bif g89 then qad E0 .lss 9 false false p84.1 p88.1 else some (.tuple [])).bind fun t89 =>
(qah t79 (some t89) (some (.bool false))).bind fun t90 =>
endP [(8, [12])] S [[], [], p78.2.log, [], [], [], [], [], p84.2.log, [], [], [], p88.2.log, [], []] (onS p88.2) fun S91 =>
ifK t90 (
(qad E0 .add 3 false true v7 (.int .i64 1)).bind fun t93 =>
L9_75 self N nk ek n v1 v2 v5 v6 t93 S91) (
ek 2 (fr 83 [(1, v1), (2, v2), (5, v5), (6, v6), (7, v7)]) S91) := by kernel_rfl
theorem L9_11_eq (self : EV) (N : Nat) (nk : Ac → St → Rs) (ek : Nat → Ac → St → Rs) (n : Nat) ( v1 v2 v5 v6 : V) (S : St) : L9_11 self N nk ek (n + 1) v1 v2 v5 v6 S =
(lnS v1 S).bind fun p14 =>
(qad E0 .lss 3 false false v6 p14.1).bind fun t15 =>
ifK t15 (
(ixP 1 v1 v6).bind fun t22 =>
(ld1 t22 (onS p14.2)).bind fun p23 =>
qiu (qap E0 (B9.r.r.r.l.r.l.l.r.l.l.l.l).ops) p14.2 4 [[], [], [], p23.2.log] (self.f 19 [p23.1] (onS p23.2)) fun t24 S24 =>
(unV .not t24).bind fun t25 =>
(qa2 false t25).bind fun g27 => (bif g27 then ldA 5 v2 (onS S24) else some (.tuple [], (onS S24))).bind fun p27 =>
(qa2 false t25).bind fun g28 => (bif g28 then some v1 else some (.tuple [])).bind fun t28 =>
(qa2 false t25).bind fun g29 => (bif g29 then some v6 else some (.tuple [])).bind fun t29 =>
(qa2 false t25).bind fun g30 => (bif g30 then ixP 1 t28 t29 else some (.tuple [])).bind fun t30 =>
(qa2 false t25).bind fun g31 => (bif g31 then ld1 t30 (onS p27.2) else some (.tuple [], (onS p27.2))).bind fun p31 =>
(qa2 false t25).bind fun g32 => qiu (qap E0 (B9.r.r.r.l.r.l.l.r.l.l.l.l).ops) p14.2 12 [[], [], [], p23.2.log, S24.log, [], [], p27.2.log, [], [], [], p31.2.log] (bif g32 then self.f 20 [p27.1, p31.1] (onS p31.2) else some (.ret (.tuple []), (onS p31.2))) fun t32 S32 =>
(qa2 false t25).bind fun g33 => (bif g33 then unV .not t32 else some (.tuple [])).bind fun t33 =>
(qah t25 (some (.bool true)) (some t33)).bind fun t34 =>
endP [(7, [11])] p14.2 [[], [], [], p23.2.log, S24.log, [], [], p27.2.log, [], [], [], p31.2.log, S32.log, [], []] (onS S32) fun S35 =>
ifK t34 (
qhq self N (qhp self N nk ek n) ek (fr 83 [(1, v1), (2, v2), (5, v5), (6, v6)]) S35) (
L9_75 self N (R9_37 self N (qhq self N (qhp self N nk ek n) ek) (exB 1 (qhq self N (qhp self N nk ek n) ek) ek)) (exB 2 (R9_37 self N (qhq self N (qhp self N nk ek n) ek) (exB 1 (qhq self N (qhp self N nk ek n) ek) ek)) (exB 1 (qhq self N (qhp self N nk ek n) ek) ek)) N v1 v2 v5 v6 (.int .i64 0) S35)) (
ek 0 (fr 83 [(5, v5)]) p14.2) := by kernel_rfl
theorem N9_11_eq (self : EV) (N : Nat) (nk : Ac → St → Rs) (ek : Nat → Ac → St → Rs) (n : Nat) ( v1 v2 v5 v6 : V) (S : St) : qhp self N nk ek n (fr 83 [(1, v1), (2, v2), (5, v5), (6, v6)]) S = L9_11 self N nk ek n v1 v2 v5 v6 S := by kernel_rfl
noncomputable def F9 (self : EV) (N : Nat) (x0 x1 : V) (S : St) : Rs := qc0 E0 self N Try.f9 B9 [x0, x1] S
theorem F9_eq (self : EV) (N : Nat) (x0 x1 : V) (S : St) : F9 self N x0 x1 S =
(qlv 24 x0 S).bind fun p0 =>
(ldA 5 p0.1 p0.2).bind fun p2 =>
qb6 (self.f 18 [p2.1] p2.2) fun t3 S3 =>
(qad E0 .neq 32 false true t3 (.int .i64 0)).bind fun t4 =>
ifK t4 (
some (.ret .nilslice, S3)) (
L9_11 self N (R9_7 self N (qay E0 self Try.f9) qae) (exB 0 (R9_7 self N (qay E0 self Try.f9) qae) qae) N x1 p0.1 .nilslice (.int .i64 0) S3) := by kernel_rfl
noncomputable def C7 : Code := Try.f7.body.getD .skip
noncomputable def B7 : D := (qaw C7 [[], [], [], [], [], [0, 1, 5], [], [], [], [], [], [], [0], [4], []]).1
noncomputable def RL7 : List Nat := cellsOf Try.f7.results.toList
noncomputable def R7_7 (self : EV) (N : Nat) (nk : Ac → St → Rs) (ek : Nat → Ac → St → Rs) (a : Ac) (S : St) : Rs := qb9 [] a fun a => dr E0 self RL7 N (B7.r.r).r (mkK E0 self Try.f7 nk ek) a S
theorem R7_7_eq (self : EV) (N : Nat) (nk : Ac → St → Rs) (ek : Nat → Ac → St → Rs) (S : St) : R7_7 self N nk ek (fr 26 []) S =
some (.ret (.bool true), S) := by kernel_rfl
noncomputable def L7_10 (self : EV) (N : Nat) (nk : Ac → St → Rs) (ek : Nat → Ac → St → Rs) (n : Nat) ( v0 v1 v5 : V) (S : St) : Rs := qci [0, 1, 5] (dr E0 self RL7 N (B7.r.r.l.r.l.l)) (mkK E0 self Try.f7 nk ek) n (fr 26 [(0, v0), (1, v1), (5, v5)]) S
theorem L7_10_eq (self : EV) (N : Nat) (nk : Ac → St → Rs) (ek : Nat → Ac → St → Rs) (n : Nat) ( v0 v1 v5 : V) (S : St) : L7_10 self N nk ek (n + 1) v0 v1 v5 S =
(lnS v0 S).bind fun p13 =>
(qad E0 .lss 3 false false v5 p13.1).bind fun t14 =>
ifK t14 (
(ixP 1 v0 v5).bind fun t17 =>
(ld1 t17 (onS p13.2)).bind fun p18 =>
(ixP 1 v1 v5).bind fun t21 =>
(ld1 t21 (onS p18.2)).bind fun p22 =>
(qad E0 .neq 9 false false p18.1 p22.1).bind fun t23 =>
endP [(3, [7])] p13.2 [[], [], [], p18.2.log, [], [], [], p22.2.log, []] (onS p22.2) fun S24 =>
ifK t23 (
some (.ret (.bool false), S24)) (
(qad E0 .add 3 false true v5 (.int .i64 1)).bind fun t27 =>
L7_10 self N nk ek n v0 v1 t27 S24)) (
ek 0 (fr 26 []) p13.2) := by kernel_rfl
noncomputable def F7 (self : EV) (N : Nat) (x0 x1 : V) (S : St) : Rs := qc0 E0 self N Try.f7 B7 [x0, x1] S
theorem F7_eq (self : EV) (N : Nat) (x0 x1 : V) (S : St) : F7 self N x0 x1 S =
(lnS x0 S).bind fun p2 =>
(lnS x1 p2.2).bind fun p4 =>
(qad E0 .neq 3 false false p2.1 p4.1).bind fun t5 =>
ifK t5 (
some (.ret (.bool false), p4.2)) (
L7_10 self N (R7_7 self N (qay E0 self Try.f7) qae) (exB 0 (R7_7 self N (qay E0 self Try.f7) qae) qae) N x0 x1 (.int .i64 0) p4.2) := by kernel_rfl
end
end Go.Proofs.Ytmeohejdafbodaa.W
