/-
  WHAT THE FUNCTIONS COME TO: each is read by the evaluator, printed, and told as a function of data, part 1 of 12 (no condition).
-/
import Derived.Test.YtmeohejdafbodaaEv4
import Derived.Test.YtmeohejdafbodaaProg
import Derived.KernelRfl
namespace Go.Proofs.Ytmeohejdafbodaa.W
open Go.Proofs.Ytmeohejdafbodaa.Ev
set_option maxRecDepth 100000
noncomputable section
noncomputable def E0 : Env := envOf Try.prog [7, 8, 23, 24, 54, 55, 71, 72, 73, 126, 127, 135] [(86, 4), (94, 1)] []
noncomputable def C6 : Code := Try.f6.body.getD .skip
noncomputable def B6 : D := (qas C6 [[], [], [], [], [1, 2, 4, 5, 6], [], [2, 4, 5], [], [], [0, 2, 4, 5], [4], [], []]).1
noncomputable def RL6 : List Nat := cellsOf Try.f6.results.toList
noncomputable def R6_12 (self : EV) (N : Nat) (nk : Ac->St->Rs) (ek : Nat->Ac->St->Rs) (a : Ac) (S : St) : Rs := qaa [2, 4, 5] a fun a => dr E0 self RL6 N (B6.r.r.r).r (mkK E0 self Try.f6 nk ek) a S
theorem R6_12_eq (self : EV) (N : Nat) (nk : Ac->St->Rs) (ek : Nat->Ac->St->Rs) ( v2 v4 v5 : V) (S : St) : R6_12 self N nk ek (fr 44 [(2, v2), (4, v4), (5, v5)]) S =
(faP 4 false 1 v2).bind fun t14 =>
(stP 1 t14 v5 S).bind fun p15 =>
(ldA 5 v2 p15.2).bind fun p16 =>
(stP 5 v4 p16.1 p16.2).bind fun p17 =>
(ldrA 5 v4 p17.2).bind fun p18 =>
some (.ret p18.1, p18.2) := by kernel_rfl
noncomputable def L6_20 (self : EV) (N : Nat) (nk : Ac->St->Rs) (ek : Nat->Ac->St->Rs) (n : Nat) ( v1 v2 v4 v5 v6 : V) (S : St) : Rs := qbf [1, 2, 4, 5, 6] (dr E0 self RL6 N (B6.r.r.r.l.r.l.l)) (mkK E0 self Try.f6 nk ek) n (fr 44 [(1, v1), (2, v2), (4, v4), (5, v5), (6, v6)]) S
theorem L6_20_eq (self : EV) (N : Nat) (nk : Ac->St->Rs) (ek : Nat->Ac->St->Rs) (n : Nat) ( v1 v2 v4 v5 v6 : V) (S : St) : L6_20 self N nk ek (n + 1) v1 v2 v4 v5 v6 S =
(faP 4 false 1 v2).bind fun t22 =>
(ld1 t22 S).bind fun p23 =>
(lnS p23.1 p23.2).bind fun p24 =>
(qa4 E0 .lss 3 false false v6 p24.1).bind fun t25 =>
(qa2 true t25).bind fun g27 => (bif g27 then some v6 else some (.tuple [])).bind fun t27 =>
(qa2 true t25).bind fun g28 => (bif g28 then qa4 E0 .lss 3 false true t27 (.int .i64 20) else some (.tuple [])).bind fun t28 =>
(qag t25 (some t28) (some (.bool false))).bind fun t29 =>
(qa2 true t29).bind fun g31 => (bif g31 then some v1 else some (.tuple [])).bind fun t31 =>
(qa2 true t29).bind fun g32 => (bif g32 then qa4 E0 .gtr 3 false true t31 (.int .i64 0) else some (.tuple [])).bind fun t32 =>
(qag t29 (some t32) (some (.bool false))).bind fun t33 =>
ifK t33 (
(faP 4 false 1 v2).bind fun t35 =>
(ld1 t35 p24.2).bind fun p36 =>
(ixP 5 p36.1 v6).bind fun t38 =>
(ldA 5 t38 p36.2).bind fun p39 =>
(qa4 E0 .sub 3 false true v1 (.int .i64 1)).bind fun t41 =>
qax (self.f 6 [p39.1, t41] p39.2) fun t42 S42 =>
(bsP 24 5 1 (Tr.ofListFrom .nil [(sv []), (.int .i64 0), (.bool false), (sv []), .nilslice] 0) [(0, t42)] S42).bind fun p43 =>
(apP 24 5 72 v5 p43.1 p43.2).bind fun p44 =>
(qa4 E0 .add 3 false true v6 (.int .i64 1)).bind fun t47 =>
L6_20 self N nk ek n v1 v2 v4 p44.1 t47 p44.2) (
ek 0 (fr 44 [(2, v2), (4, v4), (5, v5)]) p24.2) := by kernel_rfl
noncomputable def F6 (self : EV) (N : Nat) (x0 x1 : V) (S : St) : Rs := qbu E0 self N Try.f6 B6 [x0, x1] S
theorem F6_eq (self : EV) (N : Nat) (x0 x1 : V) (S : St) : F6 self N x0 x1 S =
(qm6 24 x0 S).bind fun p0 =>
(some (nwP 24 5 (Tr.ofListFrom .nil [(sv []), (.int .i64 0), (.bool false), (sv []), .nilslice] 0) p0.2)).bind fun p1 =>
(faP 3 false 1 p0.1).bind fun t2 =>
(ld1 t2 p1.2).bind fun p3 =>
(faP 3 false 1 p0.1).bind fun t4 =>
(ld1 t4 p3.2).bind fun p5 =>
(qd1 p5.1 p5.2).bind fun p6 =>
(qhg minV p6.1 [(.int .i64 400)] p6.2).bind fun p7 =>
(qbl E0 9 p3.1 none (some p7.1) none p7.2).bind fun p8 =>
(faP 3 false 1 p0.1).bind fun t9 =>
(stP 1 t9 p8.1 p8.2).bind fun p10 =>
L6_20 self N (R6_12 self N (qak E0 self Try.f6) qa9) (exB 0 (R6_12 self N (qak E0 self Try.f6) qa9) qa9) N x1 p0.1 p1.1 .nilslice (.int .i64 0) p10.2 := by kernel_rfl
noncomputable def C11 : Code := Try.f11.body.getD .skip
noncomputable def B11 : D := (qas C11 [[], [], [], [], [], [], [], [], [], [], []]).1
noncomputable def F11 (self : EV) (N : Nat) (x0 : V) (S : St) : Rs := qbu E0 self N Try.f11 B11 [x0] S
theorem F11_eq (self : EV) (N : Nat) (x0 : V) (S : St) : F11 self N x0 S =
(qm6 24 x0 S).bind fun p0 =>
(ldA 5 p0.1 p0.2).bind fun p2 =>
qax (self.f 24 [p2.1] p2.2) fun t3 S3 =>
ifK t3 (
some (.ret (.int .i64 3), S3)) (
(faP 0 false 1 p0.1).bind fun t6 =>
(ld1 t6 S3).bind fun p7 =>
(qa4 E0 .neq 9 false true p7.1 (sv [])).bind fun t8 =>
(qa2 false t8).bind fun g10 => (bif g10 then ldA 5 p0.1 p7.2 else some (.tuple [], p7.2)).bind fun p10 =>
(qa2 false t8).bind fun g11 => qax (bif g11 then self.f 25 [p10.1] p10.2 else some (.ret (.tuple []), p10.2)) fun t11 S11 =>
(qa2 false t8).bind fun g12 => (bif g12 then unV .not t11 else some (.tuple [])).bind fun t12 =>
(qag t8 (some (.bool true)) (some t12)).bind fun t13 =>
ifK t13 (
some (.ret (.int .i64 2), S11)) (
(ldA 5 p0.1 S11).bind fun p16 =>
qax (self.f 26 [p16.1] p16.2) fun t17 S17 =>
(qac t17 0).bind fun t19 =>
(qac t17 1).bind fun t20 =>
(qa4 E0 .gtr 3 false true t19 (.int .i64 2000)).bind fun t24 =>
(qa2 false t24).bind fun g26 => (bif g26 then some t20 else some (.tuple [])).bind fun t26 =>
(qa2 false t24).bind fun g27 => (bif g27 then qa4 E0 .gtr 3 false true t26 (.int .i64 100000) else some (.tuple [])).bind fun t27 =>
(qag t24 (some (.bool true)) (some t27)).bind fun t28 =>
ifK t28 (
some (.ret (.int .i64 3), S17)) (
some (.ret (.int .i64 0), S17)))) := by kernel_rfl
noncomputable def C26 : Code := Try.f26.body.getD .skip
noncomputable def B26 : D := (qas C26 [[], [], [], [], []]).1
noncomputable def F26 (self : EV) (N : Nat) (x0 : V) (S : St) : Rs := qbu E0 self N Try.f26 B26 [x0] S
theorem F26_eq (self : EV) (N : Nat) (x0 : V) (S : St) : F26 self N x0 S =
(qm6 24 x0 S).bind fun p0 =>
(ldA 5 p0.1 p0.2).bind fun p3 =>
qax (self.f 24 [p3.1] p3.2) fun t4 S4 =>
ifK t4 (
some (.ret (.tuple [(.int .i64 0), (.int .i64 0)]), S4)) (
(ldA 5 p0.1 S4).bind fun p7 =>
qax (self.f 51 [p7.1] p7.2) fun t8 S8 =>
(qac t8 0).bind fun t9 =>
(qac t8 1).bind fun t10 =>
some (.ret (.tuple [t9, t10]), S8)) := by kernel_rfl
noncomputable def C18 : Code := Try.f18.body.getD .skip
noncomputable def B18 : D := (qas C18 [[], [], [], [], [], [], [], [], [], [], [], []]).1
noncomputable def F18 (self : EV) (N : Nat) (x0 : V) (S : St) : Rs := qbu E0 self N Try.f18 B18 [x0] S
theorem F18_eq (self : EV) (N : Nat) (x0 : V) (S : St) : F18 self N x0 S =
(qm6 24 x0 S).bind fun p0 =>
(ldA 5 p0.1 p0.2).bind fun p2 =>
qax (self.f 36 [p2.1] p2.2) fun t3 S3 =>
(qa4 E0 .gtr 3 false true t3 (.int .i64 12)).bind fun t4 =>
ifK t4 (
some (.ret (.int .i64 3), S3)) (
(faP 0 false 1 p0.1).bind fun t6 =>
(ld1 t6 S3).bind fun p7 =>
(qa4 E0 .neq 9 false true p7.1 (sv [])).bind fun t8 =>
(qa2 false t8).bind fun g10 => (bif g10 then ldA 5 p0.1 p7.2 else some (.tuple [], p7.2)).bind fun p10 =>
(qa2 false t8).bind fun g11 => qax (bif g11 then self.f 37 [p10.1] p10.2 else some (.ret (.tuple []), p10.2)) fun t11 S11 =>
(qa2 false t8).bind fun g12 => (bif g12 then unV .not t11 else some (.tuple [])).bind fun t12 =>
(qag t8 (some (.bool true)) (some t12)).bind fun t13 =>
ifK t13 (
some (.ret (.int .i64 2), S11)) (
(ldA 5 p0.1 S11).bind fun p15 =>
qax (self.f 38 [p15.1] p15.2) fun t16 S16 =>
(qac t16 0).bind fun t18 =>
(qac t16 1).bind fun t19 =>
(qa4 E0 .gtr 3 false true t18 (.int .i64 2000)).bind fun t23 =>
(qa2 false t23).bind fun g25 => (bif g25 then some t19 else some (.tuple [])).bind fun t25 =>
(qa2 false t23).bind fun g26 => (bif g26 then qa4 E0 .gtr 3 false true t25 (.int .i64 100000) else some (.tuple [])).bind fun t26 =>
(qag t23 (some (.bool true)) (some t26)).bind fun t27 =>
ifK t27 (
some (.ret (.int .i64 3), S16)) (
some (.ret (.int .i64 0), S16)))) := by kernel_rfl
noncomputable def C36 : Code := Try.f36.body.getD .skip
noncomputable def B36 : D := (qas C36 [[], []]).1
noncomputable def F36 (self : EV) (N : Nat) (x0 : V) (S : St) : Rs := qbu E0 self N Try.f36 B36 [x0] S
theorem F36_eq (self : EV) (N : Nat) (x0 : V) (S : St) : F36 self N x0 S =
(qm6 24 x0 S).bind fun p0 =>
(ldA 5 p0.1 p0.2).bind fun p2 =>
qax (self.f 73 [p2.1, (.int .i64 14)] p2.2) fun t3 S3 =>
some (.ret t3, S3) := by kernel_rfl
noncomputable def C24 : Code := Try.f24.body.getD .skip
noncomputable def B24 : D := (qas C24 [[], []]).1
noncomputable def F24 (self : EV) (N : Nat) (x0 : V) (S : St) : Rs := qbu E0 self N Try.f24 B24 [x0] S
theorem F24_eq (self : EV) (N : Nat) (x0 : V) (S : St) : F24 self N x0 S =
(qm6 24 x0 S).bind fun p0 =>
(ldA 5 p0.1 p0.2).bind fun p2 =>
qax (self.f 42 [p2.1] p2.2) fun t3 S3 =>
(qa4 E0 .gtr 3 false true t3 (.int .i64 12)).bind fun t4 =>
some (.ret t4, S3) := by kernel_rfl
noncomputable def C25 : Code := Try.f25.body.getD .skip
noncomputable def B25 : D := (qas C25 [[], [], [], [], [], [], [], [], [], [], [], []]).1
noncomputable def F25 (self : EV) (N : Nat) (x0 : V) (S : St) : Rs := qbu E0 self N Try.f25 B25 [x0] S
theorem F25_eq (self : EV) (N : Nat) (x0 : V) (S : St) : F25 self N x0 S =
(qm6 24 x0 S).bind fun p0 =>
(faP 1 false 1 p0.1).bind fun t6 =>
(ld1 t6 p0.2).bind fun p7 =>
(qa4 E0 .eql 3 false true p7.1 (.int .i64 1)).bind fun t8 =>
ifK t8 (
qax (qdl E0 self (.fn (.func 43) [] [p0.1]) [] p7.2) fun t11 S11 =>
some (.ret t11, S11)) (
(qa4 E0 .eql 3 false true p7.1 (.int .i64 3)).bind fun t13 =>
ifK t13 (
(bsP 29 1 3 (Ev.one .nilfn) [(0, (.fn (.func 43) [] [p0.1])), (1, (.fn (.func 44) [] [p0.1])), (2, (.fn (.func 46) [] [p0.1]))] p7.2).bind fun p18 =>
qax (self.f 45 [p18.1] p18.2) fun t19 S19 =>
some (.ret t19, S19)) (
(qa4 E0 .eql 3 false true p7.1 (.int .i64 2)).bind fun t21 =>
ifK t21 (
(bsP 29 1 3 (Ev.one .nilfn) [(0, (.fn (.func 44) [] [p0.1])), (1, (.fn (.func 48) [] [p0.1])), (2, (.fn (.func 49) [] [p0.1]))] p7.2).bind fun p26 =>
qax (self.f 45 [p26.1] p26.2) fun t27 S27 =>
some (.ret t27, S27)) (
some (.ret (.bool false), p7.2)))) := by kernel_rfl
noncomputable def C51 : Code := Try.f51.body.getD .skip
noncomputable def B51 : D := (qas C51 [[], [], [], [2, 3, 12, 13, 14], [], [2, 3], [], [], [], [2, 3, 12, 13, 14], [], [], [], [0, 2, 3], [2, 3], []]).1
noncomputable def RL51 : List Nat := cellsOf Try.f51.results.toList
noncomputable def R51_8 (self : EV) (N : Nat) (nk : Ac->St->Rs) (ek : Nat->Ac->St->Rs) (a : Ac) (S : St) : Rs := qaa [2, 3] a fun a => dr E0 self RL51 N (B51.r.r).r (mkK E0 self Try.f51 nk ek) a S
theorem R51_8_eq (self : EV) (N : Nat) (nk : Ac->St->Rs) (ek : Nat->Ac->St->Rs) ( v2 v3 : V) (S : St) : R51_8 self N nk ek (fr 34 [(2, v2), (3, v3)]) S =
some (.ret (.tuple [v2, v3]), S) := by kernel_rfl
noncomputable def L51_17 (self : EV) (N : Nat) (nk : Ac->St->Rs) (ek : Nat->Ac->St->Rs) (n : Nat) ( v2 v3 v12 v13 v14 : V) (S : St) : Rs := qbf [2, 3, 12, 13, 14] (dr E0 self RL51 N (B51.r.r.l.r.l.l)) (mkK E0 self Try.f51 nk ek) n (fr 34 [(2, v2), (3, v3), (12, v12), (13, v13), (14, v14)]) S
theorem L51_17_eq (self : EV) (N : Nat) (nk : Ac->St->Rs) (ek : Nat->Ac->St->Rs) (n : Nat) ( v2 v3 v12 v13 v14 : V) (S : St) : L51_17 self N nk ek (n + 1) v2 v3 v12 v13 v14 S =
(qa4 E0 .lss 3 false false v14 v13).bind fun t18 =>
ifK t18 (
(ixP 5 v12 v14).bind fun t19 =>
(ldA 5 t19 S).bind fun p20 =>
(some (nwP 24 5 (Tr.ofListFrom .nil [(sv []), (.int .i64 0), (.bool false), (sv []), .nilslice] 0) p20.2)).bind fun p21 =>
(stP 5 p21.1 p20.1 p21.2).bind fun p22 =>
(ldA 5 p21.1 p22.2).bind fun p23 =>
qax (self.f 24 [p23.1] p23.2) fun t24 S24 =>
ifK t24 (
(qa4 E0 .add 3 false true v14 (.int .i64 1)).bind fun t25 =>
L51_17 self N nk ek n v2 v3 v12 v13 t25 S24) (
(ldA 5 p21.1 S24).bind fun p27 =>
qax (self.f 51 [p27.1] p27.2) fun t28 S28 =>
(qac t28 0).bind fun t30 =>
(qac t28 1).bind fun t31 =>
(qa4 E0 .add 3 false false v2 t30).bind fun t36 =>
(qa4 E0 .add 3 false false v3 t31).bind fun t39 =>
(qa4 E0 .add 3 false true v14 (.int .i64 1)).bind fun t42 =>
L51_17 self N nk ek n t36 t39 v12 v13 t42 S28)) (
ek 0 (fr 34 [(2, v2), (3, v3)]) S) := by kernel_rfl
noncomputable def F51 (self : EV) (N : Nat) (x0 : V) (S : St) : Rs := qbu E0 self N Try.f51 B51 [x0] S
theorem F51_eq (self : EV) (N : Nat) (x0 : V) (S : St) : F51 self N x0 S =
(qm6 24 x0 S).bind fun p0 =>
(faP 3 false 1 p0.1).bind fun t3 =>
(ld1 t3 (onS p0.2)).bind fun p4 =>
(qd1 p4.1 (onS p4.2)).bind fun p5 =>
(faP 4 false 1 p0.1).bind fun t13 =>
(ld1 t13 (qb3 p0.2 (onS p5.2) [[], p4.2.log, p5.2.log, [], []])).bind fun p14 =>
(lnS p14.1 p14.2).bind fun p15 =>
L51_17 self N (R51_8 self N (qak E0 self Try.f51) qa9) (exB 0 (R51_8 self N (qak E0 self Try.f51) qa9) qa9) N (.int .i64 1) p5.1 p14.1 p15.1 (.int .i64 0) p15.2 := by kernel_rfl
end
noncomputable section
noncomputable def C38 : Code := Try.f38.body.getD .skip
noncomputable def B38 : D := (qas C38 [[], [], [], [], [], [], [1, 4, 5, 6], [], [4, 5], [], [], [], [], [0, 4, 5], [2, 3], []]).1
noncomputable def RL38 : List Nat := cellsOf Try.f38.results.toList
noncomputable def R38_13 (self : EV) (N : Nat) (nk : Ac->St->Rs) (ek : Nat->Ac->St->Rs) (a : Ac) (S : St) : Rs := qaa [4, 5] a fun a => dr E0 self RL38 N (B38.r.r.r).r (mkK E0 self Try.f38 nk ek) a S
theorem R38_13_eq (self : EV) (N : Nat) (nk : Ac->St->Rs) (ek : Nat->Ac->St->Rs) ( v4 v5 : V) (S : St) : R38_13 self N nk ek (fr 39 [(4, v4), (5, v5)]) S =
some (.ret (.tuple [v4, v5]), S) := by kernel_rfl
noncomputable def L38_19 (self : EV) (N : Nat) (nk : Ac->St->Rs) (ek : Nat->Ac->St->Rs) (n : Nat) ( v1 v4 v5 v6 : V) (S : St) : Rs := qbf [1, 4, 5, 6] (dr E0 self RL38 N (B38.r.r.r.l.r.l.l)) (mkK E0 self Try.f38 nk ek) n (fr 39 [(1, v1), (4, v4), (5, v5), (6, v6)]) S
theorem L38_19_eq (self : EV) (N : Nat) (nk : Ac->St->Rs) (ek : Nat->Ac->St->Rs) (n : Nat) ( v1 v4 v5 v6 : V) (S : St) : L38_19 self N nk ek (n + 1) v1 v4 v5 v6 S =
(faP 4 false 1 v1).bind fun t21 =>
(ld1 t21 S).bind fun p22 =>
(lnS p22.1 p22.2).bind fun p23 =>
(qa4 E0 .lss 3 false false v6 p23.1).bind fun t24 =>
ifK t24 (
(faP 4 false 1 v1).bind fun t25 =>
(ld1 t25 p23.2).bind fun p26 =>
(ixP 5 p26.1 v6).bind fun t28 =>
(ldA 5 t28 p26.2).bind fun p29 =>
qax (self.f 38 [p29.1] p29.2) fun t30 S30 =>
(qac t30 0).bind fun t32 =>
(qac t30 1).bind fun t33 =>
(qa4 E0 .add 3 false false v4 t32).bind fun t38 =>
(qa4 E0 .add 3 false false v5 t33).bind fun t42 =>
(qa4 E0 .add 3 false true v6 (.int .i64 1)).bind fun t45 =>
L38_19 self N nk ek n v1 t38 t42 t45 S30) (
ek 0 (fr 39 [(4, v4), (5, v5)]) p23.2) := by kernel_rfl
noncomputable def F38 (self : EV) (N : Nat) (x0 : V) (S : St) : Rs := qbu E0 self N Try.f38 B38 [x0] S
theorem F38_eq (self : EV) (N : Nat) (x0 : V) (S : St) : F38 self N x0 S =
(qm6 24 x0 S).bind fun p0 =>
(ldA 5 p0.1 p0.2).bind fun p3 =>
qax (self.f 36 [p3.1] p3.2) fun t4 S4 =>
(qa4 E0 .gtr 3 false true t4 (.int .i64 12)).bind fun t5 =>
ifK t5 (
some (.ret (.tuple [(.int .i64 0), (.int .i64 0)]), S4)) (
(faP 3 false 1 p0.1).bind fun t8 =>
(ld1 t8 (onS S4)).bind fun p9 =>
(qd1 p9.1 (onS p9.2)).bind fun p10 =>
L38_19 self N (R38_13 self N (qak E0 self Try.f38) qa9) (exB 0 (R38_13 self N (qak E0 self Try.f38) qa9) qa9) N p0.1 (.int .i64 1) p10.1 (.int .i64 0) (qb3 S4 (onS p10.2) [[], p9.2.log, p10.2.log, [], []])) := by kernel_rfl
noncomputable def C37 : Code := Try.f37.body.getD .skip
noncomputable def B37 : D := (qas C37 [[], [], [], [], [], [], [1, 3], [], [1], [], [], [], [], [0, 1], [], [], [], [], [1, 4], [], [1], [], [], [], [], [0, 1], [], [], [0], [2], []]).1
noncomputable def RL37 : List Nat := cellsOf Try.f37.results.toList
noncomputable def qfb (self : EV) (N : Nat) (nk : Ac->St->Rs) (ek : Nat->Ac->St->Rs) (a : Ac) (S : St) : Rs := qaa [] a fun a => dr E0 self RL37 N (B37.r).r (mkK E0 self Try.f37 nk ek) a S
theorem R37_2_eq (self : EV) (N : Nat) (nk : Ac->St->Rs) (ek : Nat->Ac->St->Rs) (S : St) : qfb self N nk ek (fr 102 []) S =
some (.ret (.bool false), S) := by kernel_rfl
noncomputable def R37_15 (self : EV) (N : Nat) (nk : Ac->St->Rs) (ek : Nat->Ac->St->Rs) (a : Ac) (S : St) : Rs := qaa [1] a fun a => dr E0 self RL37 N (B37.r.l.r.l.r.r.r.l).r (mkK E0 self Try.f37 nk ek) a S
theorem R37_15_eq (self : EV) (N : Nat) (nk : Ac->St->Rs) (ek : Nat->Ac->St->Rs) ( v1 : V) (S : St) : R37_15 self N nk ek (fr 102 [(1, v1)]) S =
(faP 2 false 1 v1).bind fun t16 =>
(ld1 t16 S).bind fun p17 =>
(unV .not p17.1).bind fun t18 =>
(qa2 true t18).bind fun g20 => (bif g20 then faP 4 false 1 v1 else some (.tuple [])).bind fun t20 =>
(qa2 true t18).bind fun g21 => (bif g21 then ld1 t20 p17.2 else some (.tuple [], p17.2)).bind fun p21 =>
(qa2 true t18).bind fun g22 => (bif g22 then lnS p21.1 p21.2 else some (.tuple [], p21.2)).bind fun p22 =>
(qa2 true t18).bind fun g23 => (bif g23 then qa4 E0 .eql 3 false true p22.1 (.int .i64 0) else some (.tuple [])).bind fun t23 =>
(qag t18 (some t23) (some (.bool false))).bind fun t24 =>
(qa2 true t24).bind fun g26 => (bif g26 then faP 3 false 1 v1 else some (.tuple [])).bind fun t26 =>
(qa2 true t24).bind fun g27 => (bif g27 then ld1 t26 p22.2 else some (.tuple [], p22.2)).bind fun p27 =>
(qa2 true t24).bind fun g28 => (bif g28 then qd1 p27.1 p27.2 else some (.tuple [], p27.2)).bind fun p28 =>
(qa2 true t24).bind fun g29 => (bif g29 then qa4 E0 .geq 3 false true p28.1 (.int .i64 1) else some (.tuple [])).bind fun t29 =>
(qag t24 (some t29) (some (.bool false))).bind fun t30 =>
(qa2 true t30).bind fun g32 => (bif g32 then faP 3 false 1 v1 else some (.tuple [])).bind fun t32 =>
(qa2 true t30).bind fun g33 => (bif g33 then ld1 t32 p28.2 else some (.tuple [], p28.2)).bind fun p33 =>
(qa2 true t30).bind fun g34 => (bif g34 then qd1 p33.1 p33.2 else some (.tuple [], p33.2)).bind fun p34 =>
(qa2 true t30).bind fun g35 => (bif g35 then qa4 E0 .leq 3 false true p34.1 (.int .i64 255) else some (.tuple [])).bind fun t35 =>
(qag t30 (some t35) (some (.bool false))).bind fun t36 =>
some (.ret t36, p34.2) := by kernel_rfl
noncomputable def L37_39 (self : EV) (N : Nat) (nk : Ac->St->Rs) (ek : Nat->Ac->St->Rs) (n : Nat) ( v1 v3 : V) (S : St) : Rs := qbf [1, 3] (dr E0 self RL37 N (B37.r.l.r.l.r.r.r.l.l.r.l.l)) (mkK E0 self Try.f37 nk ek) n (fr 102 [(1, v1), (3, v3)]) S
theorem L37_39_eq (self : EV) (N : Nat) (nk : Ac->St->Rs) (ek : Nat->Ac->St->Rs) (n : Nat) ( v1 v3 : V) (S : St) : L37_39 self N nk ek (n + 1) v1 v3 S =
(faP 3 false 1 v1).bind fun t41 =>
(ld1 t41 S).bind fun p42 =>
(qd1 p42.1 p42.2).bind fun p43 =>
(qa4 E0 .lss 3 false false v3 p43.1).bind fun t44 =>
ifK t44 (
(faP 3 false 1 v1).bind fun t45 =>
(ld1 t45 p43.2).bind fun p46 =>
(ixS p46.1 v3).bind fun t48 =>
(qa4 E0 .eql 5 false true t48 (.int .u8 0)).bind fun t49 =>
ifK t49 (
some (.ret (.bool false), p46.2)) (
(qa4 E0 .add 3 false true v3 (.int .i64 1)).bind fun t52 =>
L37_39 self N nk ek n v1 t52 p46.2)) (
ek 1 (fr 102 [(1, v1)]) p43.2) := by kernel_rfl
noncomputable def R37_56 (self : EV) (N : Nat) (nk : Ac->St->Rs) (ek : Nat->Ac->St->Rs) (a : Ac) (S : St) : Rs := qaa [1] a fun a => dr E0 self RL37 N (B37.r.l.r.l.r.r.r.r.r.l).r (mkK E0 self Try.f37 nk ek) a S
theorem R37_56_eq (self : EV) (N : Nat) (nk : Ac->St->Rs) (ek : Nat->Ac->St->Rs) ( v1 : V) (S : St) : R37_56 self N nk ek (fr 102 [(1, v1)]) S =
(faP 2 false 1 v1).bind fun t57 =>
(ld1 t57 S).bind fun p58 =>
(unV .not p58.1).bind fun t59 =>
(qa2 true t59).bind fun g61 => (bif g61 then faP 3 false 1 v1 else some (.tuple [])).bind fun t61 =>
(qa2 true t59).bind fun g62 => (bif g62 then ld1 t61 p58.2 else some (.tuple [], p58.2)).bind fun p62 =>
(qa2 true t59).bind fun g63 => (bif g63 then qa4 E0 .eql 9 false true p62.1 (sv []) else some (.tuple [])).bind fun t63 =>
(qag t59 (some t63) (some (.bool false))).bind fun t64 =>
some (.ret t64, p62.2) := by kernel_rfl
noncomputable def L37_67 (self : EV) (N : Nat) (nk : Ac->St->Rs) (ek : Nat->Ac->St->Rs) (n : Nat) ( v1 v4 : V) (S : St) : Rs := qbf [1, 4] (dr E0 self RL37 N (B37.r.l.r.l.r.r.r.r.r.l.l.r.l.l)) (mkK E0 self Try.f37 nk ek) n (fr 102 [(1, v1), (4, v4)]) S
theorem L37_67_eq (self : EV) (N : Nat) (nk : Ac->St->Rs) (ek : Nat->Ac->St->Rs) (n : Nat) ( v1 v4 : V) (S : St) : L37_67 self N nk ek (n + 1) v1 v4 S =
(faP 4 false 1 v1).bind fun t69 =>
(ld1 t69 S).bind fun p70 =>
(lnS p70.1 p70.2).bind fun p71 =>
(qa4 E0 .lss 3 false false v4 p71.1).bind fun t72 =>
ifK t72 (
(faP 4 false 1 v1).bind fun t73 =>
(ld1 t73 (onS p71.2)).bind fun p74 =>
(ixP 5 p74.1 v4).bind fun t76 =>
(faP 0 false 1 t76).bind fun t77 =>
(ld1 t77 (onS p74.2)).bind fun p78 =>
qjr (qat E0 (B37.r.l.r.l.r.r.r.r.r.l.l.r.l.l.r.l.l.l).ops) p71.2 6 [[], p74.2.log, [], [], [], p78.2.log] (self.f 74 [p78.1] (onS p78.2)) fun t79 S79 =>
(unV .not t79).bind fun t80 =>
(qa2 false t80).bind fun g82 => (bif g82 then faP 4 false 1 v1 else some (.tuple [])).bind fun t82 =>
(qa2 false t80).bind fun g83 => (bif g83 then ld1 t82 (onS S79) else some (.tuple [], (onS S79))).bind fun p83 =>
(qa2 false t80).bind fun g84 => (bif g84 then some v4 else some (.tuple [])).bind fun t84 =>
(qa2 false t80).bind fun g85 => (bif g85 then ixP 5 p83.1 t84 else some (.tuple [])).bind fun t85 =>
(qa2 false t80).bind fun g86 => (bif g86 then ldA 5 t85 (onS p83.2) else some (.tuple [], (onS p83.2))).bind fun p86 =>
(qa2 false t80).bind fun g87 => qjr (qat E0 (B37.r.l.r.l.r.r.r.r.r.l.l.r.l.l.r.l.l.l).ops) p71.2 14 [[], p74.2.log, [], [], [], p78.2.log, S79.log, [], [], [], p83.2.log, [], [], p86.2.log] (bif g87 then self.f 37 [p86.1] (onS p86.2) else some (.ret (.tuple []), (onS p86.2))) fun t87 S87 =>
(qa2 false t80).bind fun g88 => (bif g88 then unV .not t87 else some (.tuple [])).bind fun t88 =>
(qag t80 (some (.bool true)) (some t88)).bind fun t89 =>
(qa2 false t89).bind fun g91 => (bif g91 then some v4 else some (.tuple [])).bind fun t91 =>
(qa2 false t89).bind fun g92 => (bif g92 then qa4 E0 .gtr 3 false true t91 (.int .i64 0) else some (.tuple [])).bind fun t92 =>
(qa2 false t89).bind fun g93 => (bif g93 then some t92 else some (.tuple [])).bind fun t93 =>
(qa2 true t93).bind fun g94 => (bif g94 then faP 4 false 1 v1 else some (.tuple [])).bind fun t94 =>
(qa2 true t93).bind fun g95 => (bif g95 then ld1 t94 (onS S87) else some (.tuple [], (onS S87))).bind fun p95 =>
(qa2 true t93).bind fun g96 => (bif g96 then some v4 else some (.tuple [])).bind fun t96 =>
(qa2 true t93).bind fun g97 => (bif g97 then qa4 E0 .sub 3 false true t96 (.int .i64 1) else some (.tuple [])).bind fun t97 =>
(qa2 true t93).bind fun g98 => (bif g98 then ixP 5 p95.1 t97 else some (.tuple [])).bind fun t98 =>
(qa2 true t93).bind fun g99 => (bif g99 then faP 0 false 1 t98 else some (.tuple [])).bind fun t99 =>
(qa2 true t93).bind fun g100 => (bif g100 then ld1 t99 (onS p95.2) else some (.tuple [], (onS p95.2))).bind fun p100 =>
(qa2 true t93).bind fun g101 => (bif g101 then faP 4 false 1 v1 else some (.tuple [])).bind fun t101 =>
(qa2 true t93).bind fun g102 => (bif g102 then ld1 t101 (onS p100.2) else some (.tuple [], (onS p100.2))).bind fun p102 =>
(qa2 true t93).bind fun g103 => (bif g103 then some v4 else some (.tuple [])).bind fun t103 =>
(qa2 true t93).bind fun g104 => (bif g104 then ixP 5 p102.1 t103 else some (.tuple [])).bind fun t104 =>
(qa2 true t93).bind fun g105 => (bif g105 then faP 0 false 1 t104 else some (.tuple [])).bind fun t105 =>
(qa2 true t93).bind fun g106 => (bif g106 then ld1 t105 (onS p102.2) else some (.tuple [], (onS p102.2))).bind fun p106 =>
(qa2 true t93).bind fun g107 => (bif g107 then qa4 E0 .geq 9 false false p100.1 p106.1 else some (.tuple [])).bind fun t107 =>
(qa2 false t89).bind fun g108 => (bif g108 then qag t93 (some t107) (some (.bool false)) else some (.tuple [])).bind fun t108 =>
(qag t89 (some (.bool true)) (some t108)).bind fun t109 =>
qm8 [(22, [29, 33]), (27, [29, 33])] p71.2 [[], p74.2.log, [], [], [], p78.2.log, S79.log, [], [], [], p83.2.log, [], [], p86.2.log, S87.log, [], [], [], [], [], [], [], p95.2.log, [], [], [], [], p100.2.log, [], p102.2.log, [], [], [], p106.2.log, [], [], []] (onS p106.2) fun S110 =>
ifK t109 (
some (.ret (.bool false), S110)) (
(qa4 E0 .add 3 false true v4 (.int .i64 1)).bind fun t113 =>
L37_67 self N nk ek n v1 t113 S110)) (
ek 3 (fr 102 [(1, v1)]) p71.2) := by kernel_rfl
noncomputable def F37 (self : EV) (N : Nat) (x0 : V) (S : St) : Rs := qbu E0 self N Try.f37 B37 [x0] S
theorem F37_eq (self : EV) (N : Nat) (x0 : V) (S : St) : F37 self N x0 S =
(qm6 24 x0 S).bind fun p0 =>
(faP 1 false 1 p0.1).bind fun t4 =>
(ld1 t4 p0.2).bind fun p5 =>
(qa4 E0 .eql 3 false true p5.1 (.int .i64 1)).bind fun t6 =>
ifK t6 (
(faP 4 false 1 p0.1).bind fun t8 =>
(ld1 t8 p5.2).bind fun p9 =>
(lnS p9.1 p9.2).bind fun p10 =>
(qa4 E0 .eql 3 false true p10.1 (.int .i64 0)).bind fun t11 =>
some (.ret t11, p10.2)) (
(qa4 E0 .eql 3 false true p5.1 (.int .i64 3)).bind fun t13 =>
ifK t13 (
L37_39 self N (R37_15 self N (qfb self N (qak E0 self Try.f37) qa9) (exB 0 (qfb self N (qak E0 self Try.f37) qa9) qa9)) (exB 1 (R37_15 self N (qfb self N (qak E0 self Try.f37) qa9) (exB 0 (qfb self N (qak E0 self Try.f37) qa9) qa9)) (exB 0 (qfb self N (qak E0 self Try.f37) qa9) qa9)) N p0.1 (.int .i64 0) p5.2) (
(qa4 E0 .eql 3 false true p5.1 (.int .i64 2)).bind fun t54 =>
ifK t54 (
L37_67 self N (R37_56 self N (qfb self N (qak E0 self Try.f37) qa9) (exB 0 (qfb self N (qak E0 self Try.f37) qa9) qa9)) (exB 3 (R37_56 self N (qfb self N (qak E0 self Try.f37) qa9) (exB 0 (qfb self N (qak E0 self Try.f37) qa9) qa9)) (exB 0 (qfb self N (qak E0 self Try.f37) qa9) qa9)) N p0.1 (.int .i64 0) p5.2) (
qfb self N (qak E0 self Try.f37) qa9 (fr 102 []) p5.2))) := by kernel_rfl
noncomputable def C73 : Code := Try.f73.body.getD .skip
noncomputable def B73 : D := (qas C73 [[], [], [], [], [], [], [1, 2, 5, 6], [], [5], [], [], [0, 5], [4], []]).1
noncomputable def RL73 : List Nat := cellsOf Try.f73.results.toList
noncomputable def R73_11 (self : EV) (N : Nat) (nk : Ac->St->Rs) (ek : Nat->Ac->St->Rs) (a : Ac) (S : St) : Rs := qaa [5] a fun a => dr E0 self RL73 N (B73.r.r.r).r (mkK E0 self Try.f73 nk ek) a S
theorem R73_11_eq (self : EV) (N : Nat) (nk : Ac->St->Rs) (ek : Nat->Ac->St->Rs) ( v5 : V) (S : St) : R73_11 self N nk ek (fr 33 [(5, v5)]) S =
some (.ret v5, S) := by kernel_rfl
noncomputable def L73_15 (self : EV) (N : Nat) (nk : Ac->St->Rs) (ek : Nat->Ac->St->Rs) (n : Nat) ( v1 v2 v5 v6 : V) (S : St) : Rs := qbf [1, 2, 5, 6] (dr E0 self RL73 N (B73.r.r.r.l.r.l.l)) (mkK E0 self Try.f73 nk ek) n (fr 33 [(1, v1), (2, v2), (5, v5), (6, v6)]) S
theorem L73_15_eq (self : EV) (N : Nat) (nk : Ac->St->Rs) (ek : Nat->Ac->St->Rs) (n : Nat) ( v1 v2 v5 v6 : V) (S : St) : L73_15 self N nk ek (n + 1) v1 v2 v5 v6 S =
(faP 4 false 1 v2).bind fun t17 =>
(ld1 t17 S).bind fun p18 =>
(lnS p18.1 p18.2).bind fun p19 =>
(qa4 E0 .lss 3 false false v6 p19.1).bind fun t20 =>
ifK t20 (
(faP 4 false 1 v2).bind fun t22 =>
(ld1 t22 p19.2).bind fun p23 =>
(ixP 5 p23.1 v6).bind fun t25 =>
(ldA 5 t25 p23.2).bind fun p26 =>
(qa4 E0 .sub 3 false true v1 (.int .i64 1)).bind fun t28 =>
qax (self.f 73 [p26.1, t28] p26.2) fun t29 S29 =>
(qa4 E0 .add 3 true false (.int .i64 1) t29).bind fun t30 =>
(qhg maxV v5 [t30] S29).bind fun p31 =>
(qa4 E0 .add 3 false true v6 (.int .i64 1)).bind fun t34 =>
L73_15 self N nk ek n v1 v2 p31.1 t34 p31.2) (
ek 0 (fr 33 [(5, v5)]) p19.2) := by kernel_rfl
noncomputable def F73 (self : EV) (N : Nat) (x0 x1 : V) (S : St) : Rs := qbu E0 self N Try.f73 B73 [x0, x1] S
theorem F73_eq (self : EV) (N : Nat) (x0 x1 : V) (S : St) : F73 self N x0 x1 S =
(qm6 24 x0 S).bind fun p0 =>
(faP 1 false 1 p0.1).bind fun t2 =>
(ld1 t2 p0.2).bind fun p3 =>
(qa4 E0 .neq 3 false true p3.1 (.int .i64 2)).bind fun t4 =>
(qa2 false t4).bind fun g6 => (bif g6 then some x1 else some (.tuple [])).bind fun t6 =>
(qa2 false t4).bind fun g7 => (bif g7 then qa4 E0 .eql 3 false true t6 (.int .i64 1) else some (.tuple [])).bind fun t7 =>
(qag t4 (some (.bool true)) (some t7)).bind fun t8 =>
ifK t8 (
some (.ret (.int .i64 1), p3.2)) (
L73_15 self N (R73_11 self N (qak E0 self Try.f73) qa9) (exB 0 (R73_11 self N (qak E0 self Try.f73) qa9) qa9) N x1 p0.1 (.int .i64 1) (.int .i64 0) p3.2) := by kernel_rfl
noncomputable def C42 : Code := Try.f42.body.getD .skip
noncomputable def B42 : D := (qas C42 [[], []]).1
noncomputable def F42 (self : EV) (N : Nat) (x0 : V) (S : St) : Rs := qbu E0 self N Try.f42 B42 [x0] S
theorem F42_eq (self : EV) (N : Nat) (x0 : V) (S : St) : F42 self N x0 S =
(qm6 24 x0 S).bind fun p0 =>
(ldA 5 p0.1 p0.2).bind fun p2 =>
qax (self.f 75 [p2.1, (.int .i64 14)] p2.2) fun t3 S3 =>
some (.ret t3, S3) := by kernel_rfl
noncomputable def C43 : Code := Try.f43.body.getD .skip
noncomputable def B43 : D := (qas C43 [[], []]).1
noncomputable def F43 (self : EV) (N : Nat) (x0 : V) (S : St) : Rs := qbu E0 self N Try.f43 B43 [x0] S
theorem F43_eq (self : EV) (N : Nat) (x0 : V) (S : St) : F43 self N x0 S =
(faP 4 false 1 x0).bind fun t1 =>
(ld1 t1 S).bind fun p2 =>
(lnS p2.1 p2.2).bind fun p3 =>
(qa4 E0 .eql 3 false true p3.1 (.int .i64 0)).bind fun t4 =>
some (.ret t4, p3.2) := by kernel_rfl
noncomputable def C44 : Code := Try.f44.body.getD .skip
noncomputable def B44 : D := (qas C44 [[], []]).1
noncomputable def F44 (self : EV) (N : Nat) (x0 : V) (S : St) : Rs := qbu E0 self N Try.f44 B44 [x0] S
theorem F44_eq (self : EV) (N : Nat) (x0 : V) (S : St) : F44 self N x0 S =
(faP 2 false 1 x0).bind fun t1 =>
(ld1 t1 S).bind fun p2 =>
(unV .not p2.1).bind fun t3 =>
some (.ret t3, p2.2) := by kernel_rfl
noncomputable def C45 : Code := Try.f45.body.getD .skip
noncomputable def B45 : D := (qas C45 [[], []]).1
noncomputable def F45 (self : EV) (N : Nat) (x0 : V) (S : St) : Rs := qbu E0 self N Try.f45 B45 [x0] S
theorem F45_eq (self : EV) (N : Nat) (x0 : V) (S : St) : F45 self N x0 S =
qax (self.f 76 [x0, (.fn (.func 77) [] [])] S) fun t2 S2 =>
(unV .not t2).bind fun t3 =>
some (.ret t3, S2) := by kernel_rfl
noncomputable def C46 : Code := Try.f46.body.getD .skip
noncomputable def B46 : D := (qas C46 [[], []]).1
noncomputable def F46 (self : EV) (N : Nat) (x0 : V) (S : St) : Rs := qbu E0 self N Try.f46 B46 [x0] S
theorem F46_eq (self : EV) (N : Nat) (x0 : V) (S : St) : F46 self N x0 S =
(faP 3 false 1 x0).bind fun t1 =>
(ld1 t1 S).bind fun p2 =>
(qd1 p2.1 p2.2).bind fun p3 =>
(qa4 E0 .geq 3 false true p3.1 (.int .i64 1)).bind fun t4 =>
(qa2 true t4).bind fun g6 => (bif g6 then faP 3 false 1 x0 else some (.tuple [])).bind fun t6 =>
(qa2 true t4).bind fun g7 => (bif g7 then ld1 t6 p3.2 else some (.tuple [], p3.2)).bind fun p7 =>
(qa2 true t4).bind fun g8 => (bif g8 then qd1 p7.1 p7.2 else some (.tuple [], p7.2)).bind fun p8 =>
(qa2 true t4).bind fun g9 => (bif g9 then qa4 E0 .leq 3 false true p8.1 (.int .i64 255) else some (.tuple [])).bind fun t9 =>
(qag t4 (some t9) (some (.bool false))).bind fun t10 =>
(qa2 true t10).bind fun g12 => (bif g12 then faP 3 false 1 x0 else some (.tuple [])).bind fun t12 =>
(qa2 true t10).bind fun g13 => (bif g13 then ld1 t12 p8.2 else some (.tuple [], p8.2)).bind fun p13 =>
(qa2 true t10).bind fun g14 => qax (bif g14 then self.f 47 [p13.1, (.int .u8 0)] p13.2 else some (.ret (.tuple []), p13.2)) fun t14 S14 =>
(qa2 true t10).bind fun g15 => (bif g15 then qa4 E0 .lss 3 false true t14 (.int .i64 0) else some (.tuple [])).bind fun t15 =>
(qag t10 (some t15) (some (.bool false))).bind fun t16 =>
some (.ret t16, S14) := by kernel_rfl
noncomputable def C47 : Code := Try.f47.body.getD .skip
noncomputable def B47 : D := (qas C47 [[], []]).1
noncomputable def F47 (self : EV) (N : Nat) (x0 x1 : V) (S : St) : Rs := qbu E0 self N Try.f47 B47 [x0, x1] S
theorem F47_eq (self : EV) (N : Nat) (x0 x1 : V) (S : St) : F47 self N x0 x1 S =
qax (self.f 78 [x0, x1] S) fun t3 S3 =>
some (.ret t3, S3) := by kernel_rfl
noncomputable def C48 : Code := Try.f48.body.getD .skip
noncomputable def B48 : D := (qas C48 [[], []]).1
noncomputable def F48 (self : EV) (N : Nat) (x0 : V) (S : St) : Rs := qbu E0 self N Try.f48 B48 [x0] S
theorem F48_eq (self : EV) (N : Nat) (x0 : V) (S : St) : F48 self N x0 S =
(faP 3 false 1 x0).bind fun t1 =>
(ld1 t1 S).bind fun p2 =>
(qa4 E0 .eql 9 false true p2.1 (sv [])).bind fun t3 =>
some (.ret t3, p2.2) := by kernel_rfl
noncomputable def C49 : Code := Try.f49.body.getD .skip
noncomputable def B49 : D := (qas C49 [[], [], [0, 5, 6, 7], [], [], [], [], [], [], [], [0], [1], []]).1
noncomputable def RL49 : List Nat := cellsOf Try.f49.results.toList
noncomputable def R49_1 (self : EV) (N : Nat) (nk : Ac->St->Rs) (ek : Nat->Ac->St->Rs) (a : Ac) (S : St) : Rs := qaa [] a fun a => dr E0 self RL49 N (B49.r).r (mkK E0 self Try.f49 nk ek) a S
theorem R49_1_eq (self : EV) (N : Nat) (nk : Ac->St->Rs) (ek : Nat->Ac->St->Rs) (S : St) : R49_1 self N nk ek (fr 38 []) S =
some (.ret (.bool true), S) := by kernel_rfl
noncomputable def L49_7 (self : EV) (N : Nat) (nk : Ac->St->Rs) (ek : Nat->Ac->St->Rs) (n : Nat) ( v0 v5 v6 v7 : V) (S : St) : Rs := qbf [0, 5, 6, 7] (dr E0 self RL49 N (B49.r.l.r.l.l)) (mkK E0 self Try.f49 nk ek) n (fr 38 [(0, v0), (5, v5), (6, v6), (7, v7)]) S
theorem L49_7_eq (self : EV) (N : Nat) (nk : Ac->St->Rs) (ek : Nat->Ac->St->Rs) (n : Nat) ( v0 v5 v6 v7 : V) (S : St) : L49_7 self N nk ek (n + 1) v0 v5 v6 v7 S =
(qa4 E0 .lss 3 false false v7 v6).bind fun t8 =>
ifK t8 (
(ixP 5 v5 v7).bind fun t10 =>
(ldA 5 t10 S).bind fun p11 =>
(some (nwP 24 5 (Tr.ofListFrom .nil [(sv []), (.int .i64 0), (.bool false), (sv []), .nilslice] 0) p11.2)).bind fun p12 =>
(stP 5 p12.1 p11.1 p12.2).bind fun p14 =>
(faP 0 false 1 p12.1).bind fun t15 =>
(ld1 t15 (onS p14.2)).bind fun p16 =>
qjr (qat E0 (B49.r.l.r.l.l.r.r.l.l.r.l).ops) p14.2 2 [[], p16.2.log] (self.f 50 [p16.1] (onS p16.2)) fun t17 S17 =>
(unV .not t17).bind fun t18 =>
(qa2 false t18).bind fun g20 => (bif g20 then ldA 5 p12.1 (onS S17) else some (.tuple [], (onS S17))).bind fun p20 =>
(qa2 false t18).bind fun g21 => qjr (qat E0 (B49.r.l.r.l.l.r.r.l.l.r.l).ops) p14.2 6 [[], p16.2.log, S17.log, [], [], p20.2.log] (bif g21 then self.f 25 [p20.1] (onS p20.2) else some (.ret (.tuple []), (onS p20.2))) fun t21 S21 =>
(qa2 false t18).bind fun g22 => (bif g22 then unV .not t21 else some (.tuple [])).bind fun t22 =>
(qag t18 (some (.bool true)) (some t22)).bind fun t23 =>
(qa2 false t23).bind fun g25 => (bif g25 then some v7 else some (.tuple [])).bind fun t25 =>
(qa2 false t23).bind fun g26 => (bif g26 then qa4 E0 .gtr 3 false true t25 (.int .i64 0) else some (.tuple [])).bind fun t26 =>
(qa2 false t23).bind fun g27 => (bif g27 then some t26 else some (.tuple [])).bind fun t27 =>
(qa2 true t27).bind fun g28 => (bif g28 then faP 4 false 1 v0 else some (.tuple [])).bind fun t28 =>
(qa2 true t27).bind fun g29 => (bif g29 then ld1 t28 (onS S21) else some (.tuple [], (onS S21))).bind fun p29 =>
(qa2 true t27).bind fun g30 => (bif g30 then some v7 else some (.tuple [])).bind fun t30 =>
(qa2 true t27).bind fun g31 => (bif g31 then qa4 E0 .sub 3 false true t30 (.int .i64 1) else some (.tuple [])).bind fun t31 =>
(qa2 true t27).bind fun g32 => (bif g32 then ixP 5 p29.1 t31 else some (.tuple [])).bind fun t32 =>
(qa2 true t27).bind fun g33 => (bif g33 then faP 0 false 1 t32 else some (.tuple [])).bind fun t33 =>
(qa2 true t27).bind fun g34 => (bif g34 then ld1 t33 (onS p29.2) else some (.tuple [], (onS p29.2))).bind fun p34 =>
(qa2 true t27).bind fun g35 => (bif g35 then faP 0 false 1 p12.1 else some (.tuple [])).bind fun t35 =>
(qa2 true t27).bind fun g36 => (bif g36 then ld1 t35 (onS p34.2) else some (.tuple [], (onS p34.2))).bind fun p36 =>
(qa2 true t27).bind fun g37 => (bif g37 then qa4 E0 .geq 9 false false p34.1 p36.1 else some (.tuple [])).bind fun t37 =>
(qa2 false t23).bind fun g38 => (bif g38 then qag t27 (some t37) (some (.bool false)) else some (.tuple [])).bind fun t38 =>
(qag t23 (some (.bool true)) (some t38)).bind fun t39 =>
qm8 [(14, [21]), (19, [21])] p14.2 [[], p16.2.log, S17.log, [], [], p20.2.log, S21.log, [], [], [], [], [], [], [], p29.2.log, [], [], [], [], p34.2.log, [], p36.2.log, [], [], []] (onS p36.2) fun S40 =>
ifK t39 (
some (.ret (.bool false), S40)) (
(qa4 E0 .add 3 false true v7 (.int .i64 1)).bind fun t42 =>
L49_7 self N nk ek n v0 v5 v6 t42 S40)) (
ek 0 (fr 38 []) S) := by kernel_rfl
noncomputable def F49 (self : EV) (N : Nat) (x0 : V) (S : St) : Rs := qbu E0 self N Try.f49 B49 [x0] S
theorem F49_eq (self : EV) (N : Nat) (x0 : V) (S : St) : F49 self N x0 S =
(faP 4 false 1 x0).bind fun t3 =>
(ld1 t3 S).bind fun p4 =>
(lnS p4.1 p4.2).bind fun p5 =>
L49_7 self N (R49_1 self N (qak E0 self Try.f49) qa9) (exB 0 (R49_1 self N (qak E0 self Try.f49) qa9) qa9) N x0 p4.1 p5.1 (.int .i64 0) p5.2 := by kernel_rfl
noncomputable def C50 : Code := Try.f50.body.getD .skip
noncomputable def B50 : D := (qas C50 [[], []]).1
noncomputable def F50 (self : EV) (N : Nat) (x0 : V) (S : St) : Rs := qbu E0 self N Try.f50 B50 [x0] S
theorem F50_eq (self : EV) (N : Nat) (x0 : V) (S : St) : F50 self N x0 S =
(qd1 x0 S).bind fun p2 =>
(qa4 E0 .geq 3 false true p2.1 (.int .i64 1)).bind fun t3 =>
(qa2 true t3).bind fun g5 => (bif g5 then some x0 else some (.tuple [])).bind fun t5 =>
(qa2 true t3).bind fun g6 => (bif g6 then qd1 t5 p2.2 else some (.tuple [], p2.2)).bind fun p6 =>
(qa2 true t3).bind fun g7 => (bif g7 then qa4 E0 .leq 3 false true p6.1 (.int .i64 56) else some (.tuple [])).bind fun t7 =>
(qag t3 (some t7) (some (.bool false))).bind fun t8 =>
(qa2 true t8).bind fun g10 => (bif g10 then some x0 else some (.tuple [])).bind fun t10 =>
(qa2 true t8).bind fun g11 => qax (bif g11 then self.f 79 [t10, (sv [47, 0])] p6.2 else some (.ret (.tuple []), p6.2)) fun t11 S11 =>
(qa2 true t8).bind fun g12 => (bif g12 then unV .not t11 else some (.tuple [])).bind fun t12 =>
(qag t8 (some t12) (some (.bool false))).bind fun t13 =>
(qa2 true t13).bind fun g15 => (bif g15 then some x0 else some (.tuple [])).bind fun t15 =>
(qa2 true t13).bind fun g16 => (bif g16 then qa4 E0 .neq 9 false true t15 (sv [46]) else some (.tuple [])).bind fun t16 =>
(qag t13 (some t16) (some (.bool false))).bind fun t17 =>
(qa2 true t17).bind fun g19 => (bif g19 then some x0 else some (.tuple [])).bind fun t19 =>
(qa2 true t17).bind fun g20 => (bif g20 then qa4 E0 .neq 9 false true t19 (sv [46, 46]) else some (.tuple [])).bind fun t20 =>
(qag t17 (some t20) (some (.bool false))).bind fun t21 =>
some (.ret t21, S11) := by kernel_rfl
end
end Go.Proofs.Ytmeohejdafbodaa.W
