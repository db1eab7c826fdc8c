/-
  WHAT THE FUNCTIONS COME TO: each is read by the evaluator,printed,and told as a function of data,part 8 of 14 (no condition).
-/
import Derived.Test.YtbihlgcdnhoknaaW7
import Derived.Test.YtbihlgcdnhoknaaProg
import Derived.KernelRfl
namespace Go.Proofs.Ytbihlgcdnhoknaa.W
open Go.Proofs.Ytbihlgcdnhoknaa.Ev
set_option maxRecDepth 100000
noncomputable section
noncomputable def C20:Code:=Try.f20.body.getD .skip
noncomputable def B20:D:=(qaq C20 [[],[],[],[],[]]).1
noncomputable def F20 (self:EV) (N:Nat) (x0:V) (S:St):Rs:=qb6 E0 self N Try.f20 B20 [x0] S
theorem F20_eq (self:EV) (N:Nat) (x0:V) (S:St):F20 self N x0 S =
(qdb 26 x0 S).bind fun p0=>
(faP 0 false 1 p0.1).bind fun t2=>
(ld1 t2 p0.2).bind fun p3=>
(qa6 E0 .lss 3 false true p3.1 (.int .i64 1)).bind fun t4=>
(qa3 false t4).bind fun g6=>(bif g6 then faP 0 false 1 p0.1 else some (.tuple [])).bind fun t6=>
(qa3 false t4).bind fun g7=>(bif g7 then ld1 t6 p3.2 else some (.tuple [],p3.2)).bind fun p7=>
(qa3 false t4).bind fun g8=>(bif g8 then qa6 E0 .gtr 3 false true p7.1 (.int .i64 1048576)else some (.tuple [])).bind fun t8=>
(qaw t4 (some (.bool true)) (some t8)).bind fun t9=>
(qa3 false t9).bind fun g11=>(bif g11 then faP 1 false 1 p0.1 else some (.tuple [])).bind fun t11=>
(qa3 false t9).bind fun g12=>(bif g12 then ld1 t11 p7.2 else some (.tuple [],p7.2)).bind fun p12=>
(qa3 false t9).bind fun g13=>(bif g13 then qa6 E0 .lss 3 false true p12.1 (.int .i64 0)else some (.tuple [])).bind fun t13=>
(qaw t9 (some (.bool true)) (some t13)).bind fun t14=>
(qa3 false t14).bind fun g16=>(bif g16 then faP 1 false 1 p0.1 else some (.tuple [])).bind fun t16=>
(qa3 false t14).bind fun g17=>(bif g17 then ld1 t16 p12.2 else some (.tuple [],p12.2)).bind fun p17=>
(qa3 false t14).bind fun g18=>(bif g18 then qa6 E0 .gtr 3 false true p17.1 (.int .i64 1073741824)else some (.tuple [])).bind fun t18=>
(qaw t14 (some (.bool true)) (some t18)).bind fun t19=>
ifK t19 (
some (.ret .nilptr,p17.2)) (
(ldA 2 p0.1 p17.2).bind fun p21=>
(qb9 E0 35 [(0,(.int .i64 2)),(1,(.int .i64 493))]).bind fun t22=>
(bsP 35 4 1 (Tr.ofListFrom .nil [(.int .i64 0),(.int .i64 0),(sv []),(.int .i64 0)] 0) [(0,t22)] p21.2).bind fun p23=>
(qb9 E0 86 [(0,p21.1),(1,p23.1)]).bind fun t24=>
(qdb 86 t24 p23.2).bind fun p25=>
some (.ret p25.1,p25.2)):=by kernel_rfl
noncomputable def C76:Code:=Try.f76.body.getD .skip
noncomputable def B76:D:=(qaq C76 [[],[],[],[],[]]).1
noncomputable def F76 (self:EV) (N:Nat) (x0 x1:V) (S:St):Rs:=qb6 E0 self N Try.f76 B76 [x0,x1] S
theorem F76_eq (self:EV) (N:Nat) (x0 x1:V) (S:St):F76 self N x0 x1 S =
(qa6 E0 .lss 3 false true x1 (.int .i64 1)).bind fun t2=>
(qa3 false t2).bind fun g4=>(bif g4 then some x1 else some (.tuple [])).bind fun t4=>
(qa3 false t2).bind fun g5=>(bif g5 then some x0 else some (.tuple [])).bind fun t5=>
(qa3 false t2).bind fun g6=>(bif g6 then qa2 t5 else some (.tuple [])).bind fun t6=>
(qa3 false t2).bind fun g7=>(bif g7 then faP 2 false 1 t6 else some (.tuple [])).bind fun t7=>
(qa3 false t2).bind fun g8=>(bif g8 then ld1 t7 S else some (.tuple [],S)).bind fun p8=>
(qa3 false t2).bind fun g9=>(bif g9 then lnS p8.1 p8.2 else some (.tuple [],p8.2)).bind fun p9=>
(qa3 false t2).bind fun g10=>(bif g10 then qa6 E0 .gtr 3 false false t4 p9.1 else some (.tuple [])).bind fun t10=>
(qaw t2 (some (.bool true)) (some t10)).bind fun t11=>
ifK t11 (
some (.ret (.int .i64 0),p9.2)) (
(qa2 x0).bind fun t14=>
(faP 2 false 1 t14).bind fun t15=>
(ld1 t15 p9.2).bind fun p16=>
(qa6 E0 .sub 3 false true x1 (.int .i64 1)).bind fun t18=>
(ixP 4 p16.1 t18).bind fun t19=>
(faP 0 false 1 t19).bind fun t20=>
(ld1 t20 p16.2).bind fun p21=>
some (.ret p21.1,p21.2)):=by kernel_rfl
noncomputable def C69:Code:=Try.f69.body.getD .skip
noncomputable def B69:D:=(qaq C69 [[],[],[0,1,2,7],[],[],[],[],[],[],[0],[6],[]]).1
noncomputable def RL69:List Nat:=cellsOf Try.f69.results.toList
noncomputable def R69_1 (self:EV) (N:Nat) (nk:Ac->St->Rs) (ek:Nat->Ac->St->Rs) (a:Ac) (S:St):Rs:=qbo [] a fun a=>dr E0 self RL69 N (B69.r).r (mkK E0 self Try.f69 nk ek) a S
theorem R69_1_eq (self:EV) (N:Nat) (nk:Ac->St->Rs) (ek:Nat->Ac->St->Rs) (S:St):R69_1 self N nk ek (fr 40 []) S =
some (.ret (.int .i64 (-1)),S):=by kernel_rfl
noncomputable def L69_4 (self:EV) (N:Nat) (nk:Ac->St->Rs) (ek:Nat->Ac->St->Rs) (n:Nat) ( v0 v1 v2 v7:V) (S:St):Rs:=qez [0,1,2,7] (dr E0 self RL69 N (B69.r.l.r.l.l)) (mkK E0 self Try.f69 nk ek) n (fr 40 [(0,v0),(1,v1),(2,v2),(7,v7)]) S
theorem L69_4_eq (self:EV) (N:Nat) (nk:Ac->St->Rs) (ek:Nat->Ac->St->Rs) (n:Nat) ( v0 v1 v2 v7:V) (S:St):L69_4 self N nk ek (n+1) v0 v1 v2 v7 S =
(qa2 v0).bind fun t7=>
(faP 3 false 1 t7).bind fun t8=>
(ld1 t8 S).bind fun p9=>
(lnS p9.1 p9.2).bind fun p10=>
(qa6 E0 .lss 3 false false v7 p10.1).bind fun t11=>
ifK t11 (
(qa2 v0).bind fun t13=>
(faP 3 false 1 t13).bind fun t14=>
(ld1 t14 p10.2).bind fun p15=>
(ixP 3 p15.1 v7).bind fun t17=>
(faP 0 false 1 t17).bind fun t18=>
(ld1 t18 p15.2).bind fun p19=>
(qa6 E0 .eql 3 false false p19.1 v1).bind fun t21=>
(qa3 true t21).bind fun g23=>(bif g23 then some v0 else some (.tuple [])).bind fun t23=>
(qa3 true t21).bind fun g24=>(bif g24 then qa2 t23 else some (.tuple [])).bind fun t24=>
(qa3 true t21).bind fun g25=>(bif g25 then faP 3 false 1 t24 else some (.tuple [])).bind fun t25=>
(qa3 true t21).bind fun g26=>(bif g26 then ld1 t25 p19.2 else some (.tuple [],p19.2)).bind fun p26=>
(qa3 true t21).bind fun g27=>(bif g27 then some v7 else some (.tuple [])).bind fun t27=>
(qa3 true t21).bind fun g28=>(bif g28 then ixP 3 p26.1 t27 else some (.tuple [])).bind fun t28=>
(qa3 true t21).bind fun g29=>(bif g29 then faP 1 false 1 t28 else some (.tuple [])).bind fun t29=>
(qa3 true t21).bind fun g30=>(bif g30 then ld1 t29 p26.2 else some (.tuple [],p26.2)).bind fun p30=>
(qa3 true t21).bind fun g31=>(bif g31 then some v2 else some (.tuple [])).bind fun t31=>
(qa3 true t21).bind fun g32=>(bif g32 then qa6 E0 .eql 9 false false p30.1 t31 else some (.tuple [])).bind fun t32=>
(qaw t21 (some t32) (some (.bool false))).bind fun t33=>
ifK t33 (
some (.ret v7,p30.2)) (
(qa6 E0 .add 3 false true v7 (.int .i64 1)).bind fun t37=>
L69_4 self N nk ek n v0 v1 v2 t37 p30.2)) (
ek 0 (fr 40 []) p10.2):=by kernel_rfl
noncomputable def F69 (self:EV) (N:Nat) (x0 x1 x2:V) (S:St):Rs:=qb6 E0 self N Try.f69 B69 [x0,x1,x2] S
theorem F69_eq (self:EV) (N:Nat) (x0 x1 x2:V) (S:St):F69 self N x0 x1 x2 S =
L69_4 self N (R69_1 self N (qc0 E0 self Try.f69) qbd) (exB 0 (R69_1 self N (qc0 E0 self Try.f69) qbd) qbd) N x0 x1 x2 (.int .i64 0) S:=by kernel_rfl
noncomputable def C72:Code:=Try.f72.body.getD .skip
noncomputable def B72:D:=(qaq C72 [[],[],[],[],[],[],[],[]]).1
noncomputable def F72 (self:EV) (N:Nat) (x0 x1:V) (S:St):Rs:=qb6 E0 self N Try.f72 B72 [x0,x1] S
theorem F72_eq (self:EV) (N:Nat) (x0 x1:V) (S:St):F72 self N x0 x1 S =
qah (self.f 76 [x0,x1] S) fun t3 S3=>
(qa6 E0 .eql 3 false true t3 (.int .i64 0)).bind fun t4=>
ifK t4 (
some (.ret (.int .i64 5),S3)) (
qah (self.f 76 [x0,x1] S3) fun t8 S8=>
(qa6 E0 .neq 3 false true t8 (.int .i64 2)).bind fun t9=>
ifK t9 (
some (.ret (.int .i64 8),S8)) (
some (.ret (.int .i64 0),S8))):=by kernel_rfl
noncomputable def C68:Code:=Try.f68.body.getD .skip
noncomputable def B68:D:=(qaq C68 [[],[],[0,1,5],[],[],[],[],[],[],[0],[4],[]]).1
noncomputable def RL68:List Nat:=cellsOf Try.f68.results.toList
noncomputable def R68_1 (self:EV) (N:Nat) (nk:Ac->St->Rs) (ek:Nat->Ac->St->Rs) (a:Ac) (S:St):Rs:=qbo [] a fun a=>dr E0 self RL68 N (B68.r).r (mkK E0 self Try.f68 nk ek) a S
theorem R68_1_eq (self:EV) (N:Nat) (nk:Ac->St->Rs) (ek:Nat->Ac->St->Rs) (S:St):R68_1 self N nk ek (fr 17 []) S =
some (.ret (.bool false),S):=by kernel_rfl
noncomputable def L68_4 (self:EV) (N:Nat) (nk:Ac->St->Rs) (ek:Nat->Ac->St->Rs) (n:Nat) ( v0 v1 v5:V) (S:St):Rs:=qez [0,1,5] (dr E0 self RL68 N (B68.r.l.r.l.l)) (mkK E0 self Try.f68 nk ek) n (fr 17 [(0,v0),(1,v1),(5,v5)]) S
theorem L68_4_eq (self:EV) (N:Nat) (nk:Ac->St->Rs) (ek:Nat->Ac->St->Rs) (n:Nat) ( v0 v1 v5:V) (S:St):L68_4 self N nk ek (n+1) v0 v1 v5 S =
(qeb v0 S).bind fun p7=>
(qa6 E0 .lss 3 false false v5 p7.1).bind fun t8=>
ifK t8 (
(ixS v0 v5).bind fun t11=>
(qa6 E0 .eql 5 false false t11 v1).bind fun t13=>
ifK t13 (
some (.ret (.bool true),p7.2)) (
(qa6 E0 .add 3 false true v5 (.int .i64 1)).bind fun t16=>
L68_4 self N nk ek n v0 v1 t16 p7.2)) (
ek 0 (fr 17 []) p7.2):=by kernel_rfl
noncomputable def F68 (self:EV) (N:Nat) (x0 x1:V) (S:St):Rs:=qb6 E0 self N Try.f68 B68 [x0,x1] S
theorem F68_eq (self:EV) (N:Nat) (x0 x1:V) (S:St):F68 self N x0 x1 S =
L68_4 self N (R68_1 self N (qc0 E0 self Try.f68) qbd) (exB 0 (R68_1 self N (qc0 E0 self Try.f68) qbd) qbd) N x0 x1 (.int .i64 0) S:=by kernel_rfl
noncomputable def C67:Code:=Try.f67.body.getD .skip
noncomputable def B67:D:=(qaq C67 [[],[],[],[],[],[],[],[],[],[],[],[]]).1
noncomputable def F67 (self:EV) (N:Nat) (x0 x1 x2:V) (S:St):Rs:=qb6 E0 self N Try.f67 B67 [x0,x1,x2] S
theorem F67_eq (self:EV) (N:Nat) (x0 x1 x2:V) (S:St):F67 self N x0 x1 x2 S =
qah (self.f 72 [x0,x1] S) fun t3 S3=>
(qa6 E0 .neq 27 false true t3 (.int .i64 0)).bind fun t6=>
ifK t6 (
some (.ret t3,S3)) (
(qeb x2 S3).bind fun p10=>
(qa6 E0 .gtr 3 false true p10.1 (.int .i64 56)).bind fun t11=>
ifK t11 (
some (.ret (.int .i64 3),p10.2)) (
(qa6 E0 .eql 9 false true x2 (sv [])).bind fun t14=>
(qa3 false t14).bind fun g16=>(bif g16 then some x2 else some (.tuple [])).bind fun t16=>
(qa3 false t14).bind fun g17=>(bif g17 then qa6 E0 .eql 9 false true t16 (sv [46])else some (.tuple [])).bind fun t17=>
(qaw t14 (some (.bool true)) (some t17)).bind fun t18=>
(qa3 false t18).bind fun g20=>(bif g20 then some x2 else some (.tuple [])).bind fun t20=>
(qa3 false t18).bind fun g21=>(bif g21 then qa6 E0 .eql 9 false true t20 (sv [46,46])else some (.tuple [])).bind fun t21=>
(qaw t18 (some (.bool true)) (some t21)).bind fun t22=>
(qa3 false t22).bind fun g24=>(bif g24 then some x2 else some (.tuple [])).bind fun t24=>
(qa3 false t22).bind fun g25=>qah (bif g25 then self.f 68 [t24,(.int .u8 47)] p10.2 else some (.ret (.tuple []),p10.2)) fun t25 S25=>
(qaw t22 (some (.bool true)) (some t25)).bind fun t26=>
(qa3 false t26).bind fun g28=>(bif g28 then some x2 else some (.tuple [])).bind fun t28=>
(qa3 false t26).bind fun g29=>qah (bif g29 then self.f 68 [t28,(.int .u8 0)] S25 else some (.ret (.tuple []),S25)) fun t29 S29=>
(qaw t26 (some (.bool true)) (some t29)).bind fun t30=>
ifK t30 (
some (.ret (.int .i64 2),S29)) (
some (.ret (.int .i64 0),S29)))):=by kernel_rfl
noncomputable def C70:Code:=Try.f70.body.getD .skip
noncomputable def B70:D:=(qaq C70 [[],[],[]]).1
noncomputable def F70 (self:EV) (N:Nat) (x0 x1 x2:V) (S:St):Rs:=qb6 E0 self N Try.f70 B70 [x0,x1,x2] S
theorem F70_eq (self:EV) (N:Nat) (x0 x1 x2:V) (S:St):F70 self N x0 x1 x2 S =
qah (self.f 53 [x0] S) fun t2 S2=>
(some (nwP 26 2 (Tr.ofListFrom .nil [(.int .i64 0),(.int .i64 0)] 0) S2)).bind fun p3=>
(stP 2 p3.1 t2 p3.2).bind fun p4=>
(faP 0 false 1 p3.1).bind fun t5=>
(ld1 t5 (onS p4.2)).bind fun p6=>
(qa6 E0 .add 3 false false p6.1 x1).bind fun t8=>
(qa2 x0).bind fun t10=>
(faP 0 true 2 t10).bind fun t11=>
(faP 0 false 1 t11).bind fun t12=>
(ld1 t12 (onS p6.2)).bind fun p13=>
(qa6 E0 .leq 3 false false t8 p13.1).bind fun t14=>
(qa3 true t14).bind fun g16=>(bif g16 then faP 1 false 1 p3.1 else some (.tuple [])).bind fun t16=>
(qa3 true t14).bind fun g17=>(bif g17 then ld1 t16 (onS p13.2)else some (.tuple [],(onS p13.2))).bind fun p17=>
(qa3 true t14).bind fun g18=>(bif g18 then some x2 else some (.tuple [])).bind fun t18=>
(qa3 true t14).bind fun g19=>(bif g19 then qa6 E0 .add 3 false false p17.1 t18 else some (.tuple [])).bind fun t19=>
(qa3 true t14).bind fun g20=>(bif g20 then some x0 else some (.tuple [])).bind fun t20=>
(qa3 true t14).bind fun g21=>(bif g21 then qa2 t20 else some (.tuple [])).bind fun t21=>
(qa3 true t14).bind fun g22=>(bif g22 then faP 0 true 2 t21 else some (.tuple [])).bind fun t22=>
(qa3 true t14).bind fun g23=>(bif g23 then faP 1 false 1 t22 else some (.tuple [])).bind fun t23=>
(qa3 true t14).bind fun g24=>(bif g24 then ld1 t23 (onS p17.2)else some (.tuple [],(onS p17.2))).bind fun p24=>
(qa3 true t14).bind fun g25=>(bif g25 then qa6 E0 .leq 3 false false t19 p24.1 else some (.tuple [])).bind fun t25=>
(qaw t14 (some t25) (some (.bool false))).bind fun t26=>
qgx [(1,[8]),(12,[19])] p4.2 [[],p6.2.log,[],[],[],[],[],[],p13.2.log,[],[],[],p17.2.log,[],[],[],[],[],[],p24.2.log,[],[],[]] (onS p24.2) fun S28=>
some (.ret t26,S28):=by kernel_rfl
noncomputable def C73:Code:=Try.f73.body.getD .skip
noncomputable def B73:D:=(qaq C73 [[],[]]).1
noncomputable def F73 (self:EV) (N:Nat) (x0 x1:V) (S:St):Rs:=qb6 E0 self N Try.f73 B73 [x0,x1] S
theorem F73_eq (self:EV) (N:Nat) (x0 x1:V) (S:St):F73 self N x0 x1 S =
(qa2 x0).bind fun t3=>
(faP 3 false 1 t3).bind fun t4=>
(ld1 t4 S).bind fun p5=>
(qc6 E0 84 p5.1 none (some x1) none p5.2).bind fun p7=>
(apP 98 3 32 .nilslice p7.1 p7.2).bind fun p8=>
(qa2 x0).bind fun t13=>
(faP 3 false 1 t13).bind fun t14=>
(ld1 t14 p8.2).bind fun p15=>
(qa6 E0 .add 3 false true x1 (.int .i64 1)).bind fun t17=>
(qc6 E0 84 p15.1 (some t17) none none p15.2).bind fun p18=>
(apP 98 3 32 p8.1 p18.1 p18.2).bind fun p19=>
(qa2 x0).bind fun t20=>
(faP 3 false 1 t20).bind fun t21=>
(stP 1 t21 p19.1 p19.2).bind fun p22=>
some (.ret (.tuple []),p22.2):=by kernel_rfl
noncomputable def C71:Code:=Try.f71.body.getD .skip
noncomputable def B71:D:=(qaq C71 [[],[],[],[],[],[],[],[],[],[]]).1
noncomputable def F71 (self:EV) (N:Nat) (x0 x1:V) (S:St):Rs:=qb6 E0 self N Try.f71 B71 [x0,x1] S
theorem F71_eq (self:EV) (N:Nat) (x0 x1:V) (S:St):F71 self N x0 x1 S =
qah (self.f 76 [x0,x1] S) fun t3 S3=>
(qa6 E0 .eql 3 false true t3 (.int .i64 0)).bind fun t4=>
ifK t4 (
some (.ret (.int .i64 5),S3)) (
(qa6 E0 .eql 3 false true t3 (.int .i64 2)).bind fun t7=>
ifK t7 (
some (.ret (.int .i64 7),S3)) (
(qa6 E0 .eql 3 false true t3 (.int .i64 3)).bind fun t10=>
ifK t10 (
some (.ret (.int .i64 2),S3)) (
some (.ret (.int .i64 0),S3)))):=by kernel_rfl
end
noncomputable section
noncomputable def C41:Code:=Try.f41.body.getD .skip
noncomputable def B41:D:=(qaq C41 [[],[],[],[],[],[],[],[],[],[],[],[],[],[],[],[],[]]).1
noncomputable def F41 (self:EV) (N:Nat) (x0 x1 x2 x3 x4 x5:V) (S:St):Rs:=qb6 E0 self N Try.f41 B41 [x0,x1,x2,x3,x4,x5] S
theorem F41_eq (self:EV) (N:Nat) (x0 x1 x2 x3 x4 x5:V) (S:St):F41 self N x0 x1 x2 x3 x4 x5 S =
qah (self.f 67 [x0,x1,x2] S) fun t5 S5=>
(qa6 E0 .neq 27 false true t5 (.int .i64 0)).bind fun t8=>
ifK t8 (
some (.ret (.tuple [(.int .i64 0),t5]),S5)) (
(qa6 E0 .lss 3 false true x3 (.int .i64 1)).bind fun t13=>
(qa3 false t13).bind fun g15=>(bif g15 then some x3 else some (.tuple [])).bind fun t15=>
(qa3 false t13).bind fun g16=>(bif g16 then qa6 E0 .gtr 3 false true t15 (.int .i64 3)else some (.tuple [])).bind fun t16=>
(qaw t13 (some (.bool true)) (some t16)).bind fun t17=>
(qa3 false t17).bind fun g19=>(bif g19 then some x4 else some (.tuple [])).bind fun t19=>
(qa3 false t17).bind fun g20=>(bif g20 then qa6 E0 .lss 3 false true t19 (.int .i64 0)else some (.tuple [])).bind fun t20=>
(qaw t17 (some (.bool true)) (some t20)).bind fun t21=>
(qa3 false t21).bind fun g23=>(bif g23 then some x4 else some (.tuple [])).bind fun t23=>
(qa3 false t21).bind fun g24=>(bif g24 then qa6 E0 .gtr 3 false true t23 (.int .i64 511)else some (.tuple [])).bind fun t24=>
(qaw t21 (some (.bool true)) (some t24)).bind fun t25=>
(qa3 false t25).bind fun g27=>(bif g27 then some x3 else some (.tuple [])).bind fun t27=>
(qa3 false t25).bind fun g28=>(bif g28 then qa6 E0 .eql 3 false true t27 (.int .i64 2)else some (.tuple [])).bind fun t28=>
(qa3 false t25).bind fun g29=>(bif g29 then some t28 else some (.tuple [])).bind fun t29=>
(qa3 true t29).bind fun g30=>(bif g30 then some x5 else some (.tuple [])).bind fun t30=>
(qa3 true t29).bind fun g31=>(bif g31 then qa6 E0 .neq 9 false true t30 (sv [])else some (.tuple [])).bind fun t31=>
(qa3 false t25).bind fun g32=>(bif g32 then qaw t29 (some t31) (some (.bool false))else some (.tuple [])).bind fun t32=>
(qaw t25 (some (.bool true)) (some t32)).bind fun t33=>
(qa3 false t33).bind fun g35=>(bif g35 then some x3 else some (.tuple [])).bind fun t35=>
(qa3 false t33).bind fun g36=>(bif g36 then qa6 E0 .eql 3 false true t35 (.int .i64 3)else some (.tuple [])).bind fun t36=>
(qa3 false t33).bind fun g37=>(bif g37 then some t36 else some (.tuple [])).bind fun t37=>
(qa3 true t37).bind fun g38=>(bif g38 then some x5 else some (.tuple [])).bind fun t38=>
(qa3 true t37).bind fun g39=>(bif g39 then qa6 E0 .eql 9 false true t38 (sv [])else some (.tuple [])).bind fun t39=>
(qa3 true t37).bind fun g40=>(bif g40 then some t39 else some (.tuple [])).bind fun t40=>
(qa3 false t40).bind fun g41=>(bif g41 then some x5 else some (.tuple [])).bind fun t41=>
(qa3 false t40).bind fun g42=>(bif g42 then qeb t41 S5 else some (.tuple [],S5)).bind fun p42=>
(qa3 false t40).bind fun g43=>(bif g43 then qa6 E0 .gtr 3 false true p42.1 (.int .i64 255)else some (.tuple [])).bind fun t43=>
(qa3 true t37).bind fun g44=>(bif g44 then qaw t40 (some (.bool true)) (some t43)else some (.tuple [])).bind fun t44=>
(qa3 true t37).bind fun g45=>(bif g45 then some t44 else some (.tuple [])).bind fun t45=>
(qa3 false t45).bind fun g46=>(bif g46 then some x5 else some (.tuple [])).bind fun t46=>
(qa3 false t45).bind fun g47=>qah (bif g47 then self.f 68 [t46,(.int .u8 0)] p42.2 else some (.ret (.tuple []),p42.2)) fun t47 S47=>
(qa3 true t37).bind fun g48=>(bif g48 then qaw t45 (some (.bool true)) (some t47)else some (.tuple [])).bind fun t48=>
(qa3 false t33).bind fun g49=>(bif g49 then qaw t37 (some t48) (some (.bool false))else some (.tuple [])).bind fun t49=>
(qaw t33 (some (.bool true)) (some t49)).bind fun t50=>
ifK t50 (
some (.ret (.tuple [(.int .i64 0),(.int .i64 2)]),S47)) (
qah (self.f 69 [x0,x1,x2] S47) fun t56 S56=>
(qa6 E0 .geq 3 false true t56 (.int .i64 0)).bind fun t57=>
ifK t57 (
some (.ret (.tuple [(.int .i64 0),(.int .i64 6)]),S56)) (
(qeb x5 S56).bind fun p62=>
qah (self.f 70 [x0,(.int .i64 1),p62.1] p62.2) fun t63 S63=>
(unV .not t63).bind fun t64=>
ifK t64 (
some (.ret (.tuple [(.int .i64 0),(.int .i64 10)]),S63)) (
(qa2 x0).bind fun t69=>
(faP 2 false 1 t69).bind fun t70=>
(ld1 t70 S63).bind fun p71=>
(qb9 E0 35 [(0,x3),(1,x4),(2,x5)]).bind fun t75=>
(bsP 35 4 1 (Tr.ofListFrom .nil [(.int .i64 0),(.int .i64 0),(sv []),(.int .i64 0)] 0) [(0,t75)] p71.2).bind fun p76=>
(apP 35 4 40 p71.1 p76.1 p76.2).bind fun p77=>
(qa2 x0).bind fun t78=>
(faP 2 false 1 t78).bind fun t79=>
(stP 1 t79 p77.1 p77.2).bind fun p80=>
(qa2 x0).bind fun t83=>
(faP 3 false 1 t83).bind fun t84=>
(ld1 t84 (onS p80.2)).bind fun p85=>
(qa2 x0).bind fun t89=>
(faP 2 false 1 t89).bind fun t90=>
(ld1 t90 (onS p85.2)).bind fun p91=>
(lnS p91.1 (onS p91.2)).bind fun p92=>
(qb9 E0 98 [(0,x1),(1,x2),(2,p92.1)]).bind fun t93=>
(bsP 98 3 1 (Tr.ofListFrom .nil [(.int .i64 0),(sv []),(.int .i64 0)] 0) [(0,t93)] (onS p92.2)).bind fun p94=>
(apP 98 3 32 p85.1 p94.1 (onS p94.2)).bind fun p95=>
(qa2 x0).bind fun t96=>
(faP 3 false 1 t96).bind fun t97=>
(stP 1 t97 p95.1 (onS p95.2)).bind fun p98=>
qgx [(4,[10,11,13])] p80.2 [[],[],[],[],p85.2.log,[],[],[],[],[],p91.2.log,p92.2.log,[],p94.2.log,p95.2.log,[],[],p98.2.log] p98.2 fun S99=>
(qa2 x0).bind fun t101=>
(faP 2 false 1 t101).bind fun t102=>
(ld1 t102 S99).bind fun p103=>
(lnS p103.1 p103.2).bind fun p104=>
some (.ret (.tuple [p104.1,(.int .i64 0)]),p104.2))))):=by kernel_rfl
noncomputable def C42:Code:=Try.f42.body.getD .skip
noncomputable def B42:D:=(qaq C42 [[],[],[],[0,0,1,2,3,9],[8],[],[],[],[],[],[],[],[]]).1
noncomputable def F42 (self:EV) (N:Nat) (x0 x1 x2 x3:V) (S:St):Rs:=qb6 E0 self N Try.f42 B42 [x0,x1,x2,x3] S
theorem F42_eq (self:EV) (N:Nat) (x0 x1 x2 x3:V) (S:St):F42 self N x0 x1 x2 x3 S =
qah (self.f 67 [x0,x1,x2] S) fun t4 S4=>
(qa6 E0 .eql 27 false true t4 (.int .i64 0)).bind fun t7=>
ifK t7 (
qah (self.f 71 [x0,x3] S4) fun t10 S10=>
(qa6 E0 .neq 27 false true t10 (.int .i64 0)).bind fun t13=>
ifK t13 (
some (.ret t10,S10)) (
qah (self.f 69 [x0,x1,x2] S10) fun t19 S19=>
(qa6 E0 .geq 3 false true t19 (.int .i64 0)).bind fun t20=>
ifK t20 (
some (.ret (.int .i64 6),S19)) (
(qa2 x0).bind fun t24=>
(faP 3 false 1 t24).bind fun t25=>
(ld1 t25 S19).bind fun p26=>
(qb9 E0 98 [(0,x1),(1,x2),(2,x3)]).bind fun t30=>
(bsP 98 3 1 (Tr.ofListFrom .nil [(.int .i64 0),(sv []),(.int .i64 0)] 0) [(0,t30)] p26.2).bind fun p31=>
(apP 98 3 32 p26.1 p31.1 p31.2).bind fun p32=>
(qa2 x0).bind fun t33=>
(faP 3 false 1 t33).bind fun t34=>
(stP 1 t34 p32.1 p32.2).bind fun p35=>
some (.ret (.int .i64 0),p35.2)))) (
(qa6 E0 .neq 27 false true t4 (.int .i64 0)).bind fun t38=>
ifK t38 (
some (.ret t4,S4)) (
qah (self.f 69 [x0,x1,x2] S4) fun t44 S44=>
(qa6 E0 .geq 3 false true t44 (.int .i64 0)).bind fun t45=>
ifK t45 (
some (.ret (.int .i64 6),S44)) (
(qa2 x0).bind fun t49=>
(faP 3 false 1 t49).bind fun t50=>
(ld1 t50 S44).bind fun p51=>
(qb9 E0 98 [(0,x1),(1,x2),(2,x3)]).bind fun t55=>
(bsP 98 3 1 (Tr.ofListFrom .nil [(.int .i64 0),(sv []),(.int .i64 0)] 0) [(0,t55)] p51.2).bind fun p56=>
(apP 98 3 32 p51.1 p56.1 p56.2).bind fun p57=>
(qa2 x0).bind fun t58=>
(faP 3 false 1 t58).bind fun t59=>
(stP 1 t59 p57.1 p57.2).bind fun p60=>
some (.ret (.int .i64 0),p60.2)))):=by kernel_rfl
noncomputable def C45:Code:=Try.f45.body.getD .skip
noncomputable def B45:D:=(qaq C45 [[],[],[],[],[],[],[],[],[],[]]).1
noncomputable def F45 (self:EV) (N:Nat) (x0 x1 x2:V) (S:St):Rs:=qb6 E0 self N Try.f45 B45 [x0,x1,x2] S
theorem F45_eq (self:EV) (N:Nat) (x0 x1 x2:V) (S:St):F45 self N x0 x1 x2 S =
qah (self.f 71 [x0,x1] S) fun t3 S3=>
(qa6 E0 .neq 27 false true t3 (.int .i64 0)).bind fun t6=>
ifK t6 (
some (.ret t3,S3)) (
(qeb x2 S3).bind fun p11=>
(qa2 x0).bind fun t13=>
(faP 2 false 1 t13).bind fun t14=>
(ld1 t14 p11.2).bind fun p15=>
(qa6 E0 .sub 3 false true x1 (.int .i64 1)).bind fun t17=>
(ixP 4 p15.1 t17).bind fun t18=>
(faP 2 false 1 t18).bind fun t19=>
(ld1 t19 p15.2).bind fun p20=>
(qeb p20.1 p20.2).bind fun p21=>
(qa6 E0 .sub 3 false false p11.1 p21.1).bind fun t22=>
qah (self.f 70 [x0,(.int .i64 0),t22] p21.2) fun t23 S23=>
(unV .not t23).bind fun t24=>
ifK t24 (
some (.ret (.int .i64 10),S23)) (
(qa2 x0).bind fun t27=>
(faP 2 false 1 t27).bind fun t28=>
(ld1 t28 S23).bind fun p29=>
(qa6 E0 .sub 3 false true x1 (.int .i64 1)).bind fun t31=>
(ixP 4 p29.1 t31).bind fun t33=>
(faP 2 false 1 t33).bind fun t34=>
(stP 1 t34 x2 p29.2).bind fun p35=>
some (.ret (.int .i64 0),p35.2))):=by kernel_rfl
noncomputable def C47:Code:=Try.f47.body.getD .skip
noncomputable def B47:D:=(qaq C47 [[],[],[],[],[],[],[],[],[]]).1
noncomputable def F47 (self:EV) (N:Nat) (x0 x1 x2:V) (S:St):Rs:=qb6 E0 self N Try.f47 B47 [x0,x1,x2] S
theorem F47_eq (self:EV) (N:Nat) (x0 x1 x2:V) (S:St):F47 self N x0 x1 x2 S =
(qa6 E0 .lss 3 false true x2 (.int .i64 0)).bind fun t2=>
(qa3 false t2).bind fun g4=>(bif g4 then some x2 else some (.tuple [])).bind fun t4=>
(qa3 false t2).bind fun g5=>(bif g5 then qa6 E0 .gtr 3 false true t4 (.int .i64 511)else some (.tuple [])).bind fun t5=>
(qaw t2 (some (.bool true)) (some t5)).bind fun t6=>
ifK t6 (
some (.ret (.int .i64 2),S)) (
qah (self.f 76 [x0,x1] S) fun t10 S10=>
(qa6 E0 .eql 3 false true t10 (.int .i64 0)).bind fun t11=>
ifK t11 (
some (.ret (.int .i64 5),S10)) (
(qa2 x0).bind fun t14=>
(faP 2 false 1 t14).bind fun t15=>
(ld1 t15 S10).bind fun p16=>
(qa6 E0 .sub 3 false true x1 (.int .i64 1)).bind fun t18=>
(ixP 4 p16.1 t18).bind fun t20=>
(faP 1 false 1 t20).bind fun t21=>
(stP 1 t21 x2 p16.2).bind fun p22=>
some (.ret (.int .i64 0),p22.2))):=by kernel_rfl
end
noncomputable section
noncomputable def C43:Code:=Try.f43.body.getD .skip
noncomputable def B43:D:=(qaq C43 [[],[],[],[],[],[],[],[],[],[],[],[],[],[],[],[],[],[]]).1
noncomputable def F43 (self:EV) (N:Nat) (x0 x1 x2:V) (S:St):Rs:=qb6 E0 self N Try.f43 B43 [x0,x1,x2] S
theorem F43_eq (self:EV) (N:Nat) (x0 x1 x2:V) (S:St):F43 self N x0 x1 x2 S =
qah (self.f 72 [x0,x1] S) fun t3 S3=>
(qa6 E0 .neq 27 false true t3 (.int .i64 0)).bind fun t6=>
ifK t6 (
some (.ret t3,S3)) (
qah (self.f 69 [x0,x1,x2] S3) fun t12 S12=>
(qa6 E0 .lss 3 false true t12 (.int .i64 0)).bind fun t15=>
ifK t15 (
some (.ret (.int .i64 5),S12)) (
(qa2 x0).bind fun t18=>
(faP 3 false 1 t18).bind fun t19=>
(ld1 t19 S12).bind fun p20=>
(ixP 3 p20.1 t12).bind fun t22=>
(faP 2 false 1 t22).bind fun t23=>
(ld1 t23 p20.2).bind fun p24=>
qah (self.f 52 [x0,p24.1] p24.2) fun t28 S28=>
(lnS t28 S28).bind fun p29=>
(qa6 E0 .gtr 3 false true p29.1 (.int .i64 0)).bind fun t30=>
ifK t30 (
some (.ret (.int .i64 20),p29.2)) (
qah (self.f 73 [x0,t12] p29.2) fun t34 S34=>
qah (self.f 49 [x0,p24.1] S34) fun t37 S37=>
(qab t37 0).bind fun t39=>
(qab t37 1).bind fun t40=>
(some (nwP 35 4 (Tr.ofListFrom .nil [(.int .i64 0),(.int .i64 0),(sv []),(.int .i64 0)] 0) S37)).bind fun p41=>
(stP 4 p41.1 t39 p41.2).bind fun p42=>
(faP 3 false 1 p41.1).bind fun t44=>
(ld1 t44 p42.2).bind fun p45=>
(qa6 E0 .eql 3 false true p45.1 (.int .i64 0)).bind fun t46=>
ifK t46 (
(qa2 x0).bind fun t48=>
(faP 2 false 1 t48).bind fun t49=>
(ld1 t49 p45.2).bind fun p50=>
(qa6 E0 .sub 3 false true p24.1 (.int .i64 1)).bind fun t52=>
(qb9 E0 35 []).bind fun t53=>
(ixP 4 p50.1 t52).bind fun t54=>
(stP 4 t54 t53 p50.2).bind fun p55=>
some (.ret (.int .i64 0),p55.2)) (
some (.ret (.int .i64 0),p45.2))))):=by kernel_rfl
noncomputable def C44:Code:=Try.f44.body.getD .skip
noncomputable def B44:D:=(qaq C44 [[],[],[],[0,0,1,2,3,4,11],[10],[],[],[],[],[],[],[],[],[],[],[],[],[],[],[],[0,3,4,12,13,14],[],[0,3,4,12,13],[],[],[],[],[0,0,3,4,12,13],[10],[],[],[]]).1
noncomputable def RL44:List Nat:=cellsOf Try.f44.results.toList
noncomputable def qo2 (self:EV) (N:Nat) (nk:Ac->St->Rs) (ek:Nat->Ac->St->Rs) (a:Ac) (S:St):Rs:=qbo [0,3,4,12,13] a fun a=>dr E0 self RL44 N (B44.r.r.r.l.r.r.r.r.r.r).r (mkK E0 self Try.f44 nk ek) a S
theorem R44_48_eq (self:EV) (N:Nat) (nk:Ac->St->Rs) (ek:Nat->Ac->St->Rs) ( v0 v3 v4 v12 v13:V) (S:St):qo2 self N nk ek (fr 79 [(0,v0),(3,v3),(4,v4),(12,v12),(13,v13)]) S =
qah (self.f 73 [v0,v12] S) fun t51 S51=>
(qa2 v0).bind fun t54=>
(faP 3 false 1 t54).bind fun t55=>
(ld1 t55 S51).bind fun p56=>
(qb9 E0 98 [(0,v3),(1,v4),(2,v13)]).bind fun t60=>
(bsP 98 3 1 (Tr.ofListFrom .nil [(.int .i64 0),(sv []),(.int .i64 0)] 0) [(0,t60)] p56.2).bind fun p61=>
(apP 98 3 32 p56.1 p61.1 p61.2).bind fun p62=>
(qa2 v0).bind fun t63=>
(faP 3 false 1 t63).bind fun t64=>
(stP 1 t64 p62.1 p62.2).bind fun p65=>
some (.ret (.int .i64 0),p65.2):=by kernel_rfl
noncomputable def qnx (self:EV) (N:Nat) (nk:Ac->St->Rs) (ek:Nat->Ac->St->Rs) (n:Nat) ( v0 v3 v4 v12 v13 v14:V) (S:St):Rs:=qez [0,3,4,12,13,14] (dr E0 self RL44 N (B44.r.r.r.l.r.r.r.r.r.r.l.r.l.l)) (mkK E0 self Try.f44 nk ek) n (fr 79 [(0,v0),(3,v3),(4,v4),(12,v12),(13,v13),(14,v14)]) S
theorem L44_69_eq (self:EV) (N:Nat) (nk:Ac->St->Rs) (ek:Nat->Ac->St->Rs) (n:Nat) ( v0 v3 v4 v12 v13 v14:V) (S:St):qnx self N nk ek (n+1) v0 v3 v4 v12 v13 v14 S =
(qa6 E0 .neq 3 false true v14 (.int .i64 1)).bind fun t71=>
ifK t71 (
(qa6 E0 .eql 3 false false v14 v13).bind fun t74=>
ifK t74 (
some (.ret (.int .i64 2),S)) (
qah (self.f 50 [v0,v14] S) fun t78 S78=>
qnx self N nk ek n v0 v3 v4 v12 v13 t78 S78)) (
ek 0 (fr 79 [(0,v0),(3,v3),(4,v4),(12,v12),(13,v13)]) S):=by kernel_rfl
noncomputable def R44_116 (self:EV) (N:Nat) (nk:Ac->St->Rs) (ek:Nat->Ac->St->Rs) (a:Ac) (S:St):Rs:=qbo [0,3,4,12,13] a fun a=>dr E0 self RL44 N (B44.r.r.r.l.r.r.r.r.r.r).r (mkK E0 self Try.f44 nk ek) a S
noncomputable def L44_137 (self:EV) (N:Nat) (nk:Ac->St->Rs) (ek:Nat->Ac->St->Rs) (n:Nat) ( v0 v3 v4 v12 v13 v14:V) (S:St):Rs:=qez [0,3,4,12,13,14] (dr E0 self RL44 N (B44.r.r.r.l.r.r.r.r.r.r.l.r.l.l)) (mkK E0 self Try.f44 nk ek) n (fr 79 [(0,v0),(3,v3),(4,v4),(12,v12),(13,v13),(14,v14)]) S
noncomputable def F44 (self:EV) (N:Nat) (x0 x1 x2 x3 x4:V) (S:St):Rs:=qb6 E0 self N Try.f44 B44 [x0,x1,x2,x3,x4] S
theorem F44_eq (self:EV) (N:Nat) (x0 x1 x2 x3 x4:V) (S:St):F44 self N x0 x1 x2 x3 x4 S =
qah (self.f 72 [x0,x1] S) fun t3 S3=>
(qa6 E0 .eql 27 false true t3 (.int .i64 0)).bind fun t6=>
ifK t6 (
qah (self.f 67 [x0,x3,x4] S3) fun t10 S10=>
(qa6 E0 .neq 27 false true t10 (.int .i64 0)).bind fun t13=>
ifK t13 (
some (.ret t10,S10)) (
qah (self.f 69 [x0,x1,x2] S10) fun t19 S19=>
(qa6 E0 .lss 3 false true t19 (.int .i64 0)).bind fun t22=>
ifK t22 (
some (.ret (.int .i64 5),S19)) (
(qa6 E0 .eql 3 false false x1 x3).bind fun t26=>
(qa3 true t26).bind fun g28=>(bif g28 then some x2 else some (.tuple [])).bind fun t28=>
(qa3 true t26).bind fun g29=>(bif g29 then some x4 else some (.tuple [])).bind fun t29=>
(qa3 true t26).bind fun g30=>(bif g30 then qa6 E0 .eql 9 false false t28 t29 else some (.tuple [])).bind fun t30=>
(qaw t26 (some t30) (some (.bool false))).bind fun t31=>
ifK t31 (
some (.ret (.int .i64 0),S19)) (
qah (self.f 69 [x0,x3,x4] S19) fun t36 S36=>
(qa6 E0 .geq 3 false true t36 (.int .i64 0)).bind fun t37=>
ifK t37 (
some (.ret (.int .i64 6),S36)) (
(qa2 x0).bind fun t40=>
(faP 3 false 1 t40).bind fun t41=>
(ld1 t41 S36).bind fun p42=>
(ixP 3 p42.1 t19).bind fun t44=>
(faP 2 false 1 t44).bind fun t45=>
(ld1 t45 p42.2).bind fun p46=>
qnx self N (qo2 self N (fun a s=>qbo [10] a fun a=>(qc0 E0 self Try.f44) a s) qbd) (exB 0 (qo2 self N (fun a s=>qbo [10] a fun a=>(qc0 E0 self Try.f44) a s) qbd) qbd) N x0 x3 x4 t19 p46.1 x3 p46.2))))) (
(qa6 E0 .neq 27 false true t3 (.int .i64 0)).bind fun t81=>
ifK t81 (
some (.ret t3,S3)) (
qah (self.f 69 [x0,x1,x2] S3) fun t87 S87=>
(qa6 E0 .lss 3 false true t87 (.int .i64 0)).bind fun t90=>
ifK t90 (
some (.ret (.int .i64 5),S87)) (
(qa6 E0 .eql 3 false false x1 x3).bind fun t94=>
(qa3 true t94).bind fun g96=>(bif g96 then some x2 else some (.tuple [])).bind fun t96=>
(qa3 true t94).bind fun g97=>(bif g97 then some x4 else some (.tuple [])).bind fun t97=>
(qa3 true t94).bind fun g98=>(bif g98 then qa6 E0 .eql 9 false false t96 t97 else some (.tuple [])).bind fun t98=>
(qaw t94 (some t98) (some (.bool false))).bind fun t99=>
ifK t99 (
some (.ret (.int .i64 0),S87)) (
qah (self.f 69 [x0,x3,x4] S87) fun t104 S104=>
(qa6 E0 .geq 3 false true t104 (.int .i64 0)).bind fun t105=>
ifK t105 (
some (.ret (.int .i64 6),S104)) (
(qa2 x0).bind fun t108=>
(faP 3 false 1 t108).bind fun t109=>
(ld1 t109 S104).bind fun p110=>
(ixP 3 p110.1 t87).bind fun t112=>
(faP 2 false 1 t112).bind fun t113=>
(ld1 t113 p110.2).bind fun p114=>
L44_137 self N (R44_116 self N (fun a s=>qbo [10] a fun a=>(qc0 E0 self Try.f44) a s) qbd) (exB 0 (R44_116 self N (fun a s=>qbo [10] a fun a=>(qc0 E0 self Try.f44) a s) qbd) qbd) N x0 x3 x4 t87 p114.1 x3 p114.2))))):=by kernel_rfl
end
noncomputable section
noncomputable def C48:Code:=Try.f48.body.getD .skip
noncomputable def B48:D:=(qaq C48 [[],[],[],[],[],[]]).1
noncomputable def F48 (self:EV) (N:Nat) (x0 x1 x2:V) (S:St):Rs:=qb6 E0 self N Try.f48 B48 [x0,x1,x2] S
theorem F48_eq (self:EV) (N:Nat) (x0 x1 x2:V) (S:St):F48 self N x0 x1 x2 S =
qah (self.f 69 [x0,x1,x2] S) fun t5 S5=>
(qa6 E0 .lss 3 false true t5 (.int .i64 0)).bind fun t8=>
ifK t8 (
some (.ret (.tuple [(.int .i64 0),(.bool false)]),S5)) (
(qa2 x0).bind fun t12=>
(faP 3 false 1 t12).bind fun t13=>
(ld1 t13 S5).bind fun p14=>
(ixP 3 p14.1 t5).bind fun t16=>
(faP 2 false 1 t16).bind fun t17=>
(ld1 t17 p14.2).bind fun p18=>
some (.ret (.tuple [p18.1,(.bool true)]),p18.2)):=by kernel_rfl
noncomputable def C49:Code:=Try.f49.body.getD .skip
noncomputable def B49:D:=(qaq C49 [[],[],[],[],[],[],[0,1,4,6,7],[],[1,4,6],[],[],[],[0,1,4,6],[4,5],[],[],[]]).1
noncomputable def RL49:List Nat:=cellsOf Try.f49.results.toList
noncomputable def R49_20 (self:EV) (N:Nat) (nk:Ac->St->Rs) (ek:Nat->Ac->St->Rs) (a:Ac) (S:St):Rs:=qbo [1,4,6] a fun a=>dr E0 self RL49 N (B49.r.r.r).r (mkK E0 self Try.f49 nk ek) a S
theorem R49_20_eq (self:EV) (N:Nat) (nk:Ac->St->Rs) (ek:Nat->Ac->St->Rs) ( v1 v4 v6:V) (S:St):R49_20 self N nk ek (fr 48 [(1,v1),(4,v4),(6,v6)]) S =
(qa6 E0 .eql 3 false true v1 (.int .i64 1)).bind fun t22=>
ifK t22 (
(faP 3 false 1 v6).bind fun t23=>
(stP 1 t23 (.int .i64 1) S).bind fun p24=>
(ldA 4 v6 p24.2).bind fun p25=>
(stP 4 v4 p25.1 p25.2).bind fun p26=>
(ldrA 4 v4 p26.2).bind fun p28=>
some (.ret (.tuple [p28.1,(.bool true)]),p28.2)) (
(ldA 4 v6 S).bind fun p29=>
(stP 4 v4 p29.1 p29.2).bind fun p30=>
(ldrA 4 v4 p30.2).bind fun p32=>
some (.ret (.tuple [p32.1,(.bool true)]),p32.2)):=by kernel_rfl
noncomputable def qmh (self:EV) (N:Nat) (nk:Ac->St->Rs) (ek:Nat->Ac->St->Rs) (n:Nat) ( v0 v1 v4 v6 v7:V) (S:St):Rs:=qez [0,1,4,6,7] (dr E0 self RL49 N (B49.r.r.r.l.r.l.l)) (mkK E0 self Try.f49 nk ek) n (fr 48 [(0,v0),(1,v1),(4,v4),(6,v6),(7,v7)]) S
theorem L49_34_eq (self:EV) (N:Nat) (nk:Ac->St->Rs) (ek:Nat->Ac->St->Rs) (n:Nat) ( v0 v1 v4 v6 v7:V) (S:St):qmh self N nk ek (n+1) v0 v1 v4 v6 v7 S =
(qa2 v0).bind fun t37=>
(faP 3 false 1 t37).bind fun t38=>
(ld1 t38 S).bind fun p39=>
(lnS p39.1 p39.2).bind fun p40=>
(qa6 E0 .lss 3 false false v7 p40.1).bind fun t41=>
ifK t41 (
(qa2 v0).bind fun t43=>
(faP 3 false 1 t43).bind fun t44=>
(ld1 t44 p40.2).bind fun p45=>
(ixP 3 p45.1 v7).bind fun t47=>
(faP 2 false 1 t47).bind fun t48=>
(ld1 t48 p45.2).bind fun p49=>
(qa6 E0 .eql 3 false false p49.1 v1).bind fun t51=>
ifK t51 (
(faP 3 false 1 v6).bind fun t52=>
(ld1 t52 p49.2).bind fun p53=>
(qa6 E0 .add 3 false true p53.1 (.int .i64 1)).bind fun t54=>
(faP 3 false 1 v6).bind fun t55=>
(stP 1 t55 t54 p53.2).bind fun p56=>
(qa6 E0 .add 3 false true v7 (.int .i64 1)).bind fun t58=>
qmh self N nk ek n v0 v1 v4 v6 t58 p56.2) (
(qa6 E0 .add 3 false true v7 (.int .i64 1)).bind fun t61=>
qmh self N nk ek n v0 v1 v4 v6 t61 p49.2)) (
ek 0 (fr 48 [(1,v1),(4,v4),(6,v6)]) p40.2):=by kernel_rfl
noncomputable def F49 (self:EV) (N:Nat) (x0 x1:V) (S:St):Rs:=qb6 E0 self N Try.f49 B49 [x0,x1] S
theorem F49_eq (self:EV) (N:Nat) (x0 x1:V) (S:St):F49 self N x0 x1 S =
(some (nwP 35 4 (Tr.ofListFrom .nil [(.int .i64 0),(.int .i64 0),(sv []),(.int .i64 0)] 0) S)).bind fun p0=>
qah (self.f 76 [x0,x1] p0.2) fun t4 S4=>
(qa6 E0 .eql 3 false true t4 (.int .i64 0)).bind fun t5=>
ifK t5 (
(qb9 E0 35 []).bind fun t6=>
(stP 4 p0.1 t6 S4).bind fun p7=>
(ldrA 4 p0.1 p7.2).bind fun p9=>
some (.ret (.tuple [p9.1,(.bool false)]),p9.2)) (
(qa2 x0).bind fun t11=>
(faP 2 false 1 t11).bind fun t12=>
(ld1 t12 S4).bind fun p13=>
(qa6 E0 .sub 3 false true x1 (.int .i64 1)).bind fun t15=>
(ixP 4 p13.1 t15).bind fun t16=>
(ldA 4 t16 p13.2).bind fun p17=>
(some (nwP 35 4 (Tr.ofListFrom .nil [(.int .i64 0),(.int .i64 0),(sv []),(.int .i64 0)] 0) p17.2)).bind fun p18=>
(stP 4 p18.1 p17.1 p18.2).bind fun p19=>
qmh self N (R49_20 self N (qc0 E0 self Try.f49) qbd) (exB 0 (R49_20 self N (qc0 E0 self Try.f49) qbd) qbd) N x0 x1 p0.1 p18.1 (.int .i64 0) p19.2):=by kernel_rfl
noncomputable def C50:Code:=Try.f50.body.getD .skip
noncomputable def B50:D:=(qaq C50 [[],[],[],[],[],[0,1,5],[],[],[],[],[],[],[0],[4],[]]).1
noncomputable def RL50:List Nat:=cellsOf Try.f50.results.toList
noncomputable def R50_6 (self:EV) (N:Nat) (nk:Ac->St->Rs) (ek:Nat->Ac->St->Rs) (a:Ac) (S:St):Rs:=qbo [] a fun a=>dr E0 self RL50 N (B50.r.r).r (mkK E0 self Try.f50 nk ek) a S
theorem R50_6_eq (self:EV) (N:Nat) (nk:Ac->St->Rs) (ek:Nat->Ac->St->Rs) (S:St):R50_6 self N nk ek (fr 37 []) S =
some (.ret (.int .i64 1),S):=by kernel_rfl
noncomputable def L50_9 (self:EV) (N:Nat) (nk:Ac->St->Rs) (ek:Nat->Ac->St->Rs) (n:Nat) ( v0 v1 v5:V) (S:St):Rs:=qez [0,1,5] (dr E0 self RL50 N (B50.r.r.l.r.l.l)) (mkK E0 self Try.f50 nk ek) n (fr 37 [(0,v0),(1,v1),(5,v5)]) S
theorem L50_9_eq (self:EV) (N:Nat) (nk:Ac->St->Rs) (ek:Nat->Ac->St->Rs) (n:Nat) ( v0 v1 v5:V) (S:St):L50_9 self N nk ek (n+1) v0 v1 v5 S =
(qa2 v0).bind fun t12=>
(faP 3 false 1 t12).bind fun t13=>
(ld1 t13 S).bind fun p14=>
(lnS p14.1 p14.2).bind fun p15=>
(qa6 E0 .lss 3 false false v5 p15.1).bind fun t16=>
ifK t16 (
(qa2 v0).bind fun t18=>
(faP 3 false 1 t18).bind fun t19=>
(ld1 t19 p15.2).bind fun p20=>
(ixP 3 p20.1 v5).bind fun t22=>
(faP 2 false 1 t22).bind fun t23=>
(ld1 t23 p20.2).bind fun p24=>
(qa6 E0 .eql 3 false false p24.1 v1).bind fun t26=>
ifK t26 (
(qa2 v0).bind fun t28=>
(faP 3 false 1 t28).bind fun t29=>
(ld1 t29 p24.2).bind fun p30=>
(ixP 3 p30.1 v5).bind fun t32=>
(faP 0 false 1 t32).bind fun t33=>
(ld1 t33 p30.2).bind fun p34=>
some (.ret p34.1,p34.2)) (
(qa6 E0 .add 3 false true v5 (.int .i64 1)).bind fun t37=>
L50_9 self N nk ek n v0 v1 t37 p24.2)) (
ek 0 (fr 37 []) p15.2):=by kernel_rfl
noncomputable def F50 (self:EV) (N:Nat) (x0 x1:V) (S:St):Rs:=qb6 E0 self N Try.f50 B50 [x0,x1] S
theorem F50_eq (self:EV) (N:Nat) (x0 x1:V) (S:St):F50 self N x0 x1 S =
qah (self.f 76 [x0,x1] S) fun t3 S3=>
(qa6 E0 .neq 3 false true t3 (.int .i64 2)).bind fun t4=>
ifK t4 (
some (.ret (.int .i64 0),S3)) (
L50_9 self N (R50_6 self N (qc0 E0 self Try.f50) qbd) (exB 0 (R50_6 self N (qc0 E0 self Try.f50) qbd) qbd) N x0 x1 (.int .i64 0) S3):=by kernel_rfl
noncomputable def C52:Code:=Try.f52.body.getD .skip
noncomputable def B52:D:=(qaq C52 [[],[],[],[0,1,5,6],[],[5],[],[],[0,1,5,6],[],[],[0,1,5,6,7],[],[0,1,5,6,7],[],[0,0,1,5,6,7],[0,1,5,6],[],[],[],[0,0,1,5,6],[0,1,5,6],[0,5],[4],[]]).1
noncomputable def RL52:List Nat:=cellsOf Try.f52.results.toList
noncomputable def R52_2 (self:EV) (N:Nat) (nk:Ac->St->Rs) (ek:Nat->Ac->St->Rs) (a:Ac) (S:St):Rs:=qbo [5] a fun a=>dr E0 self RL52 N (B52.r.r).r (mkK E0 self Try.f52 nk ek) a S
theorem R52_2_eq (self:EV) (N:Nat) (nk:Ac->St->Rs) (ek:Nat->Ac->St->Rs) ( v5:V) (S:St):R52_2 self N nk ek (fr 71 [(5,v5)]) S =
some (.ret v5,S):=by kernel_rfl
noncomputable def qjz (self:EV) (N:Nat) (nk:Ac->St->Rs) (ek:Nat->Ac->St->Rs) (n:Nat):Ac->St->Rs:=fun a S=>qbo [0,1,5,6] a fun a=>qez [0,1,5,6] (dr E0 self RL52 N (B52.r.r.l.r.l.l)) (mkK E0 self Try.f52 nk ek) n a S
noncomputable def L52_6 (self:EV) (N:Nat) (nk:Ac->St->Rs) (ek:Nat->Ac->St->Rs) (n:Nat) ( v0 v1 v5 v6:V) (S:St):Rs:=qez [0,1,5,6] (dr E0 self RL52 N (B52.r.r.l.r.l.l)) (mkK E0 self Try.f52 nk ek) n (fr 71 [(0,v0),(1,v1),(5,v5),(6,v6)]) S
noncomputable def qfm (self:EV) (N:Nat) (nk:Ac->St->Rs) (ek:Nat->Ac->St->Rs) (a:Ac) (S:St):Rs:=qbo [0,1,5,6] a fun a=>dr E0 self RL52 N (B52.r.r.l.r.l.l.r).r (mkK E0 self Try.f52 nk ek) a S
theorem R52_14_eq (self:EV) (N:Nat) (nk:Ac->St->Rs) (ek:Nat->Ac->St->Rs) ( v0 v1 v5 v6:V) (S:St):qfm self N nk ek (fr 71 [(0,v0),(1,v1),(5,v5),(6,v6)]) S =
(qa6 E0 .add 3 false true v6 (.int .i64 1)).bind fun t16=>
nk (fr 71 [(0,v0),(1,v1),(5,v5),(6,t16)]) S:=by kernel_rfl
noncomputable def R52_29 (self:EV) (N:Nat) (nk:Ac->St->Rs) (ek:Nat->Ac->St->Rs) (a:Ac) (S:St):Rs:=qbo [0,1,5,6,7] a fun a=>dr E0 self RL52 N (B52.r.r.l.r.l.l.r.l.l.r.r).r (mkK E0 self Try.f52 nk ek) a S
theorem R52_29_eq (self:EV) (N:Nat) (nk:Ac->St->Rs) (ek:Nat->Ac->St->Rs) ( v0 v1 v5 v6 v7:V) (S:St):R52_29 self N nk ek (fr 71 [(0,v0),(1,v1),(5,v5),(6,v6),(7,v7)]) S =
(qc6 E0 30 v5 none (some v7) none S).bind fun p34=>
(apP 9 1 16 .nilslice p34.1 p34.2).bind fun p35=>
(qa2 v0).bind fun t39=>
(faP 3 false 1 t39).bind fun t40=>
(ld1 t40 p35.2).bind fun p41=>
(ixP 3 p41.1 v6).bind fun t43=>
(faP 1 false 1 t43).bind fun t44=>
(ld1 t44 p41.2).bind fun p45=>
(bsP 9 1 1 (Ev.one (sv [])) [(0,p45.1)] p45.2).bind fun p46=>
(apP 9 1 16 p35.1 p46.1 p46.2).bind fun p47=>
(qc6 E0 30 v5 (some v7) none none p47.2).bind fun p52=>
(apP 9 1 16 p47.1 p52.1 p52.2).bind fun p53=>
nk (fr 71 [(0,v0),(1,v1),(5,p53.1),(6,v6)]) p53.2:=by kernel_rfl
noncomputable def L52_55 (self:EV) (N:Nat) (nk:Ac->St->Rs) (ek:Nat->Ac->St->Rs) (n:Nat) ( v0 v1 v5 v6 v7:V) (S:St):Rs:=qez [0,1,5,6,7] (dr E0 self RL52 N (B52.r.r.l.r.l.l.r.l.l.r.r.l.l.l)) (mkK E0 self Try.f52 nk ek) n (fr 71 [(0,v0),(1,v1),(5,v5),(6,v6),(7,v7)]) S
theorem L52_55_eq (self:EV) (N:Nat) (nk:Ac->St->Rs) (ek:Nat->Ac->St->Rs) (n:Nat) ( v0 v1 v5 v6 v7:V) (S:St):L52_55 self N nk ek (n+1) v0 v1 v5 v6 v7 S =
(lnS v5 (onS S)).bind fun p58=>
(qa6 E0 .lss 3 false false v7 p58.1).bind fun t59=>
(qa3 true t59).bind fun g61=>(bif g61 then some v5 else some (.tuple [])).bind fun t61=>
(qa3 true t59).bind fun g62=>(bif g62 then some v7 else some (.tuple [])).bind fun t62=>
(qa3 true t59).bind fun g63=>(bif g63 then ixP 1 t61 t62 else some (.tuple [])).bind fun t63=>
(qa3 true t59).bind fun g64=>(bif g64 then ld1 t63 (onS p58.2)else some (.tuple [],(onS p58.2))).bind fun p64=>
(qa3 true t59).bind fun g65=>(bif g65 then some v0 else some (.tuple [])).bind fun t65=>
(qa3 true t59).bind fun g66=>(bif g66 then qa2 t65 else some (.tuple [])).bind fun t66=>
(qa3 true t59).bind fun g67=>(bif g67 then faP 3 false 1 t66 else some (.tuple [])).bind fun t67=>
(qa3 true t59).bind fun g68=>(bif g68 then ld1 t67 (onS p64.2)else some (.tuple [],(onS p64.2))).bind fun p68=>
(qa3 true t59).bind fun g69=>(bif g69 then some v6 else some (.tuple [])).bind fun t69=>
(qa3 true t59).bind fun g70=>(bif g70 then ixP 3 p68.1 t69 else some (.tuple [])).bind fun t70=>
(qa3 true t59).bind fun g71=>(bif g71 then faP 1 false 1 t70 else some (.tuple [])).bind fun t71=>
(qa3 true t59).bind fun g72=>(bif g72 then ld1 t71 (onS p68.2)else some (.tuple [],(onS p68.2))).bind fun p72=>
(qa3 true t59).bind fun g73=>(bif g73 then qa6 E0 .lss 9 false false p64.1 p72.1 else some (.tuple [])).bind fun t73=>
(qaw t59 (some t73) (some (.bool false))).bind fun t74=>
qgx [(8,[12,16])] S [[],[],p58.2.log,[],[],[],[],[],p64.2.log,[],[],[],p68.2.log,[],[],[],p72.2.log,[],[]] (onS p72.2) fun S75=>
ifK t74 (
(qa6 E0 .add 3 false true v7 (.int .i64 1)).bind fun t77=>
L52_55 self N nk ek n v0 v1 v5 v6 t77 S75) (
ek 2 (fr 71 [(0,v0),(1,v1),(5,v5),(6,v6),(7,v7)]) S75):=by kernel_rfl
theorem L52_6_eq (self:EV) (N:Nat) (nk:Ac->St->Rs) (ek:Nat->Ac->St->Rs) (n:Nat) ( v0 v1 v5 v6:V) (S:St):L52_6 self N nk ek (n+1) v0 v1 v5 v6 S =
(qa2 v0).bind fun t9=>
(faP 3 false 1 t9).bind fun t10=>
(ld1 t10 S).bind fun p11=>
(lnS p11.1 p11.2).bind fun p12=>
(qa6 E0 .lss 3 false false v6 p12.1).bind fun t13=>
ifK t13 (
(qa2 v0).bind fun t19=>
(faP 3 false 1 t19).bind fun t20=>
(ld1 t20 p12.2).bind fun p21=>
(ixP 3 p21.1 v6).bind fun t23=>
(faP 0 false 1 t23).bind fun t24=>
(ld1 t24 p21.2).bind fun p25=>
(qa6 E0 .neq 3 false false p25.1 v1).bind fun t27=>
ifK t27 (
qfm self N (qjz self N nk ek n) ek (fr 71 [(0,v0),(1,v1),(5,v5),(6,v6)]) p25.2) (
L52_55 self N (R52_29 self N (qfm self N (qjz self N nk ek n) ek) (exB 1 (qfm self N (qjz self N nk ek n) ek) ek)) (exB 2 (R52_29 self N (qfm self N (qjz self N nk ek n) ek) (exB 1 (qfm self N (qjz self N nk ek n) ek) ek)) (exB 1 (qfm self N (qjz self N nk ek n) ek) ek)) N v0 v1 v5 v6 (.int .i64 0) p25.2)) (
ek 0 (fr 71 [(5,v5)]) p12.2):=by kernel_rfl
theorem N52_6_eq (self:EV) (N:Nat) (nk:Ac->St->Rs) (ek:Nat->Ac->St->Rs) (n:Nat) ( v0 v1 v5 v6:V) (S:St):qjz self N nk ek n (fr 71 [(0,v0),(1,v1),(5,v5),(6,v6)]) S=L52_6 self N nk ek n v0 v1 v5 v6 S:=by kernel_rfl
noncomputable def F52 (self:EV) (N:Nat) (x0 x1:V) (S:St):Rs:=qb6 E0 self N Try.f52 B52 [x0,x1] S
theorem F52_eq (self:EV) (N:Nat) (x0 x1:V) (S:St):F52 self N x0 x1 S =
L52_6 self N (R52_2 self N (qc0 E0 self Try.f52) qbd) (exB 0 (R52_2 self N (qc0 E0 self Try.f52) qbd) qbd) N x0 x1 .nilslice (.int .i64 0) S:=by kernel_rfl
noncomputable def C53:Code:=Try.f53.body.getD .skip
noncomputable def B53:D:=(qaq C53 [[],[],[],[0,2,3,4],[],[2,3],[],[],[],[],[0,2,3],[2],[]]).1
noncomputable def RL53:List Nat:=cellsOf Try.f53.results.toList
noncomputable def R53_4 (self:EV) (N:Nat) (nk:Ac->St->Rs) (ek:Nat->Ac->St->Rs) (a:Ac) (S:St):Rs:=qbo [2,3] a fun a=>dr E0 self RL53 N (B53.r.r).r (mkK E0 self Try.f53 nk ek) a S
theorem R53_4_eq (self:EV) (N:Nat) (nk:Ac->St->Rs) (ek:Nat->Ac->St->Rs) ( v2 v3:V) (S:St):R53_4 self N nk ek (fr 42 [(2,v2),(3,v3)]) S =
(ldA 2 v3 S).bind fun p5=>
(stP 2 v2 p5.1 p5.2).bind fun p6=>
(ldrA 2 v2 p6.2).bind fun p7=>
some (.ret p7.1,p7.2):=by kernel_rfl
noncomputable def L53_9 (self:EV) (N:Nat) (nk:Ac->St->Rs) (ek:Nat->Ac->St->Rs) (n:Nat) ( v0 v2 v3 v4:V) (S:St):Rs:=qez [0,2,3,4] (dr E0 self RL53 N (B53.r.r.l.r.l.l)) (mkK E0 self Try.f53 nk ek) n (fr 42 [(0,v0),(2,v2),(3,v3),(4,v4)]) S
theorem L53_9_eq (self:EV) (N:Nat) (nk:Ac->St->Rs) (ek:Nat->Ac->St->Rs) (n:Nat) ( v0 v2 v3 v4:V) (S:St):L53_9 self N nk ek (n+1) v0 v2 v3 v4 S =
(qa2 v0).bind fun t12=>
(faP 2 false 1 t12).bind fun t13=>
(ld1 t13 S).bind fun p14=>
(lnS p14.1 p14.2).bind fun p15=>
(qa6 E0 .lss 3 false false v4 p15.1).bind fun t16=>
ifK t16 (
(qa2 v0).bind fun t18=>
(faP 2 false 1 t18).bind fun t19=>
(ld1 t19 p15.2).bind fun p20=>
(ixP 4 p20.1 v4).bind fun t22=>
(faP 0 false 1 t22).bind fun t23=>
(ld1 t23 p20.2).bind fun p24=>
(qa6 E0 .gtr 3 false true p24.1 (.int .i64 0)).bind fun t25=>
ifK t25 (
(faP 0 false 1 v3).bind fun t26=>
(ld1 t26 p24.2).bind fun p27=>
(qa6 E0 .add 3 false true p27.1 (.int .i64 1)).bind fun t28=>
(faP 0 false 1 v3).bind fun t29=>
(stP 1 t29 t28 p27.2).bind fun p30=>
(faP 1 false 1 v3).bind fun t31=>
(ld1 t31 (onS p30.2)).bind fun p32=>
(qa2 v0).bind fun t34=>
(faP 2 false 1 t34).bind fun t35=>
(ld1 t35 (onS p32.2)).bind fun p36=>
(ixP 4 p36.1 v4).bind fun t38=>
(faP 2 false 1 t38).bind fun t39=>
(ld1 t39 (onS p36.2)).bind fun p40=>
(qeb p40.1 (onS p40.2)).bind fun p41=>
(qa6 E0 .add 3 false false p32.1 p41.1).bind fun t42=>
(faP 1 false 1 v3).bind fun t43=>
(stP 1 t43 t42 (onS p41.2)).bind fun p44=>
qgx [(1,[5,9,10])] p30.2 [[],p32.2.log,[],[],[],p36.2.log,[],[],[],p40.2.log,p41.2.log,[],[],p44.2.log] p44.2 fun S45=>
(qa6 E0 .add 3 false true v4 (.int .i64 1)).bind fun t47=>
L53_9 self N nk ek n v0 v2 v3 t47 S45) (
(qa6 E0 .add 3 false true v4 (.int .i64 1)).bind fun t50=>
L53_9 self N nk ek n v0 v2 v3 t50 p24.2)) (
ek 0 (fr 42 [(2,v2),(3,v3)]) p15.2):=by kernel_rfl
noncomputable def F53 (self:EV) (N:Nat) (x0:V) (S:St):Rs:=qb6 E0 self N Try.f53 B53 [x0] S
theorem F53_eq (self:EV) (N:Nat) (x0:V) (S:St):F53 self N x0 S =
(some (nwP 26 2 (Tr.ofListFrom .nil [(.int .i64 0),(.int .i64 0)] 0) S)).bind fun p0=>
(qb9 E0 26 []).bind fun t1=>
(some (nwP 26 2 (Tr.ofListFrom .nil [(.int .i64 0),(.int .i64 0)] 0) p0.2)).bind fun p2=>
(stP 2 p2.1 t1 p2.2).bind fun p3=>
L53_9 self N (R53_4 self N (qc0 E0 self Try.f53) qbd) (exB 0 (R53_4 self N (qc0 E0 self Try.f53) qbd) qbd) N x0 p0.1 p2.1 (.int .i64 0) p3.2:=by kernel_rfl
noncomputable def C51:Code:=Try.f51.body.getD .skip
noncomputable def B51:D:=(qaq C51 [[],[],[],[],[],[0,1,5],[],[],[],[],[],[],[0],[4],[]]).1
noncomputable def RL51:List Nat:=cellsOf Try.f51.results.toList
noncomputable def R51_7 (self:EV) (N:Nat) (nk:Ac->St->Rs) (ek:Nat->Ac->St->Rs) (a:Ac) (S:St):Rs:=qbo [] a fun a=>dr E0 self RL51 N (B51.r.r).r (mkK E0 self Try.f51 nk ek) a S
theorem R51_7_eq (self:EV) (N:Nat) (nk:Ac->St->Rs) (ek:Nat->Ac->St->Rs) (S:St):R51_7 self N nk ek (fr 26 []) S =
some (.ret (.bool true),S):=by kernel_rfl
noncomputable def L51_10 (self:EV) (N:Nat) (nk:Ac->St->Rs) (ek:Nat->Ac->St->Rs) (n:Nat) ( v0 v1 v5:V) (S:St):Rs:=qez [0,1,5] (dr E0 self RL51 N (B51.r.r.l.r.l.l)) (mkK E0 self Try.f51 nk ek) n (fr 26 [(0,v0),(1,v1),(5,v5)]) S
theorem L51_10_eq (self:EV) (N:Nat) (nk:Ac->St->Rs) (ek:Nat->Ac->St->Rs) (n:Nat) ( v0 v1 v5:V) (S:St):L51_10 self N nk ek (n+1) v0 v1 v5 S =
(lnS v0 S).bind fun p13=>
(qa6 E0 .lss 3 false false v5 p13.1).bind fun t14=>
ifK t14 (
(ixP 1 v0 v5).bind fun t17=>
(ld1 t17 (onS p13.2)).bind fun p18=>
(ixP 1 v1 v5).bind fun t21=>
(ld1 t21 (onS p18.2)).bind fun p22=>
(qa6 E0 .neq 9 false false p18.1 p22.1).bind fun t23=>
qgx [(3,[7])] p13.2 [[],[],[],p18.2.log,[],[],[],p22.2.log,[]] (onS p22.2) fun S24=>
ifK t23 (
some (.ret (.bool false),S24)) (
(qa6 E0 .add 3 false true v5 (.int .i64 1)).bind fun t27=>
L51_10 self N nk ek n v0 v1 t27 S24)) (
ek 0 (fr 26 []) p13.2):=by kernel_rfl
noncomputable def F51 (self:EV) (N:Nat) (x0 x1:V) (S:St):Rs:=qb6 E0 self N Try.f51 B51 [x0,x1] S
theorem F51_eq (self:EV) (N:Nat) (x0 x1:V) (S:St):F51 self N x0 x1 S =
(lnS x0 S).bind fun p2=>
(lnS x1 p2.2).bind fun p4=>
(qa6 E0 .neq 3 false false p2.1 p4.1).bind fun t5=>
ifK t5 (
some (.ret (.bool false),p4.2)) (
L51_10 self N (R51_7 self N (qc0 E0 self Try.f51) qbd) (exB 0 (R51_7 self N (qc0 E0 self Try.f51) qbd) qbd) N x0 x1 (.int .i64 0) p4.2):=by kernel_rfl
end
noncomputable section
noncomputable def C46:Code:=Try.f46.body.getD .skip
noncomputable def B46:D:=(qaq C46 [[],[],[],[],[],[],[],[],[]]).1
noncomputable def F46 (self:EV) (N:Nat) (x0 x1 x2:V) (S:St):Rs:=qb6 E0 self N Try.f46 B46 [x0,x1,x2] S
theorem F46_eq (self:EV) (N:Nat) (x0 x1 x2:V) (S:St):F46 self N x0 x1 x2 S =
(qdb 23 x0 S).bind fun p0=>
(qdb 3 x1 p0.2).bind fun p1=>
(qdb 3 x2 p1.2).bind fun p2=>
(ld1 p0.1 p2.2).bind fun p8=>
(bsP 72 1 3 (Ev.one .nilfn) [(0,(.fn (.func 27) [p8.1] [])),(1,(.fn (.func 74) [] [p2.1])),(2,(.fn (.func 75) [] [p0.1,p1.1]))] p8.2).bind fun p12=>
qah (self.f 26 [p12.1] p12.2) fun t13 S13=>
(qa6 E0 .neq 27 false true t13 (.int .i64 0)).bind fun t16=>
ifK t16 (
some (.ret t13,S13)) (
(ld1 p0.1 (onS S13)).bind fun p19=>
(qa2 p19.1).bind fun t20=>
(faP 4 false 1 t20).bind fun t21=>
(ld1 t21 (onS p19.2)).bind fun p22=>
(ld1 p1.1 (onS p22.2)).bind fun p23=>
(qal E0 66 p22.1 p23.1 false (onS p23.2)).bind fun p24=>
(ld1 p2.1 (onS p24.2)).bind fun p25=>
(qa2 p24.1).bind fun t26=>
(faP 0 true 4 t26).bind fun t27=>
(faP 1 false 1 t27).bind fun t28=>
(stP 1 t28 p25.1 (onS p25.2)).bind fun p29=>
qgx [(0,[4,6]),(3,[4,6]),(4,[6]),(5,[6])] S13 [p19.2.log,[],[],p22.2.log,p23.2.log,p24.2.log,p25.2.log,[],[],[],p29.2.log] p29.2 fun S30=>
some (.ret (.int .i64 0),S30)):=by kernel_rfl
noncomputable def C74:Code:=Try.f74.body.getD .skip
noncomputable def B74:D:=(qaq C74 [[],[]]).1
noncomputable def F74 (self:EV) (N:Nat) (x0:V) (S:St):Rs:=qb6 E0 self N Try.f74 B74 [x0] S
theorem F74_eq (self:EV) (N:Nat) (x0:V) (S:St):F74 self N x0 S =
(ld1 x0 S).bind fun p1=>
(qa6 E0 .geq 3 false true p1.1 (.int .i64 0)).bind fun t2=>
(qa3 true t2).bind fun g4=>(bif g4 then ld1 x0 p1.2 else some (.tuple [],p1.2)).bind fun p4=>
(qa3 true t2).bind fun g5=>(bif g5 then qa6 E0 .leq 3 false true p4.1 (.int .i64 511)else some (.tuple [])).bind fun t5=>
(qaw t2 (some t5) (some (.bool false))).bind fun t6=>
qah (self.f 25 [t6,(.int .i64 2)] p4.2) fun t7 S7=>
some (.ret t7,S7):=by kernel_rfl
noncomputable def C75:Code:=Try.f75.body.getD .skip
noncomputable def B75:D:=(qaq C75 [[],[]]).1
noncomputable def F75 (self:EV) (N:Nat) (x0 x1:V) (S:St):Rs:=qb6 E0 self N Try.f75 B75 [x0,x1] S
theorem F75_eq (self:EV) (N:Nat) (x0 x1:V) (S:St):F75 self N x0 x1 S =
(ld1 x0 S).bind fun p1=>
(ld1 x1 p1.2).bind fun p2=>
qah (self.f 35 [p1.1,p2.1] p2.2) fun t3 S3=>
(qa6 E0 .neq 62 false true t3 .nilptr).bind fun t4=>
qah (self.f 25 [t4,(.int .i64 5)] S3) fun t5 S5=>
some (.ret t5,S5):=by kernel_rfl
noncomputable def C54:Code:=Try.f54.body.getD .skip
noncomputable def B54:D:=(qaq C54 [[],[],[],[],[]]).1
noncomputable def F54 (self:EV) (N:Nat) (x0:V) (S:St):Rs:=qb6 E0 self N Try.f54 B54 [x0] S
theorem F54_eq (self:EV) (N:Nat) (x0:V) (S:St):F54 self N x0 S =
(some (nwP 26 2 (Tr.ofListFrom .nil [(.int .i64 0),(.int .i64 0)] 0) S)).bind fun p0=>
(qa6 E0 .eql 23 false true x0 .nilptr).bind fun t2=>
ifK t2 (
(qb9 E0 26 []).bind fun t3=>
(stP 2 p0.1 t3 p0.2).bind fun p4=>
(ldrA 2 p0.1 p4.2).bind fun p5=>
some (.ret p5.1,p5.2)) (
(qa2 x0).bind fun t7=>
(faP 0 true 2 t7).bind fun t8=>
(ldA 2 t8 p0.2).bind fun p9=>
(stP 2 p0.1 p9.1 p9.2).bind fun p10=>
(ldrA 2 p0.1 p10.2).bind fun p11=>
some (.ret p11.1,p11.2)):=by kernel_rfl
noncomputable def C55:Code:=Try.f55.body.getD .skip
noncomputable def B55:D:=(qaq C55 [[],[],[],[],[]]).1
noncomputable def F55 (self:EV) (N:Nat) (x0:V) (S:St):Rs:=qb6 E0 self N Try.f55 B55 [x0] S
theorem F55_eq (self:EV) (N:Nat) (x0:V) (S:St):F55 self N x0 S =
(qa6 E0 .eql 23 false true x0 .nilptr).bind fun t2=>
ifK t2 (
some (.ret (.int .i64 0),S)) (
some (.ret (.int .i64 1),S)):=by kernel_rfl
end
end Go.Proofs.Ytbihlgcdnhoknaa.W
