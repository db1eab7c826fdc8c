/-
  WHAT THE FUNCTIONS COME TO: each is read by the evaluator,printed,and told as a function of data,part 1 of 14 (no condition).
-/
import Derived.Test.YtbihlgcdnhoknaaEv4
import Derived.Test.YtbihlgcdnhoknaaProg
import Derived.KernelRfl
namespace Go.Proofs.Ytbihlgcdnhoknaa.W
open Go.Proofs.Ytbihlgcdnhoknaa.Ev
set_option maxRecDepth 100000
noncomputable section
noncomputable def E0:Env:=envOf Try.prog [7,8,25,26,34,35,44,49,56,57,59,60,64,65,67,68,85,86,97,98,108,109,138] [(77,1)] []
noncomputable def C25:Code:=Try.f25.body.getD .skip
noncomputable def B25:D:=(qaq C25 [[],[],[],[],[]]).1
noncomputable def F25 (self:EV) (N:Nat) (x0 x1:V) (S:St):Rs:=qb6 E0 self N Try.f25 B25 [x0,x1] S
theorem F25_eq (self:EV) (N:Nat) (x0 x1:V) (S:St):F25 self N x0 x1 S =
(unV .not x0).bind fun t2=>
ifK t2 (
some (.ret x1,S)) (
some (.ret (.int .i64 0),S)):=by kernel_rfl
noncomputable def C27:Code:=Try.f27.body.getD .skip
noncomputable def B27:D:=(qaq C27 [[],[]]).1
noncomputable def F27 (self:EV) (N:Nat) (x0:V) (S:St):Rs:=qb6 E0 self N Try.f27 B27 [x0] S
theorem F27_eq (self:EV) (N:Nat) (x0:V) (S:St):F27 self N x0 S =
(qa6 E0 .neq 23 false true x0 .nilptr).bind fun t2=>
qah (self.f 25 [t2,(.int .i64 1)] S) fun t3 S3=>
some (.ret t3,S3):=by kernel_rfl
noncomputable def C28:Code:=Try.f28.body.getD .skip
noncomputable def B28:D:=(qaq C28 [[],[]]).1
noncomputable def F28 (self:EV) (N:Nat) (x0 x1:V) (S:St):Rs:=qb6 E0 self N Try.f28 B28 [x0,x1] S
theorem F28_eq (self:EV) (N:Nat) (x0 x1:V) (S:St):F28 self N x0 x1 S =
(qdb 23 x0 S).bind fun p0=>
(qdb 3 x1 p0.2).bind fun p1=>
some (.ret (.fn (.func 57) [] [p0.1,p1.1]),p1.2):=by kernel_rfl
noncomputable def C29:Code:=Try.f29.body.getD .skip
noncomputable def B29:D:=(qaq C29 [[],[]]).1
noncomputable def F29 (self:EV) (N:Nat) (x0:V) (S:St):Rs:=qb6 E0 self N Try.f29 B29 [x0] S
theorem F29_eq (self:EV) (N:Nat) (x0:V) (S:St):F29 self N x0 S =
(qdb 9 x0 S).bind fun p0=>
some (.ret (.fn (.func 58) [] [p0.1]),p0.2):=by kernel_rfl
noncomputable def C30:Code:=Try.f30.body.getD .skip
noncomputable def B30:D:=(qaq C30 [[],[]]).1
noncomputable def F30 (self:EV) (N:Nat) (x0 x1 x2:V) (S:St):Rs:=qb6 E0 self N Try.f30 B30 [x0,x1,x2] S
theorem F30_eq (self:EV) (N:Nat) (x0 x1 x2:V) (S:St):F30 self N x0 x1 x2 S =
(qdb 23 x0 S).bind fun p0=>
(qdb 3 x1 p0.2).bind fun p1=>
(qdb 9 x2 p1.2).bind fun p2=>
some (.ret (.fn (.func 60) [] [p0.1,p1.1,p2.1]),p2.2):=by kernel_rfl
noncomputable def C32:Code:=Try.f32.body.getD .skip
noncomputable def B32:D:=(qaq C32 [[],[]]).1
noncomputable def F32 (self:EV) (N:Nat) (x0 x1 x2:V) (S:St):Rs:=qb6 E0 self N Try.f32 B32 [x0,x1,x2] S
theorem F32_eq (self:EV) (N:Nat) (x0 x1 x2:V) (S:St):F32 self N x0 x1 x2 S =
(qdb 23 x0 S).bind fun p0=>
(qdb 3 x1 p0.2).bind fun p1=>
(qdb 3 x2 p1.2).bind fun p2=>
some (.ret (.fn (.func 61) [] [p0.1,p1.1,p2.1]),p2.2):=by kernel_rfl
noncomputable def C33:Code:=Try.f33.body.getD .skip
noncomputable def B33:D:=(qaq C33 [[],[]]).1
noncomputable def F33 (self:EV) (N:Nat) (x0 x1:V) (S:St):Rs:=qb6 E0 self N Try.f33 B33 [x0,x1] S
theorem F33_eq (self:EV) (N:Nat) (x0 x1:V) (S:St):F33 self N x0 x1 S =
(qdb 23 x0 S).bind fun p0=>
(qdb 3 x1 p0.2).bind fun p1=>
some (.ret (.fn (.func 62) [] [p0.1,p1.1]),p1.2):=by kernel_rfl
noncomputable def C37:Code:=Try.f37.body.getD .skip
noncomputable def B37:D:=(qaq C37 [[],[]]).1
noncomputable def F37 (self:EV) (N:Nat) (x0 x1 x2:V) (S:St):Rs:=qb6 E0 self N Try.f37 B37 [x0,x1,x2] S
theorem F37_eq (self:EV) (N:Nat) (x0 x1 x2:V) (S:St):F37 self N x0 x1 x2 S =
(qdb 23 x0 S).bind fun p0=>
(qdb 3 x1 p0.2).bind fun p1=>
(qdb 9 x2 p1.2).bind fun p2=>
some (.ret (.fn (.func 63) [] [p0.1,p1.1,p2.1]),p2.2):=by kernel_rfl
noncomputable def C56:Code:=Try.f56.body.getD .skip
noncomputable def B56:D:=(qaq C56 [[],[]]).1
noncomputable def F56 (self:EV) (N:Nat) (x0 x1:V) (S:St):Rs:=qb6 E0 self N Try.f56 B56 [x0,x1] S
theorem F56_eq (self:EV) (N:Nat) (x0 x1:V) (S:St):F56 self N x0 x1 S =
qah (qk0 E0 self (.fn (.func 77) [] []) [x0,x1] S) fun t3 S3=>
some (.ret t3,S3):=by kernel_rfl
noncomputable def C24:Code:=Try.f24.body.getD .skip
noncomputable def B24:D:=(qaq C24 [[],[]]).1
noncomputable def F24 (self:EV) (N:Nat) (x0 x1:V) (S:St):Rs:=qb6 E0 self N Try.f24 B24 [x0,x1] S
theorem F24_eq (self:EV) (N:Nat) (x0 x1:V) (S:St):F24 self N x0 x1 S =
qah (self.f 56 [x0,x1] S) fun t3 S3=>
some (.ret t3,S3):=by kernel_rfl
end
noncomputable section
noncomputable def C26:Code:=Try.f26.body.getD .skip
noncomputable def B26:D:=(qaq C26 [[],[],[6,7,8],[],[],[],[],[],[],[],[],[0],[2],[]]).1
noncomputable def RL26:List Nat:=cellsOf Try.f26.results.toList
noncomputable def R26_1 (self:EV) (N:Nat) (nk:Ac->St->Rs) (ek:Nat->Ac->St->Rs) (a:Ac) (S:St):Rs:=qbo [] a fun a=>dr E0 self RL26 N (B26.r).r (mkK E0 self Try.f26 nk ek) a S
theorem R26_1_eq (self:EV) (N:Nat) (nk:Ac->St->Rs) (ek:Nat->Ac->St->Rs) (S:St):R26_1 self N nk ek (fr 18 []) S =
some (.ret (.int .i64 0),S):=by kernel_rfl
noncomputable def L26_6 (self:EV) (N:Nat) (nk:Ac->St->Rs) (ek:Nat->Ac->St->Rs) (n:Nat) ( v6 v7 v8:V) (S:St):Rs:=qez [6,7,8] (dr E0 self RL26 N (B26.r.l.r.l.l)) (mkK E0 self Try.f26 nk ek) n (fr 18 [(6,v6),(7,v7),(8,v8)]) S
theorem L26_6_eq (self:EV) (N:Nat) (nk:Ac->St->Rs) (ek:Nat->Ac->St->Rs) (n:Nat) ( v6 v7 v8:V) (S:St):L26_6 self N nk ek (n+1) v6 v7 v8 S =
(qa6 E0 .lss 3 false false v8 v7).bind fun t7=>
ifK t7 (
(ixP 1 v6 v8).bind fun t8=>
(ld1 t8 S).bind fun p9=>
qah (qk0 E0 self p9.1 [] p9.2) fun t12 S12=>
(qa6 E0 .neq 27 false true t12 (.int .i64 0)).bind fun t15=>
ifK t15 (
some (.ret t12,S12)) (
(qa6 E0 .add 3 false true v8 (.int .i64 1)).bind fun t18=>
L26_6 self N nk ek n v6 v7 t18 S12)) (
ek 0 (fr 18 []) S):=by kernel_rfl
noncomputable def F26 (self:EV) (N:Nat) (x0:V) (S:St):Rs:=qb6 E0 self N Try.f26 B26 [x0] S
theorem F26_eq (self:EV) (N:Nat) (x0:V) (S:St):F26 self N x0 S =
(lnS x0 S).bind fun p4=>
L26_6 self N (R26_1 self N (qc0 E0 self Try.f26) qbd) (exB 0 (R26_1 self N (qc0 E0 self Try.f26) qbd) qbd) N x0 p4.1 (.int .i64 0) p4.2:=by kernel_rfl
noncomputable def C35:Code:=Try.f35.body.getD .skip
noncomputable def B35:D:=(qaq C35 [[],[],[],[],[]]).1
noncomputable def F35 (self:EV) (N:Nat) (x0 x1:V) (S:St):Rs:=qb6 E0 self N Try.f35 B35 [x0,x1] S
theorem F35_eq (self:EV) (N:Nat) (x0 x1:V) (S:St):F35 self N x0 x1 S =
(qa6 E0 .eql 23 false true x0 .nilptr).bind fun t2=>
ifK t2 (
some (.ret .nilptr,S)) (
(qa2 x0).bind fun t5=>
(faP 4 false 1 t5).bind fun t6=>
(ld1 t6 S).bind fun p7=>
(qal E0 66 p7.1 x1 false p7.2).bind fun p9=>
some (.ret p9.1,p9.2)):=by kernel_rfl
noncomputable def C17:Code:=Try.f17.body.getD .skip
noncomputable def B17:D:=(qaq C17 [[],[],[],[],[],[]]).1
noncomputable def F17 (self:EV) (N:Nat) (x0 x1:V) (S:St):Rs:=qb6 E0 self N Try.f17 B17 [x0,x1] S
theorem F17_eq (self:EV) (N:Nat) (x0 x1:V) (S:St):F17 self N x0 x1 S =
qah (self.f 35 [x0,x1] S) fun t3 S3=>
(qa6 E0 .eql 62 false true t3 .nilptr).bind fun t6=>
ifK t6 (
some (.ret (.int .i64 0),S3)) (
(qa2 t3).bind fun t9=>
(faP 4 false 1 t9).bind fun t10=>
(ld1 t10 S3).bind fun p11=>
some (.ret p11.1,p11.2)):=by kernel_rfl
noncomputable def C57:Code:=Try.f57.body.getD .skip
noncomputable def B57:D:=(qaq C57 [[],[],[],[],[],[]]).1
noncomputable def F57 (self:EV) (N:Nat) (x0 x1:V) (S:St):Rs:=qb6 E0 self N Try.f57 B57 [x0,x1] S
theorem F57_eq (self:EV) (N:Nat) (x0 x1:V) (S:St):F57 self N x0 x1 S =
(ld1 x0 S).bind fun p1=>
(ld1 x1 p1.2).bind fun p2=>
qah (self.f 35 [p1.1,p2.1] p2.2) fun t3 S3=>
(qa6 E0 .eql 62 false true t3 .nilptr).bind fun t6=>
ifK t6 (
some (.ret (.int .i64 5),S3)) (
(qa2 t3).bind fun t9=>
(faP 0 true 4 t9).bind fun t10=>
(faP 0 false 1 t10).bind fun t11=>
(ld1 t11 S3).bind fun p12=>
(qa6 E0 .eql 3 false true p12.1 (.int .i64 2)).bind fun t13=>
qah (self.f 25 [t13,(.int .i64 8)] p12.2) fun t14 S14=>
some (.ret t14,S14)):=by kernel_rfl
noncomputable def C58:Code:=Try.f58.body.getD .skip
noncomputable def B58:D:=(qaq C58 [[],[],[],[],[]]).1
noncomputable def F58 (self:EV) (N:Nat) (x0:V) (S:St):Rs:=qb6 E0 self N Try.f58 B58 [x0] S
theorem F58_eq (self:EV) (N:Nat) (x0:V) (S:St):F58 self N x0 S =
(ld1 x0 S).bind fun p1=>
(qeb p1.1 p1.2).bind fun p2=>
(qa6 E0 .gtr 3 false true p2.1 (.int .i64 56)).bind fun t3=>
ifK t3 (
some (.ret (.int .i64 3),p2.2)) (
(ld1 x0 p2.2).bind fun p5=>
(qa6 E0 .neq 9 false true p5.1 (sv [])).bind fun t6=>
(qa3 true t6).bind fun g8=>(bif g8 then ld1 x0 p5.2 else some (.tuple [],p5.2)).bind fun p8=>
(qa3 true t6).bind fun g9=>(bif g9 then qa6 E0 .neq 9 false true p8.1 (sv [46])else some (.tuple [])).bind fun t9=>
(qaw t6 (some t9) (some (.bool false))).bind fun t10=>
(qa3 true t10).bind fun g12=>(bif g12 then ld1 x0 p8.2 else some (.tuple [],p8.2)).bind fun p12=>
(qa3 true t10).bind fun g13=>(bif g13 then qa6 E0 .neq 9 false true p12.1 (sv [46,46])else some (.tuple [])).bind fun t13=>
(qaw t10 (some t13) (some (.bool false))).bind fun t14=>
(qa3 true t14).bind fun g16=>(bif g16 then ld1 x0 p12.2 else some (.tuple [],p12.2)).bind fun p16=>
(qa3 true t14).bind fun g17=>qah (bif g17 then self.f 59 [p16.1,(sv [47,0])] p16.2 else some (.ret (.tuple []),p16.2)) fun t17 S17=>
(qa3 true t14).bind fun g18=>(bif g18 then unV .not t17 else some (.tuple [])).bind fun t18=>
(qaw t14 (some t18) (some (.bool false))).bind fun t19=>
qah (self.f 25 [t19,(.int .i64 2)] S17) fun t20 S20=>
some (.ret t20,S20)):=by kernel_rfl
end
noncomputable section
noncomputable def C60:Code:=Try.f60.body.getD .skip
noncomputable def B60:D:=(qaq C60 [[],[],[]]).1
noncomputable def F60 (self:EV) (N:Nat) (x0 x1 x2:V) (S:St):Rs:=qb6 E0 self N Try.f60 B60 [x0,x1,x2] S
theorem F60_eq (self:EV) (N:Nat) (x0 x1 x2:V) (S:St):F60 self N x0 x1 x2 S =
(ld1 x0 S).bind fun p1=>
(ld1 x1 p1.2).bind fun p2=>
(ld1 x2 p2.2).bind fun p3=>
qah (self.f 13 [p1.1,p2.1,p3.1] p3.2) fun t4 S4=>
(qab t4 0).bind fun t6=>
(qab t4 1).bind fun t7=>
(unV .not t7).bind fun t11=>
qah (self.f 25 [t11,(.int .i64 6)] S4) fun t12 S12=>
some (.ret t12,S12):=by kernel_rfl
noncomputable def C61:Code:=Try.f61.body.getD .skip
noncomputable def B61:D:=(qaq C61 [[],[]]).1
noncomputable def F61 (self:EV) (N:Nat) (x0 x1 x2:V) (S:St):Rs:=qb6 E0 self N Try.f61 B61 [x0,x1,x2] S
theorem F61_eq (self:EV) (N:Nat) (x0 x1 x2:V) (S:St):F61 self N x0 x1 x2 S =
(ld1 x0 (onS S)).bind fun p1=>
(qa2 p1.1).bind fun t2=>
(faP 2 true 2 t2).bind fun t3=>
(faP 0 false 1 t3).bind fun t4=>
(ld1 t4 (onS p1.2)).bind fun p5=>
(ld1 x1 (onS p5.2)).bind fun p6=>
(qa6 E0 .add 3 false false p5.1 p6.1).bind fun t7=>
(ld1 x0 (onS p6.2)).bind fun p8=>
(qa2 p8.1).bind fun t9=>
(faP 0 true 2 t9).bind fun t10=>
(faP 0 false 1 t10).bind fun t11=>
(ld1 t11 (onS p8.2)).bind fun p12=>
(qa6 E0 .leq 3 false false t7 p12.1).bind fun t13=>
(qa3 true t13).bind fun g15=>(bif g15 then ld1 x0 (onS p12.2)else some (.tuple [],(onS p12.2))).bind fun p15=>
(qa3 true t13).bind fun g16=>(bif g16 then qa2 p15.1 else some (.tuple [])).bind fun t16=>
(qa3 true t13).bind fun g17=>(bif g17 then faP 2 true 2 t16 else some (.tuple [])).bind fun t17=>
(qa3 true t13).bind fun g18=>(bif g18 then faP 1 false 1 t17 else some (.tuple [])).bind fun t18=>
(qa3 true t13).bind fun g19=>(bif g19 then ld1 t18 (onS p15.2)else some (.tuple [],(onS p15.2))).bind fun p19=>
(qa3 true t13).bind fun g20=>(bif g20 then ld1 x2 (onS p19.2)else some (.tuple [],(onS p19.2))).bind fun p20=>
(qa3 true t13).bind fun g21=>(bif g21 then qa6 E0 .add 3 false false p19.1 p20.1 else some (.tuple [])).bind fun t21=>
(qa3 true t13).bind fun g22=>(bif g22 then ld1 x0 (onS p20.2)else some (.tuple [],(onS p20.2))).bind fun p22=>
(qa3 true t13).bind fun g23=>(bif g23 then qa2 p22.1 else some (.tuple [])).bind fun t23=>
(qa3 true t13).bind fun g24=>(bif g24 then faP 0 true 2 t23 else some (.tuple [])).bind fun t24=>
(qa3 true t13).bind fun g25=>(bif g25 then faP 1 false 1 t24 else some (.tuple [])).bind fun t25=>
(qa3 true t13).bind fun g26=>(bif g26 then ld1 t25 (onS p22.2)else some (.tuple [],(onS p22.2))).bind fun p26=>
(qa3 true t13).bind fun g27=>(bif g27 then qa6 E0 .leq 3 false false t21 p26.1 else some (.tuple [])).bind fun t27=>
(qaw t13 (some t27) (some (.bool false))).bind fun t28=>
qbq (qaf E0 (B61.r.l).ops) S 28 [p1.2.log,[],[],[],p5.2.log,p6.2.log,[],p8.2.log,[],[],[],p12.2.log,[],[],p15.2.log,[],[],[],p19.2.log,p20.2.log,[],p22.2.log,[],[],[],p26.2.log,[],[]] (self.f 25 [t28,(.int .i64 10)] (onS p26.2)) fun t29 S29=>
qgx [(0,[5,7,11]),(4,[5,7,11]),(5,[7,11]),(14,[19,21,25]),(18,[19,21,25]),(19,[21,25])] S [p1.2.log,[],[],[],p5.2.log,p6.2.log,[],p8.2.log,[],[],[],p12.2.log,[],[],p15.2.log,[],[],[],p19.2.log,p20.2.log,[],p22.2.log,[],[],[],p26.2.log,[],[],S29.log,[]] (onS S29) fun S31=>
some (.ret t29,S31):=by kernel_rfl
noncomputable def C62:Code:=Try.f62.body.getD .skip
noncomputable def B62:D:=(qaq C62 [[],[],[],[],[],[],[],[]]).1
noncomputable def F62 (self:EV) (N:Nat) (x0 x1:V) (S:St):Rs:=qb6 E0 self N Try.f62 B62 [x0,x1] S
theorem F62_eq (self:EV) (N:Nat) (x0 x1:V) (S:St):F62 self N x0 x1 S =
(ld1 x0 S).bind fun p1=>
(ld1 x1 p1.2).bind fun p2=>
qah (self.f 35 [p1.1,p2.1] p2.2) fun t3 S3=>
(qa6 E0 .eql 62 false true t3 .nilptr).bind fun t6=>
ifK t6 (
some (.ret (.int .i64 5),S3)) (
(qa2 t3).bind fun t10=>
(faP 0 true 4 t10).bind fun t11=>
(faP 0 false 1 t11).bind fun t12=>
(ld1 t12 S3).bind fun p13=>
(qa6 E0 .eql 3 false true p13.1 (.int .i64 2)).bind fun t14=>
ifK t14 (
some (.ret (.int .i64 7),p13.2)) (
(qa2 t3).bind fun t18=>
(faP 0 true 4 t18).bind fun t19=>
(faP 0 false 1 t19).bind fun t20=>
(ld1 t20 p13.2).bind fun p21=>
(qa6 E0 .eql 3 false true p21.1 (.int .i64 1)).bind fun t22=>
qah (self.f 25 [t22,(.int .i64 2)] p21.2) fun t23 S23=>
some (.ret t23,S23))):=by kernel_rfl
noncomputable def C63:Code:=Try.f63.body.getD .skip
noncomputable def B63:D:=(qaq C63 [[],[],[]]).1
noncomputable def F63 (self:EV) (N:Nat) (x0 x1 x2:V) (S:St):Rs:=qb6 E0 self N Try.f63 B63 [x0,x1,x2] S
theorem F63_eq (self:EV) (N:Nat) (x0 x1 x2:V) (S:St):F63 self N x0 x1 x2 S =
(ld1 x0 S).bind fun p1=>
(ld1 x1 p1.2).bind fun p2=>
(ld1 x2 p2.2).bind fun p3=>
qah (self.f 13 [p1.1,p2.1,p3.1] p3.2) fun t4 S4=>
(qab t4 0).bind fun t6=>
(qab t4 1).bind fun t7=>
qah (self.f 25 [t7,(.int .i64 5)] S4) fun t11 S11=>
some (.ret t11,S11):=by kernel_rfl
noncomputable def C34:Code:=Try.f34.body.getD .skip
noncomputable def B34:D:=(qaq C34 [[],[]]).1
noncomputable def F34 (self:EV) (N:Nat) (x0 x1 x2:V) (S:St):Rs:=qb6 E0 self N Try.f34 B34 [x0,x1,x2] S
theorem F34_eq (self:EV) (N:Nat) (x0 x1 x2:V) (S:St):F34 self N x0 x1 x2 S =
(ld1 x0 (onS S)).bind fun p1=>
(ld1 x1 (onS p1.2)).bind fun p2=>
(qeb p2.1 (onS p2.2)).bind fun p3=>
(ld1 x0 (onS p3.2)).bind fun p4=>
(qa2 p4.1).bind fun t5=>
(faP 4 false 1 t5).bind fun t6=>
(ld1 t6 (onS p4.2)).bind fun p7=>
(ld1 x2 (onS p7.2)).bind fun p8=>
(qal E0 66 p7.1 p8.1 false (onS p8.2)).bind fun p9=>
(qa2 p9.1).bind fun t10=>
(faP 0 true 4 t10).bind fun t11=>
(faP 2 false 1 t11).bind fun t12=>
(ld1 t12 (onS p9.2)).bind fun p13=>
(qeb p13.1 (onS p13.2)).bind fun p14=>
(qa6 E0 .sub 3 false false p3.1 p14.1).bind fun t15=>
qbq (qaf E0 (B34.r.l).ops) S 15 [p1.2.log,p2.2.log,p3.2.log,p4.2.log,[],[],p7.2.log,p8.2.log,p9.2.log,[],[],[],p13.2.log,p14.2.log,[]] (self.f 32 [p1.1,(.int .i64 0),t15] (onS p14.2)) fun t16 S16=>
qbq (qaf E0 (B34.r.l).ops) S 16 [p1.2.log,p2.2.log,p3.2.log,p4.2.log,[],[],p7.2.log,p8.2.log,p9.2.log,[],[],[],p13.2.log,p14.2.log,[],S16.log] (qk0 E0 self t16 [] (onS S16)) fun t17 S17=>
qgx [(0,[1,2,3,6,7,8,12,13]),(1,[3,6,7,8,12,13]),(2,[3,6,7,8,12,13]),(3,[7]),(6,[7])] S [p1.2.log,p2.2.log,p3.2.log,p4.2.log,[],[],p7.2.log,p8.2.log,p9.2.log,[],[],[],p13.2.log,p14.2.log,[],S16.log,S17.log,[]] (onS S17) fun S19=>
some (.ret t17,S19):=by kernel_rfl
noncomputable def C31:Code:=Try.f31.body.getD .skip
noncomputable def B31:D:=(qaq C31 [[],[]]).1
noncomputable def F31 (self:EV) (N:Nat) (x0 x1:V) (S:St):Rs:=qb6 E0 self N Try.f31 B31 [x0,x1] S
theorem F31_eq (self:EV) (N:Nat) (x0 x1:V) (S:St):F31 self N x0 x1 S =
(ld1 x0 S).bind fun p1=>
(ld1 x1 p1.2).bind fun p2=>
(qeb p2.1 p2.2).bind fun p3=>
qah (self.f 32 [p1.1,(.int .i64 1),p3.1] p3.2) fun t4 S4=>
qah (qk0 E0 self t4 [] S4) fun t5 S5=>
some (.ret t5,S5):=by kernel_rfl
end
noncomputable section
noncomputable def C36:Code:=Try.f36.body.getD .skip
noncomputable def B36:D:=(qaq C36 [[],[],[]]).1
noncomputable def F36 (self:EV) (N:Nat) (x0 x1 x2:V) (S:St):Rs:=qb6 E0 self N Try.f36 B36 [x0,x1,x2] S
theorem F36_eq (self:EV) (N:Nat) (x0 x1 x2:V) (S:St):F36 self N x0 x1 x2 S =
(ld1 x0 S).bind fun p1=>
(ld1 x1 p1.2).bind fun p2=>
(ld1 x2 p2.2).bind fun p3=>
qah (self.f 13 [p1.1,p2.1,p3.1] p3.2) fun t4 S4=>
(qab t4 0).bind fun t6=>
(qab t4 1).bind fun t7=>
(ld1 x0 S4).bind fun p10=>
(qa2 p10.1).bind fun t11=>
(faP 4 false 1 t11).bind fun t12=>
(ld1 t12 p10.2).bind fun p13=>
(qal E0 66 p13.1 t6 false p13.2).bind fun p15=>
(qa2 p15.1).bind fun t16=>
(faP 5 false 1 t16).bind fun t17=>
(ld1 t17 p15.2).bind fun p18=>
(lnMap p18.1 p18.2).bind fun p19=>
(qa6 E0 .eql 3 false true p19.1 (.int .i64 0)).bind fun t20=>
qah (self.f 25 [t20,(.int .i64 20)] p19.2) fun t21 S21=>
some (.ret t21,S21):=by kernel_rfl
noncomputable def C23:Code:=Try.f23.body.getD .skip
noncomputable def B23:D:=(qaq C23 [[],[],[],[]]).1
noncomputable def F23 (self:EV) (N:Nat) (x0 x1 x2:V) (S:St):Rs:=qb6 E0 self N Try.f23 B23 [x0,x1,x2] S
theorem F23_eq (self:EV) (N:Nat) (x0 x1 x2:V) (S:St):F23 self N x0 x1 x2 S =
(ld1 x0 S).bind fun p1=>
(qa6 E0 .neq 9 false true p1.1 (sv [])).bind fun t2=>
(qa3 true t2).bind fun g4=>(bif g4 then ld1 x0 p1.2 else some (.tuple [],p1.2)).bind fun p4=>
(qa3 true t2).bind fun g5=>(bif g5 then qeb p4.1 p4.2 else some (.tuple [],p4.2)).bind fun p5=>
(qa3 true t2).bind fun g6=>(bif g6 then qa6 E0 .leq 3 false true p5.1 (.int .i64 255)else some (.tuple [])).bind fun t6=>
(qaw t2 (some t6) (some (.bool false))).bind fun t7=>
(qa3 true t7).bind fun g9=>(bif g9 then ld1 x0 p5.2 else some (.tuple [],p5.2)).bind fun p9=>
(qa3 true t7).bind fun g10=>qah (bif g10 then self.f 24 [p9.1,(.int .u8 0)] p9.2 else some (.ret (.tuple []),p9.2)) fun t10 S10=>
(qa3 true t7).bind fun g11=>(bif g11 then qa6 E0 .lss 3 false true t10 (.int .i64 0)else some (.tuple [])).bind fun t11=>
(qaw t7 (some t11) (some (.bool false))).bind fun t12=>
(qd9 E0 70 none S10).bind fun p14=>
(vu (qam E0 70 p14.1 (.int .i64 1) (.bool true) p14.2)).bind fun p15=>
(ld1 x0 p15.2).bind fun p16=>
(qa6 E0 .eql 9 false true p16.1 (sv [])).bind fun t17=>
(vu (qam E0 70 p14.1 (.int .i64 2) t17 p16.2)).bind fun p18=>
(vu (qam E0 70 p14.1 (.int .i64 3) t12 p18.2)).bind fun p20=>
(ld1 x1 p20.2).bind fun p22=>
(qal E0 70 p14.1 p22.1 false p22.2).bind fun p23=>
(qa3 true p23.1).bind fun g27=>(bif g27 then ld1 x2 p23.2 else some (.tuple [],p23.2)).bind fun p27=>
(qa3 true p23.1).bind fun g28=>(bif g28 then qa6 E0 .geq 3 false true p27.1 (.int .i64 0)else some (.tuple [])).bind fun t28=>
(qaw p23.1 (some t28) (some (.bool false))).bind fun t29=>
(qa3 true t29).bind fun g31=>(bif g31 then ld1 x2 p27.2 else some (.tuple [],p27.2)).bind fun p31=>
(qa3 true t29).bind fun g32=>(bif g32 then qa6 E0 .leq 3 false true p31.1 (.int .i64 511)else some (.tuple [])).bind fun t32=>
(qaw t29 (some t32) (some (.bool false))).bind fun t33=>
qah (self.f 25 [t33,(.int .i64 2)] p31.2) fun t34 S34=>
some (.ret t34,S34):=by kernel_rfl
end
noncomputable section
noncomputable def C7:Code:=Try.f7.body.getD .skip
noncomputable def B7:D:=(qaq C7 [[],[],[],[],[],[]]).1
noncomputable def F7 (self:EV) (N:Nat) (x0:V) (S:St):Rs:=qb6 E0 self N Try.f7 B7 [x0] S
theorem F7_eq (self:EV) (N:Nat) (x0:V) (S:St):F7 self N x0 S =
(qdb 26 x0 S).bind fun p0=>
(faP 0 false 1 p0.1).bind fun t2=>
(ld1 t2 p0.2).bind fun p3=>
(qa6 E0 .lss 3 false true p3.1 (.int .i64 1)).bind fun t4=>
(qa3 false t4).bind fun g6=>(bif g6 then faP 0 false 1 p0.1 else some (.tuple [])).bind fun t6=>
(qa3 false t4).bind fun g7=>(bif g7 then ld1 t6 p3.2 else some (.tuple [],p3.2)).bind fun p7=>
(qa3 false t4).bind fun g8=>(bif g8 then qa6 E0 .gtr 3 false true p7.1 (.int .i64 1048576)else some (.tuple [])).bind fun t8=>
(qaw t4 (some (.bool true)) (some t8)).bind fun t9=>
(qa3 false t9).bind fun g11=>(bif g11 then faP 1 false 1 p0.1 else some (.tuple [])).bind fun t11=>
(qa3 false t9).bind fun g12=>(bif g12 then ld1 t11 p7.2 else some (.tuple [],p7.2)).bind fun p12=>
(qa3 false t9).bind fun g13=>(bif g13 then qa6 E0 .lss 3 false true p12.1 (.int .i64 0)else some (.tuple [])).bind fun t13=>
(qaw t9 (some (.bool true)) (some t13)).bind fun t14=>
(qa3 false t14).bind fun g16=>(bif g16 then faP 1 false 1 p0.1 else some (.tuple [])).bind fun t16=>
(qa3 false t14).bind fun g17=>(bif g17 then ld1 t16 p12.2 else some (.tuple [],p12.2)).bind fun p17=>
(qa3 false t14).bind fun g18=>(bif g18 then qa6 E0 .gtr 3 false true p17.1 (.int .i64 1073741824)else some (.tuple [])).bind fun t18=>
(qaw t14 (some (.bool true)) (some t18)).bind fun t19=>
ifK t19 (
some (.ret .nilptr,p17.2)) (
(qb9 E0 35 [(0,(.int .i64 2)),(1,(.int .i64 493)),(3,(.int .i64 1))]).bind fun t21=>
(qd9 E0 63 none p17.2).bind fun p22=>
(qb9 E0 65 [(0,t21),(1,(.int .i64 1)),(2,p22.1)]).bind fun t23=>
(qdb 65 t23 p22.2).bind fun p24=>
(ldA 2 p0.1 p24.2).bind fun p26=>
(qb9 E0 26 [(0,(.int .i64 1))]).bind fun t27=>
(qd9 E0 66 none p26.2).bind fun p28=>
(vu (qam E0 66 p28.1 (.int .i64 1) p24.1 p28.2)).bind fun p30=>
(qb9 E0 68 [(0,p26.1),(1,t27),(2,p28.1),(3,(.int .i64 1))]).bind fun t32=>
(qdb 68 t32 p30.2).bind fun p33=>
some (.ret p33.1,p33.2)):=by kernel_rfl
noncomputable def C11:Code:=Try.f11.body.getD .skip
noncomputable def B11:D:=(qaq C11 [[],[],[],[],[]]).1
noncomputable def F11 (self:EV) (N:Nat) (x0:V) (S:St):Rs:=qb6 E0 self N Try.f11 B11 [x0] S
theorem F11_eq (self:EV) (N:Nat) (x0:V) (S:St):F11 self N x0 S =
(some (nwP 26 2 (Tr.ofListFrom .nil [(.int .i64 0),(.int .i64 0)] 0) S)).bind fun p0=>
(qa6 E0 .eql 23 false true x0 .nilptr).bind fun t2=>
ifK t2 (
(qb9 E0 26 []).bind fun t3=>
(stP 2 p0.1 t3 p0.2).bind fun p4=>
(ldrA 2 p0.1 p4.2).bind fun p5=>
some (.ret p5.1,p5.2)) (
(qa2 x0).bind fun t7=>
(faP 2 true 2 t7).bind fun t8=>
(ldA 2 t8 p0.2).bind fun p9=>
(stP 2 p0.1 p9.1 p9.2).bind fun p10=>
(ldrA 2 p0.1 p10.2).bind fun p11=>
some (.ret p11.1,p11.2)):=by kernel_rfl
noncomputable def C12:Code:=Try.f12.body.getD .skip
noncomputable def B12:D:=(qaq C12 [[],[],[],[],[],[]]).1
noncomputable def F12 (self:EV) (N:Nat) (x0 x1:V) (S:St):Rs:=qb6 E0 self N Try.f12 B12 [x0,x1] S
theorem F12_eq (self:EV) (N:Nat) (x0 x1:V) (S:St):F12 self N x0 x1 S =
(some (nwP 35 4 (Tr.ofListFrom .nil [(.int .i64 0),(.int .i64 0),(sv []),(.int .i64 0)] 0) S)).bind fun p0=>
qah (self.f 35 [x0,x1] p0.2) fun t4 S4=>
(qa6 E0 .eql 62 false true t4 .nilptr).bind fun t7=>
ifK t7 (
(qb9 E0 35 []).bind fun t8=>
(stP 4 p0.1 t8 S4).bind fun p9=>
(ldrA 4 p0.1 p9.2).bind fun p11=>
some (.ret (.tuple [p11.1,(.bool false)]),p11.2)) (
(qa2 t4).bind fun t13=>
(faP 0 true 4 t13).bind fun t14=>
(ldA 4 t14 S4).bind fun p15=>
(stP 4 p0.1 p15.1 p15.2).bind fun p16=>
(ldrA 4 p0.1 p16.2).bind fun p18=>
some (.ret (.tuple [p18.1,(.bool true)]),p18.2)):=by kernel_rfl
noncomputable def C13:Code:=Try.f13.body.getD .skip
noncomputable def B13:D:=(qaq C13 [[],[],[],[],[],[],[]]).1
noncomputable def F13 (self:EV) (N:Nat) (x0 x1 x2:V) (S:St):Rs:=qb6 E0 self N Try.f13 B13 [x0,x1,x2] S
theorem F13_eq (self:EV) (N:Nat) (x0 x1 x2:V) (S:St):F13 self N x0 x1 x2 S =
qah (self.f 35 [x0,x1] S) fun t4 S4=>
(qa6 E0 .eql 62 false true t4 .nilptr).bind fun t7=>
ifK t7 (
some (.ret (.tuple [(.int .i64 0),(.bool false)]),S4)) (
(qa2 t4).bind fun t11=>
(faP 5 false 1 t11).bind fun t12=>
(ld1 t12 S4).bind fun p13=>
(qal E0 63 p13.1 x2 true p13.2).bind fun p15=>
(qab p15.1 0).bind fun t17=>
(qab p15.1 1).bind fun t18=>
some (.ret (.tuple [t17,t18]),p15.2)):=by kernel_rfl
end
noncomputable section
noncomputable def C8:Code:=Try.f8.body.getD .skip
noncomputable def B8:D:=(qaq C8 [[],[],[],[],[],[],[],[],[],[0,1,2,6,11,16],[12,13],[],[],[],[],[]]).1
noncomputable def RL8:List Nat:=cellsOf Try.f8.results.toList
noncomputable def qo3 (self:EV) (N:Nat) (nk:Ac->St->Rs) (ek:Nat->Ac->St->Rs) (a:Ac) (S:St):Rs:=qbo [1,2,6,11,16] a fun a=>dr E0 self RL8 N (B8.r.r.r.r.r).r (mkK E0 self Try.f8 nk ek) a S
theorem R8_45_eq (self:EV) (N:Nat) (nk:Ac->St->Rs) (ek:Nat->Ac->St->Rs) ( v1 v2 v6 v11 v16:V) (S:St):qo3 self N nk ek (fr 106 [(1,v1),(2,v2),(6,v6),(11,v11),(16,v16)]) S =
(ld1 v6 (onS S)).bind fun p46=>
(qa2 p46.1).bind fun t47=>
(faP 4 false 1 t47).bind fun t48=>
(ld1 t48 (onS p46.2)).bind fun p49=>
(ld1 v6 (onS p49.2)).bind fun p50=>
(qa2 p50.1).bind fun t51=>
(faP 5 false 1 t51).bind fun t52=>
(ld1 t52 (onS p50.2)).bind fun p53=>
(vu (qam E0 66 p49.1 p53.1 v16 (onS p53.2))).bind fun p55=>
qgx [(0,[4,7]),(3,[4,7])] S [p46.2.log,[],[],p49.2.log,p50.2.log,[],[],p53.2.log,[],p55.2.log] p55.2 fun S56=>
(ld1 v6 (onS S56)).bind fun p57=>
(qa2 p57.1).bind fun t58=>
(faP 4 false 1 t58).bind fun t59=>
(ld1 t59 (onS p57.2)).bind fun p60=>
(qal E0 66 p60.1 v1 false (onS p60.2)).bind fun p62=>
(qa2 p62.1).bind fun t63=>
(faP 5 false 1 t63).bind fun t64=>
(ld1 t64 (onS p62.2)).bind fun p65=>
(ld1 v6 (onS p65.2)).bind fun p67=>
(qa2 p67.1).bind fun t68=>
(faP 5 false 1 t68).bind fun t69=>
(ld1 t69 (onS p67.2)).bind fun p70=>
(vu (qam E0 63 p65.1 v2 p70.1 (onS p70.2))).bind fun p71=>
qgx [(0,[10,13]),(3,[10,13]),(5,[10,13]),(8,[10,13])] S56 [p57.2.log,[],[],p60.2.log,[],p62.2.log,[],[],p65.2.log,[],p67.2.log,[],[],p70.2.log,p71.2.log] p71.2 fun S72=>
(ld1 v6 S72).bind fun p73=>
(qa2 p73.1).bind fun t74=>
(faP 2 true 2 t74).bind fun t75=>
(faP 0 false 1 t75).bind fun t76=>
(ld1 t76 p73.2).bind fun p77=>
(qa6 E0 .add 3 false true p77.1 (.int .i64 1)).bind fun t78=>
(qa2 p73.1).bind fun t79=>
(faP 2 true 2 t79).bind fun t80=>
(faP 0 false 1 t80).bind fun t81=>
(stP 1 t81 t78 p77.2).bind fun p82=>
(ld1 v6 (onS p82.2)).bind fun p83=>
(qa2 p83.1).bind fun t84=>
(faP 2 true 2 t84).bind fun t85=>
(faP 1 false 1 t85).bind fun t86=>
(ld1 t86 (onS p83.2)).bind fun p87=>
(ld1 v11 (onS p87.2)).bind fun p88=>
(qeb p88.1 (onS p88.2)).bind fun p89=>
(qa6 E0 .add 3 false false p87.1 p89.1).bind fun t90=>
(qa2 p83.1).bind fun t91=>
(faP 2 true 2 t91).bind fun t92=>
(faP 1 false 1 t92).bind fun t93=>
(stP 1 t93 t90 (onS p89.2)).bind fun p94=>
qgx [(0,[5,6]),(4,[5,6])] p82.2 [p83.2.log,[],[],[],p87.2.log,p88.2.log,p89.2.log,[],[],[],[],p94.2.log] p94.2 fun S95=>
(ld1 v6 S95).bind fun p96=>
(qa2 p96.1).bind fun t97=>
(faP 5 false 1 t97).bind fun t98=>
(ld1 t98 p96.2).bind fun p99=>
some (.ret (.tuple [p99.1,(.int .i64 0)]),p99.2):=by kernel_rfl
noncomputable def F8 (self:EV) (N:Nat) (x0 x1 x2 x3 x4 x5:V) (S:St):Rs:=qb6 E0 self N Try.f8 B8 [x0,x1,x2,x3,x4,x5] S
theorem F8_eq (self:EV) (N:Nat) (x0 x1 x2 x3 x4 x5:V) (S:St):F8 self N x0 x1 x2 x3 x4 x5 S =
(qdb 23 x0 S).bind fun p0=>
(qdb 3 x3 p0.2).bind fun p1=>
(qdb 3 x4 p1.2).bind fun p2=>
(qdb 9 x5 p2.2).bind fun p3=>
(ld1 p0.1 (onS p3.2)).bind fun p8=>
(ld1 p0.1 (onS p8.2)).bind fun p10=>
qbq (qaf E0 (B8.r.r.l.l).ops) p3.2 4 [p8.2.log,[],p10.2.log,[]] (self.f 28 [p10.1,x1] (onS p10.2)) fun t12 S12=>
qbq (qaf E0 (B8.r.r.l.l).ops) p3.2 6 [p8.2.log,[],p10.2.log,[],S12.log,[]] (self.f 29 [x2] (onS S12)) fun t14 S14=>
(ld1 p0.1 (onS S14)).bind fun p16=>
qbq (qaf E0 (B8.r.r.l.l).ops) p3.2 11 [p8.2.log,[],p10.2.log,[],S12.log,[],S14.log,[],p16.2.log,[],[]] (self.f 30 [p16.1,x1,x2] (onS p16.2)) fun t19 S19=>
(bsP 72 1 6 (Ev.one .nilfn) [(0,(.fn (.func 27) [p8.1] [])),(1,t12),(2,t14),(3,(.fn (.func 23) [] [p3.1,p1.1,p2.1])),(4,t19),(5,(.fn (.func 31) [] [p0.1,p3.1]))] (onS S19)).bind fun p21=>
qbq (qaf E0 (B8.r.r.l.l).ops) p3.2 14 [p8.2.log,[],p10.2.log,[],S12.log,[],S14.log,[],p16.2.log,[],[],S19.log,[],p21.2.log] (self.f 26 [p21.1] (onS p21.2)) fun t22 S22=>
qgx [(0,[2,4,6,8,11]),(2,[8]),(4,[8]),(6,[8])] p3.2 [p8.2.log,[],p10.2.log,[],S12.log,[],S14.log,[],p16.2.log,[],[],S19.log,[],p21.2.log,S22.log,[]] (onS S22) fun S24=>
(qa6 E0 .neq 27 false true t22 (.int .i64 0)).bind fun t26=>
ifK t26 (
some (.ret (.tuple [(.int .i64 0),t22]),S24)) (
(ld1 p0.1 S24).bind fun p30=>
(qa2 p30.1).bind fun t31=>
(faP 5 false 1 t31).bind fun t32=>
(ld1 t32 p30.2).bind fun p33=>
(qa6 E0 .add 3 false true p33.1 (.int .i64 1)).bind fun t34=>
(qa2 p30.1).bind fun t35=>
(faP 5 false 1 t35).bind fun t36=>
(stP 1 t36 t34 p33.2).bind fun p37=>
(ld1 p1.1 p37.2).bind fun p38=>
(ld1 p2.1 p38.2).bind fun p39=>
(ld1 p3.1 p39.2).bind fun p40=>
(qb9 E0 35 [(0,p38.1),(1,p39.1),(2,p40.1),(3,(.int .i64 1))]).bind fun t41=>
(qb9 E0 65 [(0,t41)]).bind fun t42=>
(qdb 65 t42 p40.2).bind fun p43=>
(ld1 p1.1 p43.2).bind fun p102=>
(qa6 E0 .eql 3 false true p102.1 (.int .i64 2)).bind fun t103=>
ifK t103 (
(qd9 E0 63 none p102.2).bind fun p107=>
(qa2 p43.1).bind fun t108=>
(faP 4 false 1 t108).bind fun t109=>
(stP 1 t109 x1 p107.2).bind fun p110=>
(qa2 p43.1).bind fun t111=>
(faP 5 false 1 t111).bind fun t112=>
(stP 1 t112 p107.1 p110.2).bind fun p113=>
qo3 self N (qc0 E0 self Try.f8) qbd (fr 106 [(1,x1),(2,x2),(6,p0.1),(11,p3.1),(16,p43.1)]) p113.2) (
qo3 self N (qc0 E0 self Try.f8) qbd (fr 106 [(1,x1),(2,x2),(6,p0.1),(11,p3.1),(16,p43.1)]) p102.2)):=by kernel_rfl
end
noncomputable section
noncomputable def C9:Code:=Try.f9.body.getD .skip
noncomputable def B9:D:=(qaq C9 [[],[],[],[],[],[],[],[]]).1
noncomputable def F9 (self:EV) (N:Nat) (x0 x1 x2 x3:V) (S:St):Rs:=qb6 E0 self N Try.f9 B9 [x0,x1,x2,x3] S
theorem F9_eq (self:EV) (N:Nat) (x0 x1 x2 x3:V) (S:St):F9 self N x0 x1 x2 x3 S =
qah (self.f 28 [x0,x1] S) fun t5 S5=>
qah (self.f 29 [x2] S5) fun t7 S7=>
qah (self.f 33 [x0,x3] S7) fun t10 S10=>
qah (self.f 30 [x0,x1,x2] S10) fun t14 S14=>
(bsP 72 1 5 (Ev.one .nilfn) [(0,(.fn (.func 27) [x0] [])),(1,t5),(2,t7),(3,t10),(4,t14)] S14).bind fun p15=>
qah (self.f 26 [p15.1] p15.2) fun t16 S16=>
(qa6 E0 .neq 27 false true t16 (.int .i64 0)).bind fun t19=>
ifK t19 (
some (.ret t16,S16)) (
(qa2 x0).bind fun t23=>
(faP 4 false 1 t23).bind fun t24=>
(ld1 t24 S16).bind fun p25=>
(qal E0 66 p25.1 x1 false p25.2).bind fun p27=>
(qa2 p27.1).bind fun t28=>
(faP 5 false 1 t28).bind fun t29=>
(ld1 t29 p27.2).bind fun p30=>
(vu (qam E0 63 p30.1 x2 x3 p30.2)).bind fun p33=>
(qa2 x0).bind fun t35=>
(faP 4 false 1 t35).bind fun t36=>
(ld1 t36 p33.2).bind fun p37=>
(qal E0 66 p37.1 x3 false p37.2).bind fun p39=>
(qa2 p39.1).bind fun t40=>
(faP 0 true 4 t40).bind fun t41=>
(faP 3 false 1 t41).bind fun t42=>
(ld1 t42 p39.2).bind fun p43=>
(qa6 E0 .add 3 false true p43.1 (.int .i64 1)).bind fun t44=>
(qa2 p39.1).bind fun t45=>
(faP 0 true 4 t45).bind fun t46=>
(faP 3 false 1 t46).bind fun t47=>
(stP 1 t47 t44 p43.2).bind fun p48=>
some (.ret (.int .i64 0),p48.2)):=by kernel_rfl
noncomputable def C10:Code:=Try.f10.body.getD .skip
noncomputable def B10:D:=(qaq C10 [[],[],[],[],[],[],[],[],[],[]]).1
noncomputable def F10 (self:EV) (N:Nat) (x0 x1 x2:V) (S:St):Rs:=qb6 E0 self N Try.f10 B10 [x0,x1,x2] S
theorem F10_eq (self:EV) (N:Nat) (x0 x1 x2:V) (S:St):F10 self N x0 x1 x2 S =
(qdb 23 x0 S).bind fun p0=>
(qdb 3 x1 p0.2).bind fun p1=>
(qdb 9 x2 p1.2).bind fun p2=>
(ld1 p0.1 (onS p2.2)).bind fun p6=>
(ld1 p0.1 (onS p6.2)).bind fun p8=>
(ld1 p1.1 (onS p8.2)).bind fun p9=>
qbq (qaf E0 (B10.r.r.l.l).ops) p2.2 4 [p6.2.log,[],p8.2.log,p9.2.log] (self.f 33 [p8.1,p9.1] (onS p9.2)) fun t10 S10=>
(bsP 72 1 3 (Ev.one .nilfn) [(0,(.fn (.func 27) [p6.1] [])),(1,t10),(2,(.fn (.func 34) [] [p0.1,p2.1,p1.1]))] (onS S10)).bind fun p12=>
qbq (qaf E0 (B10.r.r.l.l).ops) p2.2 7 [p6.2.log,[],p8.2.log,p9.2.log,S10.log,[],p12.2.log] (self.f 26 [p12.1] (onS p12.2)) fun t13 S13=>
qgx [(0,[2,3,4]),(2,[3])] p2.2 [p6.2.log,[],p8.2.log,p9.2.log,S10.log,[],p12.2.log,S13.log,[]] (onS S13) fun S15=>
(qa6 E0 .neq 27 false true t13 (.int .i64 0)).bind fun t17=>
ifK t17 (
some (.ret t13,S15)) (
(ld1 p0.1 (onS S15)).bind fun p20=>
(qa2 p20.1).bind fun t21=>
(faP 4 false 1 t21).bind fun t22=>
(ld1 t22 (onS p20.2)).bind fun p23=>
(ld1 p1.1 (onS p23.2)).bind fun p24=>
(qal E0 66 p23.1 p24.1 false (onS p24.2)).bind fun p25=>
qgx [(0,[4]),(3,[4])] S15 [p20.2.log,[],[],p23.2.log,p24.2.log,p25.2.log,[]] (onS p25.2) fun S27=>
(ld1 p0.1 (onS S27)).bind fun p28=>
(qa2 p28.1).bind fun t29=>
(faP 2 true 2 t29).bind fun t30=>
(faP 1 false 1 t30).bind fun t31=>
(ld1 t31 (onS p28.2)).bind fun p32=>
(ld1 p2.1 (onS p32.2)).bind fun p33=>
(qeb p33.1 (onS p33.2)).bind fun p34=>
(qa2 p25.1).bind fun t36=>
(faP 0 true 4 t36).bind fun t37=>
(faP 2 false 1 t37).bind fun t38=>
(ld1 t38 (onS p34.2)).bind fun p39=>
(qeb p39.1 (onS p39.2)).bind fun p40=>
(qa6 E0 .sub 3 false false p34.1 p40.1).bind fun t41=>
(qa6 E0 .add 3 false false p32.1 t41).bind fun t42=>
(qa2 p28.1).bind fun t43=>
(faP 2 true 2 t43).bind fun t44=>
(faP 1 false 1 t44).bind fun t45=>
(stP 1 t45 t42 (onS p40.2)).bind fun p46=>
qgx [(0,[5,6,11,12]),(4,[5,6,11,12]),(5,[11,12]),(6,[11,12])] S27 [p28.2.log,[],[],[],p32.2.log,p33.2.log,p34.2.log,[],[],[],[],p39.2.log,p40.2.log,[],[],[],[],[],p46.2.log] p46.2 fun S47=>
(ld1 p2.1 S47).bind fun p49=>
(qa2 p25.1).bind fun t50=>
(faP 0 true 4 t50).bind fun t51=>
(faP 2 false 1 t51).bind fun t52=>
(stP 1 t52 p49.1 p49.2).bind fun p53=>
some (.ret (.int .i64 0),p53.2)):=by kernel_rfl
noncomputable def C14:Code:=Try.f14.body.getD .skip
noncomputable def B14:D:=(qaq C14 [[],[],[],[],[],[],[],[],[],[],[],[],[],[],[]]).1
noncomputable def F14 (self:EV) (N:Nat) (x0 x1 x2:V) (S:St):Rs:=qb6 E0 self N Try.f14 B14 [x0,x1,x2] S
theorem F14_eq (self:EV) (N:Nat) (x0 x1 x2:V) (S:St):F14 self N x0 x1 x2 S =
(qdb 23 x0 S).bind fun p0=>
(qdb 3 x1 p0.2).bind fun p1=>
(qdb 9 x2 p1.2).bind fun p2=>
(ld1 p0.1 (onS p2.2)).bind fun p6=>
(ld1 p0.1 (onS p6.2)).bind fun p8=>
(ld1 p1.1 (onS p8.2)).bind fun p9=>
qbq (qaf E0 (B14.r.r.l.l).ops) p2.2 4 [p6.2.log,[],p8.2.log,p9.2.log] (self.f 28 [p8.1,p9.1] (onS p9.2)) fun t10 S10=>
(ld1 p0.1 (onS S10)).bind fun p11=>
(ld1 p1.1 (onS p11.2)).bind fun p12=>
(ld1 p2.1 (onS p12.2)).bind fun p13=>
qbq (qaf E0 (B14.r.r.l.l).ops) p2.2 8 [p6.2.log,[],p8.2.log,p9.2.log,S10.log,p11.2.log,p12.2.log,p13.2.log] (self.f 37 [p11.1,p12.1,p13.1] (onS p13.2)) fun t14 S14=>
(bsP 72 1 4 (Ev.one .nilfn) [(0,(.fn (.func 27) [p6.1] [])),(1,t10),(2,t14),(3,(.fn (.func 36) [] [p0.1,p1.1,p2.1]))] (onS S14)).bind fun p16=>
qbq (qaf E0 (B14.r.r.l.l).ops) p2.2 11 [p6.2.log,[],p8.2.log,p9.2.log,S10.log,p11.2.log,p12.2.log,p13.2.log,S14.log,[],p16.2.log] (self.f 26 [p16.1] (onS p16.2)) fun t17 S17=>
qgx [(0,[2,3,4,5,6,7,8]),(2,[3,5,6,7]),(3,[5,6,7]),(4,[5,6,7]),(5,[6,7]),(6,[7])] p2.2 [p6.2.log,[],p8.2.log,p9.2.log,S10.log,p11.2.log,p12.2.log,p13.2.log,S14.log,[],p16.2.log,S17.log,[]] (onS S17) fun S19=>
(qa6 E0 .neq 27 false true t17 (.int .i64 0)).bind fun t21=>
ifK t21 (
some (.ret t17,S19)) (
(ld1 p0.1 S19).bind fun p24=>
(ld1 p1.1 p24.2).bind fun p25=>
(ld1 p2.1 p25.2).bind fun p26=>
qah (self.f 13 [p24.1,p25.1,p26.1] p26.2) fun t27 S27=>
(qab t27 0).bind fun t29=>
(qab t27 1).bind fun t30=>
(ld1 p0.1 (onS S27)).bind fun p33=>
(qa2 p33.1).bind fun t34=>
(faP 4 false 1 t34).bind fun t35=>
(ld1 t35 (onS p33.2)).bind fun p36=>
(ld1 p1.1 (onS p36.2)).bind fun p37=>
(qal E0 66 p36.1 p37.1 false (onS p37.2)).bind fun p38=>
(qa2 p38.1).bind fun t39=>
(faP 5 false 1 t39).bind fun t40=>
(ld1 t40 (onS p38.2)).bind fun p41=>
(ld1 p2.1 (onS p41.2)).bind fun p42=>
(vu (qbt E0 63 p41.1 p42.1 (onS p42.2))).bind fun p43=>
qgx [(0,[4,9]),(3,[4,9]),(4,[9]),(5,[9]),(8,[9])] S27 [p33.2.log,[],[],p36.2.log,p37.2.log,p38.2.log,[],[],p41.2.log,p42.2.log,p43.2.log] p43.2 fun S44=>
(ld1 p0.1 S44).bind fun p45=>
(qa2 p45.1).bind fun t46=>
(faP 4 false 1 t46).bind fun t47=>
(ld1 t47 p45.2).bind fun p48=>
(qal E0 66 p48.1 t29 false p48.2).bind fun p50=>
(qa2 p50.1).bind fun t53=>
(faP 0 true 4 t53).bind fun t54=>
(faP 3 false 1 t54).bind fun t55=>
(ld1 t55 p50.2).bind fun p56=>
(qa6 E0 .sub 3 false true p56.1 (.int .i64 1)).bind fun t57=>
(qa2 p50.1).bind fun t58=>
(faP 0 true 4 t58).bind fun t59=>
(faP 3 false 1 t59).bind fun t60=>
(stP 1 t60 t57 p56.2).bind fun p61=>
(qa2 p50.1).bind fun t63=>
(faP 0 true 4 t63).bind fun t64=>
(faP 3 false 1 t64).bind fun t65=>
(ld1 t65 p61.2).bind fun p66=>
(qa6 E0 .eql 3 false true p66.1 (.int .i64 0)).bind fun t67=>
ifK t67 (
(ld1 p0.1 p66.2).bind fun p68=>
(qa2 p68.1).bind fun t69=>
(faP 4 false 1 t69).bind fun t70=>
(ld1 t70 p68.2).bind fun p71=>
(vu (qbt E0 66 p71.1 t29 p71.2)).bind fun p73=>
(ld1 p0.1 p73.2).bind fun p74=>
(qa2 p74.1).bind fun t75=>
(faP 2 true 2 t75).bind fun t76=>
(faP 0 false 1 t76).bind fun t77=>
(ld1 t77 p74.2).bind fun p78=>
(qa6 E0 .sub 3 false true p78.1 (.int .i64 1)).bind fun t79=>
(qa2 p74.1).bind fun t80=>
(faP 2 true 2 t80).bind fun t81=>
(faP 0 false 1 t81).bind fun t82=>
(stP 1 t82 t79 p78.2).bind fun p83=>
(ld1 p0.1 (onS p83.2)).bind fun p84=>
(qa2 p84.1).bind fun t85=>
(faP 2 true 2 t85).bind fun t86=>
(faP 1 false 1 t86).bind fun t87=>
(ld1 t87 (onS p84.2)).bind fun p88=>
(qa2 p50.1).bind fun t90=>
(faP 0 true 4 t90).bind fun t91=>
(faP 2 false 1 t91).bind fun t92=>
(ld1 t92 (onS p88.2)).bind fun p93=>
(qeb p93.1 (onS p93.2)).bind fun p94=>
(qa6 E0 .sub 3 false false p88.1 p94.1).bind fun t95=>
(qa2 p84.1).bind fun t96=>
(faP 2 true 2 t96).bind fun t97=>
(faP 1 false 1 t97).bind fun t98=>
(stP 1 t98 t95 (onS p94.2)).bind fun p99=>
qgx [(0,[9,10]),(4,[9,10])] p83.2 [p84.2.log,[],[],[],p88.2.log,[],[],[],[],p93.2.log,p94.2.log,[],[],[],[],p99.2.log] p99.2 fun S100=>
some (.ret (.int .i64 0),S100)) (
some (.ret (.int .i64 0),p66.2))):=by kernel_rfl
end
end Go.Proofs.Ytbihlgcdnhoknaa.W

namespace Go.Proofs.Ytbihlgcdnhoknaa.W
open Go.Proofs.Ytbihlgcdnhoknaa.Ev
set_option maxRecDepth 100000
noncomputable section
noncomputable def C59:Code:=Try.f59.body.getD .skip
noncomputable def B59:D:=(qaq C59 [[],[]]).1
noncomputable def F59 (self:EV) (N:Nat) (x0 x1:V) (S:St):Rs:=qb6 E0 self N Try.f59 B59 [x0,x1] S
theorem F59_eq (self:EV) (N:Nat) (x0 x1:V) (S:St):F59 self N x0 x1 S =
qah (self.f 78 [x0,x1] S) fun t3 S3=>
(qa6 E0 .geq 3 false true t3 (.int .i64 0)).bind fun t4=>
some (.ret t4,S3):=by kernel_rfl
noncomputable def C78:Code:=Try.f78.body.getD .skip
noncomputable def B78:D:=(qaq C78 [[],[],[],[],[],[],[],[],[],[],[],[],[],[],[0,6,8],[],[],[],[],[],[],[0],[0,1],[],[0,0,1],[4],[],[1,45],[],[],[],[],[],[],[0],[4],[]]).1
noncomputable def RL78:List Nat:=cellsOf Try.f78.results.toList
noncomputable def qmj (self:EV) (N:Nat) (nk:Ac->St->Rs) (ek:Nat->Ac->St->Rs) (a:Ac) (S:St):Rs:=qbo [0,1] a fun a=>dr E0 self RL78 N (B78.r.r.r).r (mkK E0 self Try.f78 nk ek) a S
noncomputable def R78_23 (self:EV) (N:Nat) (nk:Ac->St->Rs) (ek:Nat->Ac->St->Rs) (a:Ac) (S:St):Rs:=qbo [] a fun a=>dr E0 self RL78 N (B78.r.r.r.r.l).r (mkK E0 self Try.f78 nk ek) a S
theorem R78_23_eq (self:EV) (N:Nat) (nk:Ac->St->Rs) (ek:Nat->Ac->St->Rs) (S:St):R78_23 self N nk ek (fr 55 []) S =
some (.ret (.int .i64 (-1)),S):=by kernel_rfl
noncomputable def L78_27 (self:EV) (N:Nat) (nk:Ac->St->Rs) (ek:Nat->Ac->St->Rs) (n:Nat) ( v1 v45:V) (S:St):Rs:=qez [1,45] (dr E0 self RL78 N (B78.r.r.r.r.l.l.r.l.l)) (mkK E0 self Try.f78 nk ek) n (fr 55 [(1,v1),(45,v45)]) S
theorem L78_27_eq (self:EV) (N:Nat) (nk:Ac->St->Rs) (ek:Nat->Ac->St->Rs) (n:Nat) ( v1 v45:V) (S:St):L78_27 self N nk ek (n+1) v1 v45 S =
(nextK v45 true S).bind fun p28=>
(qab p28.1 0).bind fun t29=>
ifK t29 (
(qab p28.1 1).bind fun t30=>
(qab p28.1 2).bind fun t31=>
qah (self.f 82 [v1,t31] p28.2) fun t36 S36=>
(qa6 E0 .geq 3 false true t36 (.int .i64 0)).bind fun t37=>
ifK t37 (
some (.ret t30,S36)) (
L78_27 self N nk ek n v1 v45 S36)) (
ek 2 (fr 55 []) p28.2):=by kernel_rfl
theorem R78_22_eq (self:EV) (N:Nat) (nk:Ac->St->Rs) (ek:Nat->Ac->St->Rs) ( v0 v1:V) (S:St):qmj self N nk ek (fr 55 [(0,v0),(1,v1)]) S =
(qhb E0 9 v0 S).bind fun p26=>
L78_27 self N (R78_23 self N (fun a s=>qbo [4] a fun a=>nk a s) ek) (exB 2 (R78_23 self N (fun a s=>qbo [4] a fun a=>nk a s) ek) ek) N v1 p26.1 p26.2:=by kernel_rfl
noncomputable def R78_52 (self:EV) (N:Nat) (nk:Ac->St->Rs) (ek:Nat->Ac->St->Rs) (a:Ac) (S:St):Rs:=qbo [] a fun a=>dr E0 self RL78 N (B78.r.r.r.l.r.l.r.r.l).r (mkK E0 self Try.f78 nk ek) a S
theorem R78_52_eq (self:EV) (N:Nat) (nk:Ac->St->Rs) (ek:Nat->Ac->St->Rs) (S:St):R78_52 self N nk ek (fr 55 []) S =
some (.ret (.int .i64 (-1)),S):=by kernel_rfl
noncomputable def L78_55 (self:EV) (N:Nat) (nk:Ac->St->Rs) (ek:Nat->Ac->St->Rs) (n:Nat) ( v0 v6 v8:V) (S:St):Rs:=qez [0,6,8] (dr E0 self RL78 N (B78.r.r.r.l.r.l.r.r.l.l.r.l.l)) (mkK E0 self Try.f78 nk ek) n (fr 55 [(0,v0),(6,v6),(8,v8)]) S
theorem L78_55_eq (self:EV) (N:Nat) (nk:Ac->St->Rs) (ek:Nat->Ac->St->Rs) (n:Nat) ( v0 v6 v8:V) (S:St):L78_55 self N nk ek (n+1) v0 v6 v8 S =
(qeb v0 S).bind fun p58=>
(qa6 E0 .lss 3 false false v8 p58.1).bind fun t59=>
ifK t59 (
(ixS v0 v8).bind fun t62=>
qah (self.f 85 [v6,t62] p58.2) fun t63 S63=>
ifK t63 (
some (.ret v8,S63)) (
(qa6 E0 .add 3 false true v8 (.int .i64 1)).bind fun t67=>
L78_55 self N nk ek n v0 v6 t67 S63)) (
ek 0 (fr 55 []) p58.2):=by kernel_rfl
noncomputable def F78 (self:EV) (N:Nat) (x0 x1:V) (S:St):Rs:=qb6 E0 self N Try.f78 B78 [x0,x1] S
noncomputable def C82:Code:=Try.f82.body.getD .skip
noncomputable def B82:D:=(qaq C82 [[],[],[],[],[],[175],[],[],[],[],[],[],[0],[4],[],[],[],[],[],[],[],[0,7,8,9],[],[],[],[],[],[],[],[],[0,0,7,8,9],[0,7,8,9],[],[0,7,8,9,12],[],[8,9],[],[],[],[0,8,9],[0,7,8,9],[],[],[],[],[],[],[0],[4],[],[],[],[],[],[],[],[],[],[0,7,8,9,14,15],[],[],[],[],[],[0,7,8,9,14,15,16],[],[8,9],[],[],[0,7,8,9,14,15],[],[0,8,9],[0,7,8,9,14,15],[],[0,0,7,8,9,14,15],[0,7,8,9,14,15],[0],[4],[]]).1
noncomputable def RL82:List Nat:=cellsOf Try.f82.results.toList
noncomputable def R82_16 (self:EV) (N:Nat) (nk:Ac->St->Rs) (ek:Nat->Ac->St->Rs) (a:Ac) (S:St):Rs:=qbo [] a fun a=>dr E0 self RL82 N (B82.r.l.r.r.r.l).r (mkK E0 self Try.f82 nk ek) a S
theorem R82_16_eq (self:EV) (N:Nat) (nk:Ac->St->Rs) (ek:Nat->Ac->St->Rs) (S:St):R82_16 self N nk ek (fr 187 []) S =
some (.ret (.int .i64 (-1)),S):=by kernel_rfl
noncomputable def L82_20 (self:EV) (N:Nat) (nk:Ac->St->Rs) (ek:Nat->Ac->St->Rs) (n:Nat) ( v175:V) (S:St):Rs:=qez [175] (dr E0 self RL82 N (B82.r.l.r.r.r.l.l.r.l.l)) (mkK E0 self Try.f82 nk ek) n (fr 187 [(175,v175)]) S
theorem qo0 (self:EV) (N:Nat) (nk:Ac->St->Rs) (ek:Nat->Ac->St->Rs) (n:Nat) ( v175:V) (S:St):L82_20 self N nk ek (n+1) v175 S =
(nextK v175 true S).bind fun p21=>
(qab p21.1 0).bind fun t22=>
ifK t22 (
(qab p21.1 1).bind fun t23=>
(qab p21.1 2).bind fun t24=>
(qa6 E0 .eql 21 false true t24 (.int .i32 65533)).bind fun t28=>
ifK t28 (
some (.ret t23,p21.2)) (
L82_20 self N nk ek n v175 p21.2)) (
ek 9 (fr 187 []) p21.2):=by kernel_rfl
noncomputable def R82_46 (self:EV) (N:Nat) (nk:Ac->St->Rs) (ek:Nat->Ac->St->Rs) (a:Ac) (S:St):Rs:=qbo [] a fun a=>dr E0 self RL82 N (B82.r.l.r.r.r.r.r.r.l.r.r.r.r).r (mkK E0 self Try.f82 nk ek) a S
theorem R82_46_eq (self:EV) (N:Nat) (nk:Ac->St->Rs) (ek:Nat->Ac->St->Rs) (S:St):R82_46 self N nk ek (fr 187 []) S =
some (.ret (.int .i64 (-1)),S):=by kernel_rfl
noncomputable def N82_48 (self:EV) (N:Nat) (nk:Ac->St->Rs) (ek:Nat->Ac->St->Rs) (n:Nat):Ac->St->Rs:=fun a S=>qbo [0,7,8,9] a fun a=>qez [0,7,8,9] (dr E0 self RL82 N (B82.r.l.r.r.r.r.r.r.l.r.r.r.r.l.l.l)) (mkK E0 self Try.f82 nk ek) n a S
noncomputable def L82_48 (self:EV) (N:Nat) (nk:Ac->St->Rs) (ek:Nat->Ac->St->Rs) (n:Nat) ( v0 v7 v8 v9:V) (S:St):Rs:=qez [0,7,8,9] (dr E0 self RL82 N (B82.r.l.r.r.r.r.r.r.l.r.r.r.r.l.l.l)) (mkK E0 self Try.f82 nk ek) n (fr 187 [(0,v0),(7,v7),(8,v8),(9,v9)]) S
noncomputable def R82_53 (self:EV) (N:Nat) (nk:Ac->St->Rs) (ek:Nat->Ac->St->Rs) (a:Ac) (S:St):Rs:=qbo [0,7,8,9] a fun a=>dr E0 self RL82 N (B82.r.l.r.r.r.r.r.r.l.r.r.r.r.l.l.l.r.l.l).r (mkK E0 self Try.f82 nk ek) a S
theorem L82_48_eq (self:EV) (N:Nat) (nk:Ac->St->Rs) (ek:Nat->Ac->St->Rs) (n:Nat) ( v0 v7 v8 v9:V) (S:St):L82_48 self N nk ek (n+1) v0 v7 v8 v9 S =
(qeb v0 S).bind fun p51=>
(qa6 E0 .lss 3 false false v9 p51.1).bind fun t52=>
ifK t52 (
(ixS v0 v9).bind fun t81=>
(ixS v7 v8).bind fun t84=>
(qa6 E0 .neq 5 false false t81 t84).bind fun t85=>
ifK t85 (
(qa6 E0 .add 3 false true v9 (.int .i64 1)).bind fun t88=>
(qc6 E0 9 v0 (some t88) none none (onS (qbe p51.2 (onS p51.2) [[],[],[],[],[],[],[]]))).bind fun p89=>
(ixS v7 v8).bind fun t92=>
qbq (qaf E0 (B82.r.l.r.r.r.r.r.r.l.r.r.r.r.l.l.l.r.l.l.l.r.l.l).ops) (qbe p51.2 (onS p51.2) [[],[],[],[],[],[],[]]) 7 [[],[],[],p89.2.log,[],[],[]] (self.f 24 [p89.1,t92] (onS p89.2)) fun t93 S93=>
(qa6 E0 .lss 3 false true t93 (.int .i64 0)).bind fun t96=>
ifK t96 (
some (.ret (.int .i64 (-1)),(qbe (qbe p51.2 (onS p51.2) [[],[],[],[],[],[],[]]) (onS S93) [[],[],[],p89.2.log,[],[],[],S93.log,[]]))) (
(qa6 E0 .add 3 false true t93 (.int .i64 1)).bind fun t100=>
(qa6 E0 .add 3 false false v9 t100).bind fun t101=>
R82_53 self N (N82_48 self N nk ek n) (exB 2 (N82_48 self N nk ek n) ek) (fr 187 [(0,v0),(7,v7),(8,v8),(9,t101)]) (qbe (qbe p51.2 (onS p51.2) [[],[],[],[],[],[],[]]) (onS S93) [[],[],[],p89.2.log,[],[],[],S93.log,[]]))) (
R82_53 self N (N82_48 self N nk ek n) (exB 2 (N82_48 self N nk ek n) ek) (fr 187 [(0,v0),(7,v7),(8,v8),(9,v9)]) (qbe p51.2 (onS p51.2) [[],[],[],[],[],[],[]]))) (
ek 1 (fr 187 []) p51.2):=by kernel_rfl
noncomputable def F82 (self:EV) (N:Nat) (x0 x1:V) (S:St):Rs:=qb6 E0 self N Try.f82 B82 [x0,x1] S
theorem F82_eq (self:EV) (N:Nat) (x0 x1:V) (S:St):F82 self N x0 x1 S =
(qa6 E0 .leq 21 true false (.int .i32 0) x1).bind fun t2=>
(qa3 true t2).bind fun g4=>(bif g4 then some x1 else some (.tuple [])).bind fun t4=>
(qa3 true t2).bind fun g5=>(bif g5 then qa6 E0 .lss 21 false true t4 (.int .i32 128)else some (.tuple [])).bind fun t5=>
(qaw t2 (some t5) (some (.bool false))).bind fun t6=>
ifK t6 (
(cvI .u8 x1 S).bind fun p10=>
qah (self.f 24 [x0,p10.1] p10.2) fun t11 S11=>
some (.ret t11,S11)) (
(qa6 E0 .eql 21 false true x1 (.int .i32 65533)).bind fun t14=>
ifK t14 (
(qhb E0 9 x0 S).bind fun p19=>
L82_20 self N (R82_16 self N (qc0 E0 self Try.f82) (exB 0 (qc0 E0 self Try.f82) qbd)) (exB 9 (R82_16 self N (qc0 E0 self Try.f82) (exB 0 (qc0 E0 self Try.f82) qbd)) (exB 0 (qc0 E0 self Try.f82) qbd)) N p19.1 p19.2) (
qah (self.f 97 [x1] S) fun t32 S32=>
(unV .not t32).bind fun t33=>
ifK t33 (
some (.ret (.int .i64 (-1)),S32)) (
(qch E0 21 9 x1 S32).bind fun p37=>
(qeb p37.1 p37.2).bind fun p40=>
(qa6 E0 .sub 3 false true p40.1 (.int .i64 1)).bind fun t41=>
L82_48 self N (R82_46 self N (qc0 E0 self Try.f82) (exB 0 (qc0 E0 self Try.f82) qbd)) (exB 1 (R82_46 self N (qc0 E0 self Try.f82) (exB 0 (qc0 E0 self Try.f82) qbd)) (exB 0 (qc0 E0 self Try.f82) qbd)) N x0 p37.1 t41 t41 p40.2))):=by kernel_rfl
noncomputable def C83:Code:=Try.f83.body.getD .skip
noncomputable def B83:D:=(qaq C83 [[],[]]).1
noncomputable def F83 (self:EV) (N:Nat) (x0:V) (S:St):Rs:=qb6 E0 self N Try.f83 B83 [x0] S
theorem F83_eq (self:EV) (N:Nat) (x0:V) (S:St):F83 self N x0 S =
(qa6 E0 .gtr 3 false true x0 (.int .i64 8)).bind fun t2=>
some (.ret t2,S):=by kernel_rfl
noncomputable def C84:Code:=Try.f84.body.getD .skip
noncomputable def B84:D:=(qaq C84 [[],[],[0,2,4],[],[2],[],[],[],[],[],[],[0,2],[2,3],[]]).1
noncomputable def RL84:List Nat:=cellsOf Try.f84.results.toList
noncomputable def R84_2 (self:EV) (N:Nat) (nk:Ac->St->Rs) (ek:Nat->Ac->St->Rs) (a:Ac) (S:St):Rs:=qbo [2] a fun a=>dr E0 self RL84 N (B84.r).r (mkK E0 self Try.f84 nk ek) a S
theorem R84_2_eq (self:EV) (N:Nat) (nk:Ac->St->Rs) (ek:Nat->Ac->St->Rs) ( v2:V) (S:St):R84_2 self N nk ek (fr 21 [(2,v2)]) S =
(ldA 256 v2 S).bind fun p3=>
(stP 256 v2 p3.1 p3.2).bind fun p4=>
(ldrA 256 v2 p4.2).bind fun p6=>
some (.ret (.tuple [p6.1,(.bool true)]),p6.2):=by kernel_rfl
noncomputable def L84_8 (self:EV) (N:Nat) (nk:Ac->St->Rs) (ek:Nat->Ac->St->Rs) (n:Nat) ( v0 v2 v4:V) (S:St):Rs:=qez [0,2,4] (dr E0 self RL84 N (B84.r.l.r.l.l)) (mkK E0 self Try.f84 nk ek) n (fr 21 [(0,v0),(2,v2),(4,v4)]) S
theorem L84_8_eq (self:EV) (N:Nat) (nk:Ac->St->Rs) (ek:Nat->Ac->St->Rs) (n:Nat) ( v0 v2 v4:V) (S:St):L84_8 self N nk ek (n+1) v0 v2 v4 S =
(qeb v0 S).bind fun p11=>
(qa6 E0 .lss 3 false false v4 p11.1).bind fun t12=>
ifK t12 (
(ixS v0 v4).bind fun t15=>
(qa6 E0 .geq 5 false true t15 (.int .u8 128)).bind fun t18=>
ifK t18 (
(ldA 256 v2 p11.2).bind fun p19=>
(stP 256 v2 p19.1 p19.2).bind fun p20=>
(ldrA 256 v2 p20.2).bind fun p22=>
some (.ret (.tuple [p22.1,(.bool false)]),p22.2)) (
(ixA 256 1 false 1 v2 t15).bind fun t24=>
(stP 1 t24 (.bool true) p11.2).bind fun p25=>
(qa6 E0 .add 3 false true v4 (.int .i64 1)).bind fun t27=>
L84_8 self N nk ek n v0 v2 t27 p25.2)) (
ek 0 (fr 21 [(2,v2)]) p11.2):=by kernel_rfl
noncomputable def F84 (self:EV) (N:Nat) (x0:V) (S:St):Rs:=qb6 E0 self N Try.f84 B84 [x0] S
noncomputable def C85:Code:=Try.f85.body.getD .skip
noncomputable def B85:D:=(qaq C85 [[],[]]).1
noncomputable def F85 (self:EV) (N:Nat) (x0 x1:V) (S:St):Rs:=qb6 E0 self N Try.f85 B85 [x0,x1] S
theorem F85_eq (self:EV) (N:Nat) (x0 x1:V) (S:St):F85 self N x0 x1 S =
(qa2 x0).bind fun t3=>
(ixA 256 1 false 1 t3 x1).bind fun t4=>
(ld1 t4 S).bind fun p5=>
some (.ret p5.1,p5.2):=by kernel_rfl
noncomputable def C97:Code:=Try.f97.body.getD .skip
noncomputable def B97:D:=(qaq C97 [[],[],[],[],[],[],[]]).1
noncomputable def F97 (self:EV) (N:Nat) (x0:V) (S:St):Rs:=qb6 E0 self N Try.f97 B97 [x0] S
theorem F97_eq (self:EV) (N:Nat) (x0:V) (S:St):F97 self N x0 S =
(qa6 E0 .leq 21 true false (.int .i32 0) x0).bind fun t2=>
(qa3 true t2).bind fun g4=>(bif g4 then some x0 else some (.tuple [])).bind fun t4=>
(qa3 true t2).bind fun g5=>(bif g5 then qa6 E0 .lss 21 false true t4 (.int .i32 55296)else some (.tuple [])).bind fun t5=>
(qaw t2 (some t5) (some (.bool false))).bind fun t6=>
ifK t6 (
some (.ret (.bool true),S)) (
(qa6 E0 .lss 21 true false (.int .i32 57343) x0).bind fun t10=>
(qa3 true t10).bind fun g12=>(bif g12 then some x0 else some (.tuple [])).bind fun t12=>
(qa3 true t10).bind fun g13=>(bif g13 then qa6 E0 .leq 21 false true t12 (.int .i32 1114111)else some (.tuple [])).bind fun t13=>
(qaw t10 (some t13) (some (.bool false))).bind fun t14=>
ifK t14 (
some (.ret (.bool true),S)) (
some (.ret (.bool false),S))):=by kernel_rfl
end
end Go.Proofs.Ytbihlgcdnhoknaa.W
