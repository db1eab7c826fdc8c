/-
  WHAT THE FUNCTIONS COME TO: each is read by the evaluator,printed,and told as a function of data,part 3 of 13 (no condition).
-/
import Derived.Test.YtpgegoeghaplkaaGreatDoorW2
import Derived.Test.YtpgegoeghaplkaaGreatDoorProg
import Derived.KernelRfl
namespace Go.Proofs.YtpgegoeghaplkaaGreatDoor.W
open Go.Proofs.YtpgegoeghaplkaaGreatDoor.Ev
set_option maxRecDepth 100000
noncomputable section
noncomputable def C50:Code:=Tryz.f50.body.getD .skip
noncomputable def B50:D:=(qao C50 [[],[],[],[0,3,6,7],[],[0],[],[],[],[],[],[0,0],[2],[]]).1
noncomputable def RL50:List Nat:=cellsOf Tryz.f50.results.toList
noncomputable def R50_2 (self:EV) (N:Nat) (nk:Ac->St->Rs) (ek:Nat->Ac->St->Rs) (a:Ac) (S:St):Rs:=qad [0] a fun a=>dr E0 self RL50 N (B50.r.r).r (mkK E0 self Tryz.f50 nk ek) a S
theorem R50_2_eq (self:EV) (N:Nat) (nk:Ac->St->Rs) (ek:Nat->Ac->St->Rs) ( v0:V) (S:St):R50_2 self N nk ek (fr 48 [(0,v0)]) S =
(qa4 E0 .neq 9 false true v0 (sv [])).bind fun t4=>
(qa3 true t4).bind fun g6=>(bif g6 then some v0 else some (.tuple [])).bind fun t6=>
(qa3 true t4).bind fun g7=>(bif g7 then qc5 t6 S else some (.tuple [],S)).bind fun p7=>
(qa3 true t4).bind fun g8=>(bif g8 then qa4 E0 .leq 3 false true p7.1 (.int .i64 56)else some (.tuple [])).bind fun t8=>
(qbl t4 (some t8) (some (.bool false))).bind fun t9=>
(qa3 true t9).bind fun g11=>(bif g11 then some v0 else some (.tuple [])).bind fun t11=>
(qa3 true t9).bind fun g12=>(bif g12 then qa4 E0 .neq 9 false true t11 (sv [111,117,116])else some (.tuple [])).bind fun t12=>
(qbl t9 (some t12) (some (.bool false))).bind fun t13=>
(qa3 true t13).bind fun g15=>(bif g15 then some v0 else some (.tuple [])).bind fun t15=>
(qa3 true t13).bind fun g16=>(bif g16 then qa4 E0 .neq 9 false true t15 (sv [110,97,109,101])else some (.tuple [])).bind fun t16=>
(qbl t13 (some t16) (some (.bool false))).bind fun t17=>
some (.ret t17,p7.2):=by kernel_rfl
noncomputable def L50_22 (self:EV) (N:Nat) (nk:Ac->St->Rs) (ek:Nat->Ac->St->Rs) (n:Nat) ( v0 v3 v6 v7:V) (S:St):Rs:=qbr [0,3,6,7] (dr E0 self RL50 N (B50.r.r.l.r.l.l)) (mkK E0 self Tryz.f50 nk ek) n (fr 48 [(0,v0),(3,v3),(6,v6),(7,v7)]) S
theorem L50_22_eq (self:EV) (N:Nat) (nk:Ac->St->Rs) (ek:Nat->Ac->St->Rs) (n:Nat) ( v0 v3 v6 v7:V) (S:St):L50_22 self N nk ek (n+1) v0 v3 v6 v7 S =
(qa4 E0 .lss 3 false false v7 v6).bind fun t23=>
ifK t23 (
(ixS v0 v7).bind fun t29=>
qaa (qc2 E0 self v3 [t29] S) fun t30 S30=>
(unV .not t30).bind fun t31=>
(qa3 true t31).bind fun g33=>(bif g33 then some v7 else some (.tuple [])).bind fun t33=>
(qa3 true t31).bind fun g34=>(bif g34 then qa4 E0 .eql 3 false true t33 (.int .i64 0)else some (.tuple [])).bind fun t34=>
(qa3 true t31).bind fun g35=>(bif g35 then some t34 else some (.tuple [])).bind fun t35=>
(qa3 false t35).bind fun g36=>(bif g36 then some v0 else some (.tuple [])).bind fun t36=>
(qa3 false t35).bind fun g37=>(bif g37 then some v7 else some (.tuple [])).bind fun t37=>
(qa3 false t35).bind fun g38=>(bif g38 then ixS t36 t37 else some (.tuple [])).bind fun t38=>
(qa3 false t35).bind fun g39=>(bif g39 then qa4 E0 .lss 5 false true t38 (.int .u8 48)else some (.tuple [])).bind fun t39=>
(qa3 true t31).bind fun g40=>(bif g40 then qbl t35 (some (.bool true)) (some t39)else some (.tuple [])).bind fun t40=>
(qa3 true t31).bind fun g41=>(bif g41 then some t40 else some (.tuple [])).bind fun t41=>
(qa3 false t41).bind fun g42=>(bif g42 then some v0 else some (.tuple [])).bind fun t42=>
(qa3 false t41).bind fun g43=>(bif g43 then some v7 else some (.tuple [])).bind fun t43=>
(qa3 false t41).bind fun g44=>(bif g44 then ixS t42 t43 else some (.tuple [])).bind fun t44=>
(qa3 false t41).bind fun g45=>(bif g45 then qa4 E0 .gtr 5 false true t44 (.int .u8 57)else some (.tuple [])).bind fun t45=>
(qa3 true t31).bind fun g46=>(bif g46 then qbl t41 (some (.bool true)) (some t45)else some (.tuple [])).bind fun t46=>
(qbl t31 (some t46) (some (.bool false))).bind fun t47=>
ifK t47 (
some (.ret (.bool false),S30)) (
(qa4 E0 .add 3 false true v7 (.int .i64 1)).bind fun t49=>
L50_22 self N nk ek n v0 v3 v6 t49 S30)) (
ek 0 (fr 48 [(0,v0)]) S):=by kernel_rfl
noncomputable def F50 (self:EV) (N:Nat) (x0:V) (S:St):Rs:=qay E0 self N Tryz.f50 B50 [x0] S
theorem F50_eq (self:EV) (N:Nat) (x0:V) (S:St):F50 self N x0 S =
(qc5 x0 S).bind fun p20=>
L50_22 self N (R50_2 self N (qb5 E0 self Tryz.f50) qak) (exB 0 (R50_2 self N (qb5 E0 self Tryz.f50) qak) qak) N x0 (.fn (.func 79) [] []) p20.1 (.int .i64 0) p20.2:=by kernel_rfl
noncomputable def C79:Code:=Tryz.f79.body.getD .skip
noncomputable def B79:D:=(qao C79 [[],[]]).1
noncomputable def F79 (self:EV) (N:Nat) (x0:V) (S:St):Rs:=qay E0 self N Tryz.f79 B79 [x0] S
theorem F79_eq (self:EV) (N:Nat) (x0:V) (S:St):F79 self N x0 S =
(qa4 E0 .eql 5 false true x0 (.int .u8 95)).bind fun t2=>
(qa3 false t2).bind fun g4=>(bif g4 then some x0 else some (.tuple [])).bind fun t4=>
(qa3 false t2).bind fun g5=>(bif g5 then qa4 E0 .geq 5 false true t4 (.int .u8 97)else some (.tuple [])).bind fun t5=>
(qa3 false t2).bind fun g6=>(bif g6 then some t5 else some (.tuple [])).bind fun t6=>
(qa3 true t6).bind fun g7=>(bif g7 then some x0 else some (.tuple [])).bind fun t7=>
(qa3 true t6).bind fun g8=>(bif g8 then qa4 E0 .leq 5 false true t7 (.int .u8 122)else some (.tuple [])).bind fun t8=>
(qa3 false t2).bind fun g9=>(bif g9 then qbl t6 (some t8) (some (.bool false))else some (.tuple [])).bind fun t9=>
(qbl t2 (some (.bool true)) (some t9)).bind fun t10=>
(qa3 false t10).bind fun g12=>(bif g12 then some x0 else some (.tuple [])).bind fun t12=>
(qa3 false t10).bind fun g13=>(bif g13 then qa4 E0 .geq 5 false true t12 (.int .u8 65)else some (.tuple [])).bind fun t13=>
(qa3 false t10).bind fun g14=>(bif g14 then some t13 else some (.tuple [])).bind fun t14=>
(qa3 true t14).bind fun g15=>(bif g15 then some x0 else some (.tuple [])).bind fun t15=>
(qa3 true t14).bind fun g16=>(bif g16 then qa4 E0 .leq 5 false true t15 (.int .u8 90)else some (.tuple [])).bind fun t16=>
(qa3 false t10).bind fun g17=>(bif g17 then qbl t14 (some t16) (some (.bool false))else some (.tuple [])).bind fun t17=>
(qbl t10 (some (.bool true)) (some t17)).bind fun t18=>
some (.ret t18,S):=by kernel_rfl
noncomputable def C62:Code:=Tryz.f62.body.getD .skip
noncomputable def B62:D:=(qao C62 [[],[],[],[],[],[],[],[1,5,29,30],[],[5],[],[],[],[0,5],[4],[]]).1
noncomputable def RL62:List Nat:=cellsOf Tryz.f62.results.toList
noncomputable def R62_24 (self:EV) (N:Nat) (nk:Ac->St->Rs) (ek:Nat->Ac->St->Rs) (a:Ac) (S:St):Rs:=qad [5] a fun a=>dr E0 self RL62 N (B62.r.r.r.r).r (mkK E0 self Tryz.f62 nk ek) a S
theorem R62_24_eq (self:EV) (N:Nat) (nk:Ac->St->Rs) (ek:Nat->Ac->St->Rs) ( v5:V) (S:St):R62_24 self N nk ek (fr 53 [(5,v5)]) S =
(qbm E0 43 9 v5 S).bind fun p26=>
some (.ret p26.1,p26.2):=by kernel_rfl
noncomputable def L62_31 (self:EV) (N:Nat) (nk:Ac->St->Rs) (ek:Nat->Ac->St->Rs) (n:Nat) ( v1 v5 v29 v30:V) (S:St):Rs:=qbr [1,5,29,30] (dr E0 self RL62 N (B62.r.r.r.r.l.r.l.l)) (mkK E0 self Tryz.f62 nk ek) n (fr 53 [(1,v1),(5,v5),(29,v29),(30,v30)]) S
theorem L62_31_eq (self:EV) (N:Nat) (nk:Ac->St->Rs) (ek:Nat->Ac->St->Rs) (n:Nat) ( v1 v5 v29 v30:V) (S:St):L62_31 self N nk ek (n+1) v1 v5 v29 v30 S =
(qa4 E0 .lss 3 false false v30 v29).bind fun t32=>
ifK t32 (
(qa4 E0 .mul 3 true false (.int .i64 2) v30).bind fun t39=>
(ixS v1 t39).bind fun t40=>
qej (qal E0 (B62.r.r.r.r.l.r.l.l.r.r.l.l.r).ops) S 6 [[],[],[],[],[],[]] (self.f 70 [(sv [48,49,50,51,52,53,54,55,56,57,97,98,99,100,101,102]),t40] (onS S)) fun t41 S41=>
(qa4 E0 .shl 3 false true t41 (.int .u64 4)).bind fun t42=>
(qa4 E0 .mul 3 true false (.int .i64 2) v30).bind fun t45=>
(qa4 E0 .add 3 false true t45 (.int .i64 1)).bind fun t46=>
(ixS v1 t46).bind fun t47=>
qej (qal E0 (B62.r.r.r.r.l.r.l.l.r.r.l.l.r).ops) S 13 [[],[],[],[],[],[],S41.log,[],[],[],[],[],[]] (self.f 70 [(sv [48,49,50,51,52,53,54,55,56,57,97,98,99,100,101,102]),t47] (onS S41)) fun t48 S48=>
(qa4 E0 .or 3 false false t42 t48).bind fun t49=>
(cvI .u8 t49 (onS S48)).bind fun p50=>
(ixP 1 v5 v30).bind fun t51=>
(stP 1 t51 p50.1 (onS p50.2)).bind fun p52=>
(qa4 E0 .add 3 false true v30 (.int .i64 1)).bind fun t53=>
L62_31 self N nk ek n v1 v5 v29 t53 (qb8 S p52.2 [[],[],[],[],[],[],S41.log,[],[],[],[],[],[],S48.log,[],p50.2.log,[],p52.2.log])) (
ek 0 (fr 53 [(5,v5)]) S):=by kernel_rfl
noncomputable def F62 (self:EV) (N:Nat) (x0 x1:V) (S:St):Rs:=qay E0 self N Tryz.f62 B62 [x0,x1] S
theorem F62_eq (self:EV) (N:Nat) (x0 x1:V) (S:St):F62 self N x0 x1 S =
(qa4 E0 .eql 9 false true x1 (sv [45])).bind fun t2=>
ifK t2 (
some (.ret (sv []),S)) (
(qa4 E0 .neq 9 false true x1 (sv [])).bind fun t6=>
(qa3 true t6).bind fun g8=>(bif g8 then some x1 else some (.tuple [])).bind fun t8=>
(qa3 true t6).bind fun g9=>(bif g9 then qc5 t8 S else some (.tuple [],S)).bind fun p9=>
(qa3 true t6).bind fun g10=>(bif g10 then qa4 E0 .rem 3 false true p9.1 (.int .i64 2)else some (.tuple [])).bind fun t10=>
(qa3 true t6).bind fun g11=>(bif g11 then qa4 E0 .eql 3 false true t10 (.int .i64 0)else some (.tuple [])).bind fun t11=>
(qbl t6 (some t11) (some (.bool false))).bind fun t12=>
(qa3 true t12).bind fun g14=>(bif g14 then some x1 else some (.tuple [])).bind fun t14=>
(qa3 true t12).bind fun g15=>qaa (bif g15 then self.f 90 [t14,(sv [48,49,50,51,52,53,54,55,56,57,97,98,99,100,101,102])] p9.2 else some (.ret (.tuple []),p9.2)) fun t15 S15=>
(qa3 true t12).bind fun g16=>(bif g16 then qa4 E0 .eql 9 false true t15 (sv [])else some (.tuple [])).bind fun t16=>
(qbl t12 (some t16) (some (.bool false))).bind fun t17=>
qaa (self.f 33 [x0,t17,(.int .i64 4)] S15) fun t18 S18=>
(qc5 x1 S18).bind fun p20=>
(qa4 E0 .quo 3 false true p20.1 (.int .i64 2)).bind fun t21=>
(qdk E0 43 t21 t21 p20.2).bind fun p22=>
(lnS p22.1 p22.2).bind fun p29=>
L62_31 self N (R62_24 self N (qb5 E0 self Tryz.f62) qak) (exB 0 (R62_24 self N (qb5 E0 self Tryz.f62) qak) qak) N x1 p22.1 p29.1 (.int .i64 0) p29.2):=by kernel_rfl
noncomputable def C90:Code:=Tryz.f90.body.getD .skip
noncomputable def B90:D:=(qao C90 [[],[],[],[],[],[],[],[],[],[],[],[]]).1
noncomputable def F90 (self:EV) (N:Nat) (x0 x1:V) (S:St):Rs:=qay E0 self N Tryz.f90 B90 [x0,x1] S
theorem F90_eq (self:EV) (N:Nat) (x0 x1:V) (S:St):F90 self N x0 x1 S =
(qa4 E0 .eql 9 false true x0 (sv [])).bind fun t2=>
(qa3 false t2).bind fun g4=>(bif g4 then some x1 else some (.tuple [])).bind fun t4=>
(qa3 false t2).bind fun g5=>(bif g5 then qa4 E0 .eql 9 false true t4 (sv [])else some (.tuple [])).bind fun t5=>
(qbl t2 (some (.bool true)) (some t5)).bind fun t6=>
ifK t6 (
some (.ret x0,S)) (
(qc5 x1 S).bind fun p10=>
(qa4 E0 .eql 3 false true p10.1 (.int .i64 1)).bind fun t11=>
(qa3 true t11).bind fun g13=>(bif g13 then some x1 else some (.tuple [])).bind fun t13=>
(qa3 true t11).bind fun g14=>(bif g14 then ixS t13 (.int .i64 0)else some (.tuple [])).bind fun t14=>
(qa3 true t11).bind fun g15=>(bif g15 then qa4 E0 .lss 5 false true t14 (.int .u8 128)else some (.tuple [])).bind fun t15=>
(qbl t11 (some t15) (some (.bool false))).bind fun t16=>
ifK t16 (
(ixS x1 (.int .i64 0)).bind fun t19=>
qej (qal E0 (B90.r.r.l.r.l.l).ops) p10.2 3 [[],[],[]] (self.f 109 [x0,t19] (onS p10.2)) fun t20 S20=>
(ixS x1 (.int .i64 0)).bind fun t22=>
qej (qal E0 (B90.r.r.l.r.l.l).ops) p10.2 6 [[],[],[],S20.log,[],[]] (self.f 108 [t20,t22] (onS S20)) fun t23 S23=>
some (.ret t23,(qb8 p10.2 (onS S23) [[],[],[],S20.log,[],[],S23.log,[]]))) (
qaa (self.f 110 [x1] p10.2) fun t26 S26=>
(qa7 t26 0).bind fun t28=>
(qa7 t26 1).bind fun t29=>
(some (nwP 128 256 (Tr.ofListFrom .nil [(.bool false),(.bool false),(.bool false),(.bool false),(.bool false),(.bool false),(.bool false),(.bool false),(.bool false),(.bool false),(.bool false),(.bool false),(.bool false),(.bool false),(.bool false),(.bool false),(.bool false),(.bool false),(.bool false),(.bool false),(.bool false),(.bool false),(.bool false),(.bool false),(.bool false),(.bool false),(.bool false),(.bool false),(.bool false),(.bool false),(.bool false),(.bool false),(.bool false),(.bool false),(.bool false),(.bool false),(.bool false),(.bool false),(.bool false),(.bool false),(.bool false),(.bool false),(.bool false),(.bool false),(.bool false),(.bool false),(.bool false),(.bool false),(.bool false),(.bool false),(.bool false),(.bool false),(.bool false),(.bool false),(.bool false),(.bool false),(.bool false),(.bool false),(.bool false),(.bool false),(.bool false),(.bool false),(.bool false),(.bool false),(.bool false),(.bool false),(.bool false),(.bool false),(.bool false),(.bool false),(.bool false),(.bool false),(.bool false),(.bool false),(.bool false),(.bool false),(.bool false),(.bool false),(.bool false),(.bool false),(.bool false),(.bool false),(.bool false),(.bool false),(.bool false),(.bool false),(.bool false),(.bool false),(.bool false),(.bool false),(.bool false),(.bool false),(.bool false),(.bool false),(.bool false),(.bool false),(.bool false),(.bool false),(.bool false),(.bool false),(.bool false),(.bool false),(.bool false),(.bool false),(.bool false),(.bool false),(.bool false),(.bool false),(.bool false),(.bool false),(.bool false),(.bool false),(.bool false),(.bool false),(.bool false),(.bool false),(.bool false),(.bool false),(.bool false),(.bool false),(.bool false),(.bool false),(.bool false),(.bool false),(.bool false),(.bool false),(.bool false),(.bool false),(.bool false),(.bool false),(.bool false),(.bool false),(.bool false),(.bool false),(.bool false),(.bool false),(.bool false),(.bool false),(.bool false),(.bool false),(.bool false),(.bool false),(.bool false),(.bool false),(.bool false),(.bool false),(.bool false),(.bool false),(.bool false),(.bool false),(.bool false),(.bool false),(.bool false),(.bool false),(.bool false),(.bool false),(.bool false),(.bool false),(.bool false),(.bool false),(.bool false),(.bool false),(.bool false),(.bool false),(.bool false),(.bool false),(.bool false),(.bool false),(.bool false),(.bool false),(.bool false),(.bool false),(.bool false),(.bool false),(.bool false),(.bool false),(.bool false),(.bool false),(.bool false),(.bool false),(.bool false),(.bool false),(.bool false),(.bool false),(.bool false),(.bool false),(.bool false),(.bool false),(.bool false),(.bool false),(.bool false),(.bool false),(.bool false),(.bool false),(.bool false),(.bool false),(.bool false),(.bool false),(.bool false),(.bool false),(.bool false),(.bool false),(.bool false),(.bool false),(.bool false),(.bool false),(.bool false),(.bool false),(.bool false),(.bool false),(.bool false),(.bool false),(.bool false),(.bool false),(.bool false),(.bool false),(.bool false),(.bool false),(.bool false),(.bool false),(.bool false),(.bool false),(.bool false),(.bool false),(.bool false),(.bool false),(.bool false),(.bool false),(.bool false),(.bool false),(.bool false),(.bool false),(.bool false),(.bool false),(.bool false),(.bool false),(.bool false),(.bool false),(.bool false),(.bool false),(.bool false),(.bool false),(.bool false),(.bool false),(.bool false),(.bool false),(.bool false),(.bool false),(.bool false),(.bool false),(.bool false),(.bool false),(.bool false),(.bool false),(.bool false),(.bool false)] 0) S26)).bind fun p30=>
(stP 256 p30.1 t28 p30.2).bind fun p31=>
ifK t29 (
qaa (self.f 112 [x0,p30.1] p31.2) fun t35 S35=>
qaa (self.f 111 [t35,p30.1] S35) fun t36 S36=>
some (.ret t36,S36)) (
qaa (self.f 114 [x0,x1] p31.2) fun t40 S40=>
qaa (self.f 113 [t40,x1] S40) fun t42 S42=>
some (.ret t42,S42)))):=by kernel_rfl
noncomputable def C110:Code:=Tryz.f110.body.getD .skip
noncomputable def B110:D:=(qao C110 [[],[],[0,2,4],[],[2],[],[],[],[],[],[],[0,2],[2,3],[]]).1
noncomputable def RL110:List Nat:=cellsOf Tryz.f110.results.toList
noncomputable def R110_2 (self:EV) (N:Nat) (nk:Ac->St->Rs) (ek:Nat->Ac->St->Rs) (a:Ac) (S:St):Rs:=qad [2] a fun a=>dr E0 self RL110 N (B110.r).r (mkK E0 self Tryz.f110 nk ek) a S
theorem R110_2_eq (self:EV) (N:Nat) (nk:Ac->St->Rs) (ek:Nat->Ac->St->Rs) ( v2:V) (S:St):R110_2 self N nk ek (fr 21 [(2,v2)]) S =
(ldA 256 v2 S).bind fun p3=>
(stP 256 v2 p3.1 p3.2).bind fun p4=>
(ldrA 256 v2 p4.2).bind fun p6=>
some (.ret (.tuple [p6.1,(.bool true)]),p6.2):=by kernel_rfl
noncomputable def L110_8 (self:EV) (N:Nat) (nk:Ac->St->Rs) (ek:Nat->Ac->St->Rs) (n:Nat) ( v0 v2 v4:V) (S:St):Rs:=qbr [0,2,4] (dr E0 self RL110 N (B110.r.l.r.l.l)) (mkK E0 self Tryz.f110 nk ek) n (fr 21 [(0,v0),(2,v2),(4,v4)]) S
theorem L110_8_eq (self:EV) (N:Nat) (nk:Ac->St->Rs) (ek:Nat->Ac->St->Rs) (n:Nat) ( v0 v2 v4:V) (S:St):L110_8 self N nk ek (n+1) v0 v2 v4 S =
(qc5 v0 S).bind fun p11=>
(qa4 E0 .lss 3 false false v4 p11.1).bind fun t12=>
ifK t12 (
(ixS v0 v4).bind fun t15=>
(qa4 E0 .geq 5 false true t15 (.int .u8 128)).bind fun t18=>
ifK t18 (
(ldA 256 v2 p11.2).bind fun p19=>
(stP 256 v2 p19.1 p19.2).bind fun p20=>
(ldrA 256 v2 p20.2).bind fun p22=>
some (.ret (.tuple [p22.1,(.bool false)]),p22.2)) (
(ixA 256 1 false 1 v2 t15).bind fun t24=>
(stP 1 t24 (.bool true) p11.2).bind fun p25=>
(qa4 E0 .add 3 false true v4 (.int .i64 1)).bind fun t27=>
L110_8 self N nk ek n v0 v2 t27 p25.2)) (
ek 0 (fr 21 [(2,v2)]) p11.2):=by kernel_rfl
noncomputable def F110 (self:EV) (N:Nat) (x0:V) (S:St):Rs:=qay E0 self N Tryz.f110 B110 [x0] S
noncomputable def C111:Code:=Tryz.f111.body.getD .skip
noncomputable def B111:D:=(qao C111 [[],[0,1],[],[0],[],[],[0],[],[0,0],[4],[]]).1
noncomputable def RL111:List Nat:=cellsOf Tryz.f111.results.toList
noncomputable def R111_1 (self:EV) (N:Nat) (nk:Ac->St->Rs) (ek:Nat->Ac->St->Rs) (a:Ac) (S:St):Rs:=qad [0] a fun a=>dr E0 self RL111 N (B111.r).r (mkK E0 self Tryz.f111 nk ek) a S
theorem R111_1_eq (self:EV) (N:Nat) (nk:Ac->St->Rs) (ek:Nat->Ac->St->Rs) ( v0:V) (S:St):R111_1 self N nk ek (fr 16 [(0,v0)]) S =
some (.ret v0,S):=by kernel_rfl
noncomputable def L111_4 (self:EV) (N:Nat) (nk:Ac->St->Rs) (ek:Nat->Ac->St->Rs) (n:Nat) ( v0 v1:V) (S:St):Rs:=qbr [0,1] (dr E0 self RL111 N (B111.r.l.l.l)) (mkK E0 self Tryz.f111 nk ek) n (fr 16 [(0,v0),(1,v1)]) S
theorem L111_4_eq (self:EV) (N:Nat) (nk:Ac->St->Rs) (ek:Nat->Ac->St->Rs) (n:Nat) ( v0 v1:V) (S:St):L111_4 self N nk ek (n+1) v0 v1 S =
(qc5 v0 S).bind fun p6=>
(qa4 E0 .gtr 3 false true p6.1 (.int .i64 0)).bind fun t7=>
ifK t7 (
(ixS v0 (.int .i64 0)).bind fun t10=>
qaa (self.f 124 [v1,t10] p6.2) fun t11 S11=>
(unV .not t11).bind fun t12=>
ifK t12 (
ek 0 (fr 16 [(0,v0)]) S11) (
(qb4 E0 9 v0 (some (.int .i64 1)) none none S11).bind fun p14=>
L111_4 self N nk ek n p14.1 v1 p14.2)) (
ek 0 (fr 16 [(0,v0)]) p6.2):=by kernel_rfl
noncomputable def F111 (self:EV) (N:Nat) (x0 x1:V) (S:St):Rs:=qay E0 self N Tryz.f111 B111 [x0,x1] S
theorem F111_eq (self:EV) (N:Nat) (x0 x1:V) (S:St):F111 self N x0 x1 S =
L111_4 self N (R111_1 self N (qb5 E0 self Tryz.f111) qak) (exB 0 (R111_1 self N (qb5 E0 self Tryz.f111) qak) qak) N x0 x1 S:=by kernel_rfl
noncomputable def C112:Code:=Tryz.f112.body.getD .skip
noncomputable def B112:D:=(qao C112 [[],[0,1],[],[0],[],[],[0],[],[0,0],[4],[]]).1
noncomputable def RL112:List Nat:=cellsOf Tryz.f112.results.toList
noncomputable def R112_1 (self:EV) (N:Nat) (nk:Ac->St->Rs) (ek:Nat->Ac->St->Rs) (a:Ac) (S:St):Rs:=qad [0] a fun a=>dr E0 self RL112 N (B112.r).r (mkK E0 self Tryz.f112 nk ek) a S
theorem R112_1_eq (self:EV) (N:Nat) (nk:Ac->St->Rs) (ek:Nat->Ac->St->Rs) ( v0:V) (S:St):R112_1 self N nk ek (fr 22 [(0,v0)]) S =
some (.ret v0,S):=by kernel_rfl
noncomputable def L112_4 (self:EV) (N:Nat) (nk:Ac->St->Rs) (ek:Nat->Ac->St->Rs) (n:Nat) ( v0 v1:V) (S:St):Rs:=qbr [0,1] (dr E0 self RL112 N (B112.r.l.l.l)) (mkK E0 self Tryz.f112 nk ek) n (fr 22 [(0,v0),(1,v1)]) S
theorem L112_4_eq (self:EV) (N:Nat) (nk:Ac->St->Rs) (ek:Nat->Ac->St->Rs) (n:Nat) ( v0 v1:V) (S:St):L112_4 self N nk ek (n+1) v0 v1 S =
(qc5 v0 S).bind fun p6=>
(qa4 E0 .gtr 3 false true p6.1 (.int .i64 0)).bind fun t7=>
ifK t7 (
(qc5 v0 p6.2).bind fun p11=>
(qa4 E0 .sub 3 false true p11.1 (.int .i64 1)).bind fun t12=>
(ixS v0 t12).bind fun t13=>
qaa (self.f 124 [v1,t13] p11.2) fun t14 S14=>
(unV .not t14).bind fun t15=>
ifK t15 (
ek 0 (fr 22 [(0,v0)]) S14) (
(qc5 v0 S14).bind fun p18=>
(qa4 E0 .sub 3 false true p18.1 (.int .i64 1)).bind fun t19=>
(qb4 E0 9 v0 none (some t19) none p18.2).bind fun p20=>
L112_4 self N nk ek n p20.1 v1 p20.2)) (
ek 0 (fr 22 [(0,v0)]) p6.2):=by kernel_rfl
noncomputable def F112 (self:EV) (N:Nat) (x0 x1:V) (S:St):Rs:=qay E0 self N Tryz.f112 B112 [x0,x1] S
theorem F112_eq (self:EV) (N:Nat) (x0 x1:V) (S:St):F112 self N x0 x1 S =
L112_4 self N (R112_1 self N (qb5 E0 self Tryz.f112) qak) (exB 0 (R112_1 self N (qb5 E0 self Tryz.f112) qak) qak) N x0 x1 S:=by kernel_rfl
noncomputable def C124:Code:=Tryz.f124.body.getD .skip
noncomputable def B124:D:=(qao C124 [[],[]]).1
noncomputable def F124 (self:EV) (N:Nat) (x0 x1:V) (S:St):Rs:=qay E0 self N Tryz.f124 B124 [x0,x1] S
theorem F124_eq (self:EV) (N:Nat) (x0 x1:V) (S:St):F124 self N x0 x1 S =
(qaf x0).bind fun t3=>
(ixA 256 1 false 1 t3 x1).bind fun t4=>
(ld1 t4 S).bind fun p5=>
some (.ret p5.1,p5.2):=by kernel_rfl
end
noncomputable section
noncomputable def C27:Code:=Tryz.f27.body.getD .skip
noncomputable def B27:D:=(qao C27 [[],[]]).1
noncomputable def F27 (self:EV) (N:Nat) (x0 x1:V) (S:St):Rs:=qay E0 self N Tryz.f27 B27 [x0,x1] S
theorem F27_eq (self:EV) (N:Nat) (x0 x1:V) (S:St):F27 self N x0 x1 S =
(bsP 9 1 1 (Ev.one (sv [])) [(0,(sv []))] S).bind fun p2=>
qaa (self.f 61 [x0,x1,(.int .i64 2),p2.1] p2.2) fun t3 S3=>
(ixP 1 x1 (.int .i64 1)).bind fun t6=>
(ld1 t6 S3).bind fun p7=>
qaa (self.f 35 [p7.1] p7.2) fun t8 S8=>
(qa4 E0 .eql 27 false true t8 (.int .i64 0)).bind fun t9=>
qaa (self.f 33 [x0,t9,(.int .i64 4)] S8) fun t10 S10=>
(ixP 1 x1 (.int .i64 1)).bind fun t13=>
(ld1 t13 S10).bind fun p14=>
(qaf x0).bind fun t15=>
(faP 0 true 4 t15).bind fun t16=>
(faP 0 false 1 t16).bind fun t17=>
(stP 1 t17 p14.1 p14.2).bind fun p18=>
some (.ret (.tuple []),p18.2):=by kernel_rfl
noncomputable def C28:Code:=Tryz.f28.body.getD .skip
noncomputable def B28:D:=(qao C28 [[],[],[],[]]).1
noncomputable def F28 (self:EV) (N:Nat) (x0 x1:V) (S:St):Rs:=qay E0 self N Tryz.f28 B28 [x0,x1] S
theorem F28_eq (self:EV) (N:Nat) (x0 x1:V) (S:St):F28 self N x0 x1 S =
(bsP 9 1 2 (Ev.one (sv [])) [(0,(sv [100,114,118])),(1,(sv [105,110]))] S).bind fun p2=>
qaa (self.f 61 [x0,x1,(.int .i64 2),p2.1] p2.2) fun t3 S3=>
(qaf x0).bind fun t5=>
(faP 0 true 4 t5).bind fun t6=>
(faP 1 false 1 t6).bind fun t7=>
(ld1 t7 (onS S3)).bind fun p8=>
(ixP 1 x1 (.int .i64 1)).bind fun t10=>
(ld1 t10 (onS p8.2)).bind fun p11=>
(bsP 9 1 1 (Ev.one (sv [])) [(0,p11.1)] (onS p11.2)).bind fun p12=>
(apP 9 1 16 p8.1 p12.1 (onS p12.2)).bind fun p13=>
qi7 [(4,[7,8])] S3 [[],[],[],[],p8.2.log,[],[],p11.2.log,p12.2.log,p13.2.log,[]] (onS p13.2) fun S15=>
(ixP 1 x1 (.int .i64 1)).bind fun t18=>
(ld1 t18 S15).bind fun p19=>
qaa (self.f 44 [p19.1] p19.2) fun t20 S20=>
(qa3 true t20).bind fun g22=>(bif g22 then some p13.1 else some (.tuple [])).bind fun t22=>
(qa3 true t20).bind fun g23=>qaa (bif g23 then self.f 46 [t22] S20 else some (.ret (.tuple []),S20)) fun t23 S23=>
(qbl t20 (some t23) (some (.bool false))).bind fun t24=>
qaa (self.f 33 [x0,t24,(.int .i64 4)] S23) fun t25 S25=>
(lnS p13.1 S25).bind fun p28=>
(qa4 E0 .leq 3 false true p28.1 (.int .i64 8)).bind fun t29=>
qaa (self.f 33 [x0,t29,(.int .i64 3)] p28.2) fun t30 S30=>
(qaf x0).bind fun t33=>
(faP 0 true 4 t33).bind fun t34=>
(faP 1 false 1 t34).bind fun t35=>
(stP 1 t35 p13.1 S30).bind fun p36=>
some (.ret (.tuple []),p36.2):=by kernel_rfl
noncomputable def C29:Code:=Tryz.f29.body.getD .skip
noncomputable def B29:D:=(qao C29 [[],[],[],[],[],[]]).1
noncomputable def F29 (self:EV) (N:Nat) (x0 x1:V) (S:St):Rs:=qay E0 self N Tryz.f29 B29 [x0,x1] S
theorem F29_eq (self:EV) (N:Nat) (x0 x1:V) (S:St):F29 self N x0 x1 S =
(bsP 9 1 3 (Ev.one (sv [])) [(0,(sv [100,114,118])),(1,(sv [105,110])),(2,(sv [101,110,118]))] S).bind fun p2=>
qaa (self.f 61 [x0,x1,(.int .i64 3),p2.1] p2.2) fun t3 S3=>
(qaf x0).bind fun t5=>
(faP 0 true 4 t5).bind fun t6=>
(faP 2 false 1 t6).bind fun t7=>
(ld1 t7 S3).bind fun p8=>
(lnS p8.1 p8.2).bind fun p9=>
(ixP 1 x1 (.int .i64 1)).bind fun t13=>
(ld1 t13 (onS p9.2)).bind fun p14=>
qej (qal E0 (B29.r.r.l).ops) p9.2 4 [[],[],[],p14.2.log] (self.f 50 [p14.1] (onS p14.2)) fun t15 S15=>
(qa3 true t15).bind fun g17=>(bif g17 then some p9.1 else some (.tuple [])).bind fun t17=>
(qa3 true t15).bind fun g18=>(bif g18 then qa4 E0 .eql 3 false true t17 (.int .i64 0)else some (.tuple [])).bind fun t18=>
(qa3 true t15).bind fun g19=>(bif g19 then some t18 else some (.tuple [])).bind fun t19=>
(qa3 false t19).bind fun g20=>(bif g20 then some x0 else some (.tuple [])).bind fun t20=>
(qa3 false t19).bind fun g21=>(bif g21 then qaf t20 else some (.tuple [])).bind fun t21=>
(qa3 false t19).bind fun g22=>(bif g22 then faP 0 true 4 t21 else some (.tuple [])).bind fun t22=>
(qa3 false t19).bind fun g23=>(bif g23 then faP 2 false 1 t22 else some (.tuple [])).bind fun t23=>
(qa3 false t19).bind fun g24=>(bif g24 then ld1 t23 (onS S15)else some (.tuple [],(onS S15))).bind fun p24=>
(qa3 false t19).bind fun g25=>(bif g25 then some p9.1 else some (.tuple [])).bind fun t25=>
(qa3 false t19).bind fun g26=>(bif g26 then qa4 E0 .sub 3 false true t25 (.int .i64 1)else some (.tuple [])).bind fun t26=>
(qa3 false t19).bind fun g27=>(bif g27 then ixP 2 p24.1 t26 else some (.tuple [])).bind fun t27=>
(qa3 false t19).bind fun g28=>(bif g28 then faP 0 false 1 t27 else some (.tuple [])).bind fun t28=>
(qa3 false t19).bind fun g29=>(bif g29 then ld1 t28 (onS p24.2)else some (.tuple [],(onS p24.2))).bind fun p29=>
(qa3 false t19).bind fun g30=>(bif g30 then some x1 else some (.tuple [])).bind fun t30=>
(qa3 false t19).bind fun g31=>(bif g31 then ixP 1 t30 (.int .i64 1)else some (.tuple [])).bind fun t31=>
(qa3 false t19).bind fun g32=>(bif g32 then ld1 t31 (onS p29.2)else some (.tuple [],(onS p29.2))).bind fun p32=>
(qa3 false t19).bind fun g33=>(bif g33 then qa4 E0 .lss 9 false false p29.1 p32.1 else some (.tuple [])).bind fun t33=>
(qa3 true t15).bind fun g34=>(bif g34 then qbl t19 (some (.bool true)) (some t33)else some (.tuple [])).bind fun t34=>
(qbl t15 (some t34) (some (.bool false))).bind fun t35=>
qej (qal E0 (B29.r.r.l).ops) p9.2 25 [[],[],[],p14.2.log,S15.log,[],[],[],[],[],[],[],[],p24.2.log,[],[],[],[],p29.2.log,[],[],p32.2.log,[],[],[]] (self.f 33 [x0,t35,(.int .i64 4)] (onS p32.2)) fun t36 S36=>
qi7 [(13,[21]),(18,[21])] p9.2 [[],[],[],p14.2.log,S15.log,[],[],[],[],[],[],[],[],p24.2.log,[],[],[],[],p29.2.log,[],[],p32.2.log,[],[],[],S36.log] S36 fun S37=>
(ixP 1 x1 (.int .i64 1)).bind fun t39=>
(ld1 t39 (onS S37)).bind fun p40=>
(ixP 1 x1 (.int .i64 2)).bind fun t43=>
(ld1 t43 (onS p40.2)).bind fun p44=>
qej (qal E0 (B29.r.r.r.l).ops) S37 7 [[],[],p40.2.log,[],[],[],p44.2.log] (self.f 62 [x0,p44.1] (onS p44.2)) fun t45 S45=>
(qd3 E0 41 [(0,p40.1),(1,t45)]).bind fun t46=>
(some (nwP 41 2 (Tr.ofListFrom .nil [(sv []),(sv [])] 0) (onS S45))).bind fun p47=>
(stP 2 p47.1 t46 (onS p47.2)).bind fun p48=>
qi7 [(2,[6,7,9]),(6,[9]),(7,[9])] S37 [[],[],p40.2.log,[],[],[],p44.2.log,S45.log,[],p47.2.log,p48.2.log] p48.2 fun S49=>
(faP 1 false 1 p47.1).bind fun t51=>
(ld1 t51 S49).bind fun p52=>
(qc5 p52.1 p52.2).bind fun p53=>
(qa4 E0 .leq 3 false true p53.1 (.int .i64 200)).bind fun t54=>
qaa (self.f 33 [x0,t54,(.int .i64 4)] p53.2) fun t55 S55=>
(qa4 E0 .lss 3 false true p9.1 (.int .i64 16)).bind fun t58=>
qaa (self.f 33 [x0,t58,(.int .i64 3)] S55) fun t59 S59=>
(qaf x0).bind fun t62=>
(faP 0 true 4 t62).bind fun t63=>
(faP 2 false 1 t63).bind fun t64=>
(ld1 t64 (onS S59)).bind fun p65=>
(ldA 2 p47.1 (onS p65.2)).bind fun p66=>
(bsP 41 2 1 (Tr.ofListFrom .nil [(sv []),(sv [])] 0) [(0,p66.1)] (onS p66.2)).bind fun p67=>
(apP 41 2 32 p65.1 p67.1 (onS p67.2)).bind fun p68=>
(qaf x0).bind fun t69=>
(faP 0 true 4 t69).bind fun t70=>
(faP 2 false 1 t70).bind fun t71=>
(stP 1 t71 p68.1 (onS p68.2)).bind fun p72=>
qi7 [(5,[6,7])] S59 [[],[],[],[],[],p65.2.log,p66.2.log,p67.2.log,p68.2.log,[],[],[],p72.2.log] p72.2 fun S73=>
some (.ret (.tuple []),S73):=by kernel_rfl
noncomputable def C30:Code:=Tryz.f30.body.getD .skip
noncomputable def B30:D:=(qao C30 []).1
noncomputable def F30 (self:EV) (N:Nat) (x0 x1:V) (S:St):Rs:=qay E0 self N Tryz.f30 B30 [x0,x1] S
theorem F30_eq (self:EV) (N:Nat) (x0 x1:V) (S:St):F30 self N x0 x1 S =
(bsP 9 1 3 (Ev.one (sv [])) [(0,(sv [100,114,118])),(1,(sv [105,110])),(2,(sv [101,110,118]))] S).bind fun p2=>
qaa (self.f 61 [x0,x1,(.int .i64 1),p2.1] p2.2) fun t3 S3=>
some (.ret (.tuple []),S3):=by kernel_rfl
end
noncomputable section
noncomputable def C11:Code:=Tryz.f11.body.getD .skip
noncomputable def B11:D:=(qao C11 [[],[],[],[],[0,2,3,4,5],[],[0,2,3,4],[],[],[],[],[],[],[],[],[0,0,2,3,4],[2,3],[],[],[]]).1
noncomputable def RL11:List Nat:=cellsOf Tryz.f11.results.toList
noncomputable def R11_22 (self:EV) (N:Nat) (nk:Ac->St->Rs) (ek:Nat->Ac->St->Rs) (a:Ac) (S:St):Rs:=qad [0,2,3,4] a fun a=>dr E0 self RL11 N (B11.r.r.r.r).r (mkK E0 self Tryz.f11 nk ek) a S
theorem R11_22_eq (self:EV) (N:Nat) (nk:Ac->St->Rs) (ek:Nat->Ac->St->Rs) (ds:List AD) ( v0 v2 v3 v4:V) (S:St):R11_22 self N nk ek (frD 83 [(0,v0),(2,v2),(3,v3),(4,v4)] ds) S =
(qc5 v0 S).bind fun p25=>
(qa4 E0 .leq 3 false true p25.1 (.int .i64 4000)).bind fun t26=>
qib E0 self Tryz.f11 (frD 83 [(0,v0),(2,v2),(3,v3),(4,v4),(69,v4),(70,v0),(71,p25.1),(72,t26)] ds) (self.f 33 [v4,t26,(.int .i64 3)] p25.2) fun t27 S27=>
(qaf v4).bind fun t30=>
(faP 0 true 4 t30).bind fun t31=>
(faP 3 false 1 t31).bind fun t32=>
(stP 1 t32 v0 S27).bind fun p33=>
(qaf v4).bind fun t35=>
(faP 0 true 4 t35).bind fun t36=>
(ldA 4 t36 p33.2).bind fun p37=>
(stP 4 v2 p37.1 p37.2).bind fun p38=>
(stP 1 v3 .niliface p38.2).bind fun p39=>
finR E0 self Tryz.f11 (frD 83 [(0,v0),(2,v2),(3,v3),(4,v4),(69,v4),(70,v0),(71,p25.1),(72,t26),(73,t27),(74,v4),(75,v0),(76,t30),(77,t31),(78,t32),(79,v4),(80,t35),(81,t36),(82,p37.1)] ds) p39.2:=by kernel_rfl
noncomputable def L11_40 (self:EV) (N:Nat) (nk:Ac->St->Rs) (ek:Nat->Ac->St->Rs) (n:Nat) (ds:List AD) ( v0 v2 v3 v4 v5:V) (S:St):Rs:=qbr [0,2,3,4,5] (dr E0 self RL11 N (B11.r.r.r.r.l.l.l)) (mkK E0 self Tryz.f11 nk ek) n (frD 83 [(0,v0),(2,v2),(3,v3),(4,v4),(5,v5)] ds) S
theorem L11_40_eq (self:EV) (N:Nat) (nk:Ac->St->Rs) (ek:Nat->Ac->St->Rs) (n:Nat) (ds:List AD) ( v0 v2 v3 v4 v5:V) (S:St):L11_40 self N nk ek (n+1) ds v0 v2 v3 v4 v5 S =
(qaf v4).bind fun t42=>
(faP 5 false 1 t42).bind fun t43=>
(ld1 t43 S).bind fun p44=>
(qa4 E0 .neq 9 false true p44.1 (sv [114,117,110])).bind fun t45=>
ifK t45 (
qib E0 self Tryz.f11 (frD 83 [(0,v0),(2,v2),(3,v3),(4,v4),(5,v5),(25,v4),(26,t42),(27,t43),(28,p44.1),(29,t45),(31,v0)] ds) (self.f 31 [v0,(sv [10])] p44.2) fun t47 S47=>
(qa7 t47 0).bind fun t49=>
(qa7 t47 1).bind fun t50=>
(qa7 t47 2).bind fun t51=>
qib E0 self Tryz.f11 (frD 83 [(0,v0),(2,v2),(3,v3),(4,v4),(5,v5),(6,t49),(7,t50),(8,t51),(25,v4),(26,t42),(27,t43),(28,p44.1),(29,t45),(30,t47),(31,v0),(32,t47),(33,t49),(34,t50),(35,t51),(36,t49)] ds) (self.f 32 [t49,(sv [32])] S47) fun t56 S56=>
(ixP 1 t56 (.int .i64 0)).bind fun t60=>
(ld1 t60 S56).bind fun p61=>
(qd0 E0 60 v5 p61.1 true p61.2).bind fun p62=>
(qa7 p62.1 0).bind fun t64=>
(qa7 p62.1 1).bind fun t65=>
qib E0 self Tryz.f11 (frD 83 [(0,v0),(2,v2),(3,v3),(4,v4),(5,v5),(6,t49),(7,t50),(8,t51),(9,t56),(10,t64),(11,t65),(25,v4),(26,t42),(27,t43),(28,p44.1),(29,t45),(30,t47),(31,v0),(32,t47),(33,t49),(34,t50),(35,t51),(36,t49),(37,t56),(38,p62.1),(39,v5),(40,t56),(41,t60),(42,p61.1),(43,p62.1),(44,t64),(45,t65),(46,v4),(47,t65)] ds) (self.f 33 [v4,t65,(.int .i64 18)] p62.2) fun t70 S70=>
qib E0 self Tryz.f11 (frD 83 [(0,v0),(2,v2),(3,v3),(4,v4),(5,v5),(6,t49),(7,t50),(8,t51),(9,t56),(10,t64),(11,t65),(25,v4),(26,t42),(27,t43),(28,p44.1),(29,t45),(30,t47),(31,v0),(32,t47),(33,t49),(34,t50),(35,t51),(36,t49),(37,t56),(38,p62.1),(39,v5),(40,t56),(41,t60),(42,p61.1),(43,p62.1),(44,t64),(45,t65),(46,v4),(47,t65),(48,t70),(49,t64),(50,t56)] ds) (qc2 E0 self t64 [t56] S70) fun t73 S73=>
qib E0 self Tryz.f11 (frD 83 [(0,v0),(2,v2),(3,v3),(4,v4),(5,v5),(6,t49),(7,t50),(8,t51),(9,t56),(10,t64),(11,t65),(25,v4),(26,t42),(27,t43),(28,p44.1),(29,t45),(30,t47),(31,v0),(32,t47),(33,t49),(34,t50),(35,t51),(36,t49),(37,t56),(38,p62.1),(39,v5),(40,t56),(41,t60),(42,p61.1),(43,p62.1),(44,t64),(45,t65),(46,v4),(47,t65),(48,t70),(49,t64),(50,t56),(51,t73),(52,v4),(53,t51)] ds) (self.f 33 [v4,t51,(.int .i64 4)] S73) fun t76 S76=>
(ixP 1 t56 (.int .i64 0)).bind fun t79=>
(ld1 t79 S76).bind fun p80=>
(qaf v4).bind fun t82=>
(faP 5 false 1 t82).bind fun t83=>
(stP 1 t83 p80.1 p80.2).bind fun p84=>
(qaf v4).bind fun t87=>
(faP 4 false 1 t87).bind fun t88=>
(ld1 t88 p84.2).bind fun p89=>
(qa4 E0 .add 3 false true p89.1 (.int .i64 1)).bind fun t90=>
(qaf v4).bind fun t91=>
(faP 4 false 1 t91).bind fun t92=>
(stP 1 t92 t90 p89.2).bind fun p93=>
L11_40 self N nk ek n ds t50 v2 v3 v4 v5 p93.2) (
ek 0 (frD 83 [(0,v0),(2,v2),(3,v3),(4,v4)] ds) p44.2):=by kernel_rfl
noncomputable def F11 (self:EV) (N:Nat) (x0:V) (S:St):Rs:=qay E0 self N Tryz.f11 B11 [x0] S
theorem F11_eq (self:EV) (N:Nat) (x0:V) (S:St):F11 self N x0 S =
(some (nwP 25 4 (Tr.ofListFrom .nil [(sv []),.nilslice,.nilslice,(sv [])] 0) S)).bind fun p0=>
(some (nwP 33 1 (Ev.one .niliface) p0.2)).bind fun p1=>
(qd3 E0 58 []).bind fun t4=>
(qle 58 t4 p1.2).bind fun p5=>
(qi0 E0 60 none p5.2).bind fun p7=>
(vu (qbc E0 60 p7.1 (sv [100,114,118]) (.fn (.func 27) [p5.1] []) p7.2)).bind fun p10=>
(vu (qbc E0 60 p7.1 (sv [105,110]) (.fn (.func 28) [p5.1] []) p10.2)).bind fun p13=>
(vu (qbc E0 60 p7.1 (sv [101,110,118]) (.fn (.func 29) [p5.1] []) p13.2)).bind fun p16=>
(vu (qbc E0 60 p7.1 (sv [114,117,110]) (.fn (.func 30) [p5.1] []) p16.2)).bind fun p19=>
L11_40 self N (R11_22 self N (qb5 E0 self Tryz.f11) qak) (exB 0 (R11_22 self N (qb5 E0 self Tryz.f11) qak) qak) N (adOf (.fn (.func 26) [] [p0.1,p1.1]) []::[]) x0 p0.1 p1.1 p5.1 p7.1 p19.2:=by kernel_rfl
theorem E26r (self:EV) (fn:Func) (a:Ac) (ds:List AD) (x0 x1:V) (S:St):lvK E0 self fn a (ad 26 [] [x0,x1]::ds) .ret S =
(qa4 E0 .neq 20 false true .niliface .niliface).bind fun t3=>
(ifK t3 (
(qmg E0 53 true .niliface).bind fun t5=>
(qa7 t5 0).bind fun t7=>
(qa7 t5 1).bind fun t8=>
(some (nwP 53 2 (Tr.ofListFrom .nil [(.int .i64 0),(.int .i64 0)] 0) S)).bind fun p9=>
(stP 2 p9.1 t7 p9.2).bind fun p10=>
(unV .not t8).bind fun t13=>
(ifK t13 (
callE (qik .niliface p10.2) fun t15 S15=>
(qd3 E0 25 []).bind fun t16=>
(stP 4 x0 t16 S15).bind fun p18=>
(stP 1 x1 (.iface 55 p9.1) p18.2).bind fun p19=>
lvK E0 self fn a ds .ret p19.2) (
(qd3 E0 25 []).bind fun t20=>
(stP 4 x0 t20 p10.2).bind fun p22=>
(stP 1 x1 (.iface 55 p9.1) p22.2).bind fun p23=>
lvK E0 self fn a ds .ret p23.2))) (
lvK E0 self fn a ds .ret S)):=by kernel_rfl
theorem E26p (self:EV) (fn:Func) (a:Ac) (ds:List AD) (x0 x1:V) (v:V) (S:St):lvK E0 self fn a (ad 26 [] [x0,x1]::ds) (.pan v) S =
(qa4 E0 .neq 20 false true v .niliface).bind fun t3=>
(ifK t3 (
(qmg E0 53 true v).bind fun t5=>
(qa7 t5 0).bind fun t7=>
(qa7 t5 1).bind fun t8=>
(some (nwP 53 2 (Tr.ofListFrom .nil [(.int .i64 0),(.int .i64 0)] 0) S)).bind fun p9=>
(stP 2 p9.1 t7 p9.2).bind fun p10=>
(unV .not t8).bind fun t13=>
(ifK t13 (
callE (qik v p10.2) fun t15 S15=>
(qd3 E0 25 []).bind fun t16=>
(stP 4 x0 t16 S15).bind fun p18=>
(stP 1 x1 (.iface 55 p9.1) p18.2).bind fun p19=>
lvK E0 self fn a ds .ret p19.2) (
(qd3 E0 25 []).bind fun t20=>
(stP 4 x0 t20 p10.2).bind fun p22=>
(stP 1 x1 (.iface 55 p9.1) p22.2).bind fun p23=>
lvK E0 self fn a ds .ret p23.2))) (
lvK E0 self fn a ds .ret S)):=by kernel_rfl
end
noncomputable section
noncomputable def C15:Code:=Tryz.f15.body.getD .skip
noncomputable def B15:D:=(qao C15 [[],[],[],[1,3,7,8,9],[],[1,3],[],[],[],[0,1,3],[2],[]]).1
noncomputable def RL15:List Nat:=cellsOf Tryz.f15.results.toList
noncomputable def R15_3 (self:EV) (N:Nat) (nk:Ac->St->Rs) (ek:Nat->Ac->St->Rs) (a:Ac) (S:St):Rs:=qad [1,3] a fun a=>dr E0 self RL15 N (B15.r.r).r (mkK E0 self Tryz.f15 nk ek) a S
theorem R15_3_eq (self:EV) (N:Nat) (nk:Ac->St->Rs) (ek:Nat->Ac->St->Rs) ( v1 v3:V) (S:St):R15_3 self N nk ek (fr 27 [(1,v1),(3,v3)]) S =
(bsP 30 1 6 (Ev.one .nilfn) [(0,(.fn (.func 39) [] [v1])),(1,(.fn (.func 40) [] [v1])),(2,(.fn (.func 41) [] [v1])),(3,(.fn (.func 45) [] [v1,v3])),(4,(.fn (.func 47) [] [v1])),(5,(.fn (.func 51) [] [v1]))] S).bind fun p10=>
qaa (self.f 38 [p10.1] p10.2) fun t11 S11=>
some (.ret t11,S11):=by kernel_rfl
noncomputable def L15_17 (self:EV) (N:Nat) (nk:Ac->St->Rs) (ek:Nat->Ac->St->Rs) (n:Nat) ( v1 v3 v7 v8 v9:V) (S:St):Rs:=qbr [1,3,7,8,9] (dr E0 self RL15 N (B15.r.r.l.r.l.l)) (mkK E0 self Tryz.f15 nk ek) n (fr 27 [(1,v1),(3,v3),(7,v7),(8,v8),(9,v9)]) S
theorem L15_17_eq (self:EV) (N:Nat) (nk:Ac->St->Rs) (ek:Nat->Ac->St->Rs) (n:Nat) ( v1 v3 v7 v8 v9:V) (S:St):L15_17 self N nk ek (n+1) v1 v3 v7 v8 v9 S =
(qa4 E0 .lss 3 false false v9 v8).bind fun t18=>
ifK t18 (
(ixP 2 v7 v9).bind fun t19=>
(ldA 2 t19 S).bind fun p20=>
(some (nwP 41 2 (Tr.ofListFrom .nil [(sv []),(sv [])] 0) p20.2)).bind fun p21=>
(stP 2 p21.1 p20.1 p21.2).bind fun p22=>
(ld1 v3 p22.2).bind fun p23=>
(faP 0 false 1 p21.1).bind fun t24=>
(ld1 t24 p23.2).bind fun p25=>
(bsP 9 1 1 (Ev.one (sv [])) [(0,p25.1)] p25.2).bind fun p26=>
(apP 9 1 16 p23.1 p26.1 p26.2).bind fun p27=>
(stP 1 v3 p27.1 p27.2).bind fun p28=>
(qa4 E0 .add 3 false true v9 (.int .i64 1)).bind fun t29=>
L15_17 self N nk ek n v1 v3 v7 v8 t29 p28.2) (
ek 0 (fr 27 [(1,v1),(3,v3)]) S):=by kernel_rfl
noncomputable def F15 (self:EV) (N:Nat) (x0:V) (S:St):Rs:=qay E0 self N Tryz.f15 B15 [x0] S
theorem F15_eq (self:EV) (N:Nat) (x0:V) (S:St):F15 self N x0 S =
(qle 25 x0 S).bind fun p0=>
(some (nwP 22 1 (Ev.one .nilslice) p0.2)).bind fun p2=>
(faP 2 false 1 p0.1).bind fun t13=>
(ld1 t13 p2.2).bind fun p14=>
(lnS p14.1 p14.2).bind fun p15=>
L15_17 self N (R15_3 self N (qb5 E0 self Tryz.f15) qak) (exB 0 (R15_3 self N (qb5 E0 self Tryz.f15) qak) qak) N p0.1 p2.1 p14.1 p15.1 (.int .i64 0) p15.2:=by kernel_rfl
noncomputable def C38:Code:=Tryz.f38.body.getD .skip
noncomputable def B38:D:=(qao C38 [[],[]]).1
noncomputable def F38 (self:EV) (N:Nat) (x0:V) (S:St):Rs:=qay E0 self N Tryz.f38 B38 [x0] S
theorem F38_eq (self:EV) (N:Nat) (x0:V) (S:St):F38 self N x0 S =
qaa (self.f 75 [x0,(.fn (.func 76) [] [])] S) fun t2 S2=>
(unV .not t2).bind fun t3=>
some (.ret t3,S2):=by kernel_rfl
noncomputable def C75:Code:=Tryz.f75.body.getD .skip
noncomputable def B75:D:=(qao C75 [[],[]]).1
noncomputable def F75 (self:EV) (N:Nat) (x0 x1:V) (S:St):Rs:=qay E0 self N Tryz.f75 B75 [x0,x1] S
theorem F75_eq (self:EV) (N:Nat) (x0 x1:V) (S:St):F75 self N x0 x1 S =
qaa (self.f 102 [x0,x1] S) fun t3 S3=>
(qa4 E0 .geq 3 false true t3 (.int .i64 0)).bind fun t4=>
some (.ret t4,S3):=by kernel_rfl
noncomputable def C102:Code:=Tryz.f102.body.getD .skip
noncomputable def B102:D:=(qao C102 [[],[],[0,1,7,8],[],[],[],[],[],[],[],[0],[4],[]]).1
noncomputable def RL102:List Nat:=cellsOf Tryz.f102.results.toList
noncomputable def R102_1 (self:EV) (N:Nat) (nk:Ac->St->Rs) (ek:Nat->Ac->St->Rs) (a:Ac) (S:St):Rs:=qad [] a fun a=>dr E0 self RL102 N (B102.r).r (mkK E0 self Tryz.f102 nk ek) a S
theorem R102_1_eq (self:EV) (N:Nat) (nk:Ac->St->Rs) (ek:Nat->Ac->St->Rs) (S:St):R102_1 self N nk ek (fr 19 []) S =
some (.ret (.int .i64 (-1)),S):=by kernel_rfl
noncomputable def L102_6 (self:EV) (N:Nat) (nk:Ac->St->Rs) (ek:Nat->Ac->St->Rs) (n:Nat) ( v0 v1 v7 v8:V) (S:St):Rs:=qbr [0,1,7,8] (dr E0 self RL102 N (B102.r.l.r.l.l)) (mkK E0 self Tryz.f102 nk ek) n (fr 19 [(0,v0),(1,v1),(7,v7),(8,v8)]) S
theorem L102_6_eq (self:EV) (N:Nat) (nk:Ac->St->Rs) (ek:Nat->Ac->St->Rs) (n:Nat) ( v0 v1 v7 v8:V) (S:St):L102_6 self N nk ek (n+1) v0 v1 v7 v8 S =
(qa4 E0 .lss 3 false false v8 v7).bind fun t7=>
ifK t7 (
(ixP 1 v0 v8).bind fun t13=>
(ld1 t13 S).bind fun p14=>
qaa (qc2 E0 self v1 [p14.1] p14.2) fun t15 S15=>
ifK t15 (
some (.ret v8,S15)) (
(qa4 E0 .add 3 false true v8 (.int .i64 1)).bind fun t18=>
L102_6 self N nk ek n v0 v1 v7 t18 S15)) (
ek 0 (fr 19 []) S):=by kernel_rfl
noncomputable def F102 (self:EV) (N:Nat) (x0 x1:V) (S:St):Rs:=qay E0 self N Tryz.f102 B102 [x0,x1] S
theorem F102_eq (self:EV) (N:Nat) (x0 x1:V) (S:St):F102 self N x0 x1 S =
(lnS x0 S).bind fun p4=>
L102_6 self N (R102_1 self N (qb5 E0 self Tryz.f102) qak) (exB 0 (R102_1 self N (qb5 E0 self Tryz.f102) qak) qak) N x0 x1 p4.1 (.int .i64 0) p4.2:=by kernel_rfl
noncomputable def C76:Code:=Tryz.f76.body.getD .skip
noncomputable def B76:D:=(qao C76 [[],[]]).1
noncomputable def F76 (self:EV) (N:Nat) (x0:V) (S:St):Rs:=qay E0 self N Tryz.f76 B76 [x0] S
theorem F76_eq (self:EV) (N:Nat) (x0:V) (S:St):F76 self N x0 S =
qaa (qc2 E0 self x0 [] S) fun t2 S2=>
(unV .not t2).bind fun t3=>
some (.ret t3,S2):=by kernel_rfl
noncomputable def C39:Code:=Tryz.f39.body.getD .skip
noncomputable def B39:D:=(qao C39 [[],[]]).1
noncomputable def F39 (self:EV) (N:Nat) (x0:V) (S:St):Rs:=qay E0 self N Tryz.f39 B39 [x0] S
theorem F39_eq (self:EV) (N:Nat) (x0:V) (S:St):F39 self N x0 S =
(faP 0 false 1 x0).bind fun t1=>
(ld1 t1 S).bind fun p2=>
qaa (self.f 35 [p2.1] p2.2) fun t3 S3=>
(qa4 E0 .eql 27 false true t3 (.int .i64 0)).bind fun t4=>
some (.ret t4,S3):=by kernel_rfl
noncomputable def C40:Code:=Tryz.f40.body.getD .skip
noncomputable def B40:D:=(qao C40 [[],[]]).1
noncomputable def F40 (self:EV) (N:Nat) (x0:V) (S:St):Rs:=qay E0 self N Tryz.f40 B40 [x0] S
theorem F40_eq (self:EV) (N:Nat) (x0:V) (S:St):F40 self N x0 S =
(faP 1 false 1 x0).bind fun t1=>
(ld1 t1 S).bind fun p2=>
(lnS p2.1 p2.2).bind fun p3=>
(qa4 E0 .leq 3 false true p3.1 (.int .i64 8)).bind fun t4=>
(qa3 true t4).bind fun g6=>(bif g6 then faP 2 false 1 x0 else some (.tuple [])).bind fun t6=>
(qa3 true t4).bind fun g7=>(bif g7 then ld1 t6 p3.2 else some (.tuple [],p3.2)).bind fun p7=>
(qa3 true t4).bind fun g8=>(bif g8 then lnS p7.1 p7.2 else some (.tuple [],p7.2)).bind fun p8=>
(qa3 true t4).bind fun g9=>(bif g9 then qa4 E0 .leq 3 false true p8.1 (.int .i64 16)else some (.tuple [])).bind fun t9=>
(qbl t4 (some t9) (some (.bool false))).bind fun t10=>
some (.ret t10,p8.2):=by kernel_rfl
noncomputable def C41:Code:=Tryz.f41.body.getD .skip
noncomputable def B41:D:=(qao C41 [[],[]]).1
noncomputable def F41 (self:EV) (N:Nat) (x0:V) (S:St):Rs:=qay E0 self N Tryz.f41 B41 [x0] S
theorem F41_eq (self:EV) (N:Nat) (x0:V) (S:St):F41 self N x0 S =
(faP 1 false 1 x0).bind fun t1=>
(ld1 t1 S).bind fun p2=>
qaa (self.f 42 [p2.1,(.fn (.func 43) [] [])] p2.2) fun t3 S3=>
(unV .not t3).bind fun t4=>
some (.ret t4,S3):=by kernel_rfl
noncomputable def C42:Code:=Tryz.f42.body.getD .skip
noncomputable def B42:D:=(qao C42 [[],[]]).1
noncomputable def F42 (self:EV) (N:Nat) (x0 x1:V) (S:St):Rs:=qay E0 self N Tryz.f42 B42 [x0,x1] S
theorem F42_eq (self:EV) (N:Nat) (x0 x1:V) (S:St):F42 self N x0 x1 S =
qaa (self.f 77 [x0,x1] S) fun t3 S3=>
(qa4 E0 .geq 3 false true t3 (.int .i64 0)).bind fun t4=>
some (.ret t4,S3):=by kernel_rfl
noncomputable def C77:Code:=Tryz.f77.body.getD .skip
noncomputable def B77:D:=(qao C77 [[],[],[0,1,7,8],[],[],[],[],[],[],[],[0],[4],[]]).1
noncomputable def RL77:List Nat:=cellsOf Tryz.f77.results.toList
noncomputable def R77_1 (self:EV) (N:Nat) (nk:Ac->St->Rs) (ek:Nat->Ac->St->Rs) (a:Ac) (S:St):Rs:=qad [] a fun a=>dr E0 self RL77 N (B77.r).r (mkK E0 self Tryz.f77 nk ek) a S
theorem R77_1_eq (self:EV) (N:Nat) (nk:Ac->St->Rs) (ek:Nat->Ac->St->Rs) (S:St):R77_1 self N nk ek (fr 19 []) S =
some (.ret (.int .i64 (-1)),S):=by kernel_rfl
noncomputable def L77_6 (self:EV) (N:Nat) (nk:Ac->St->Rs) (ek:Nat->Ac->St->Rs) (n:Nat) ( v0 v1 v7 v8:V) (S:St):Rs:=qbr [0,1,7,8] (dr E0 self RL77 N (B77.r.l.r.l.l)) (mkK E0 self Tryz.f77 nk ek) n (fr 19 [(0,v0),(1,v1),(7,v7),(8,v8)]) S
theorem L77_6_eq (self:EV) (N:Nat) (nk:Ac->St->Rs) (ek:Nat->Ac->St->Rs) (n:Nat) ( v0 v1 v7 v8:V) (S:St):L77_6 self N nk ek (n+1) v0 v1 v7 v8 S =
(qa4 E0 .lss 3 false false v8 v7).bind fun t7=>
ifK t7 (
(ixP 1 v0 v8).bind fun t13=>
(ld1 t13 S).bind fun p14=>
qaa (qc2 E0 self v1 [p14.1] p14.2) fun t15 S15=>
ifK t15 (
some (.ret v8,S15)) (
(qa4 E0 .add 3 false true v8 (.int .i64 1)).bind fun t18=>
L77_6 self N nk ek n v0 v1 v7 t18 S15)) (
ek 0 (fr 19 []) S):=by kernel_rfl
noncomputable def F77 (self:EV) (N:Nat) (x0 x1:V) (S:St):Rs:=qay E0 self N Tryz.f77 B77 [x0,x1] S
theorem F77_eq (self:EV) (N:Nat) (x0 x1:V) (S:St):F77 self N x0 x1 S =
(lnS x0 S).bind fun p4=>
L77_6 self N (R77_1 self N (qb5 E0 self Tryz.f77) qak) (exB 0 (R77_1 self N (qb5 E0 self Tryz.f77) qak) qak) N x0 x1 p4.1 (.int .i64 0) p4.2:=by kernel_rfl
noncomputable def C43:Code:=Tryz.f43.body.getD .skip
noncomputable def B43:D:=(qao C43 [[],[]]).1
noncomputable def F43 (self:EV) (N:Nat) (x0:V) (S:St):Rs:=qay E0 self N Tryz.f43 B43 [x0] S
theorem F43_eq (self:EV) (N:Nat) (x0:V) (S:St):F43 self N x0 S =
qaa (self.f 44 [x0] S) fun t2 S2=>
(unV .not t2).bind fun t3=>
some (.ret t3,S2):=by kernel_rfl
noncomputable def C45:Code:=Tryz.f45.body.getD .skip
noncomputable def B45:D:=(qao C45 [[],[]]).1
noncomputable def F45 (self:EV) (N:Nat) (x0 x1:V) (S:St):Rs:=qay E0 self N Tryz.f45 B45 [x0,x1] S
theorem F45_eq (self:EV) (N:Nat) (x0 x1:V) (S:St):F45 self N x0 x1 S =
(faP 1 false 1 x0).bind fun t1=>
(ld1 t1 S).bind fun p2=>
qaa (self.f 46 [p2.1] p2.2) fun t3 S3=>
(qa3 true t3).bind fun g5=>(bif g5 then ld1 x1 S3 else some (.tuple [],S3)).bind fun p5=>
(qa3 true t3).bind fun g6=>qaa (bif g6 then self.f 46 [p5.1] p5.2 else some (.ret (.tuple []),p5.2)) fun t6 S6=>
(qbl t3 (some t6) (some (.bool false))).bind fun t7=>
some (.ret t7,S6):=by kernel_rfl
noncomputable def C47:Code:=Tryz.f47.body.getD .skip
noncomputable def B47:D:=(qao C47 [[],[]]).1
noncomputable def F47 (self:EV) (N:Nat) (x0:V) (S:St):Rs:=qay E0 self N Tryz.f47 B47 [x0] S
theorem F47_eq (self:EV) (N:Nat) (x0:V) (S:St):F47 self N x0 S =
(faP 2 false 1 x0).bind fun t1=>
(ld1 t1 S).bind fun p2=>
qaa (self.f 48 [p2.1,(.fn (.func 49) [] [])] p2.2) fun t3 S3=>
(unV .not t3).bind fun t4=>
some (.ret t4,S3):=by kernel_rfl
noncomputable def C48:Code:=Tryz.f48.body.getD .skip
noncomputable def B48:D:=(qao C48 [[],[]]).1
noncomputable def F48 (self:EV) (N:Nat) (x0 x1:V) (S:St):Rs:=qay E0 self N Tryz.f48 B48 [x0,x1] S
theorem F48_eq (self:EV) (N:Nat) (x0 x1:V) (S:St):F48 self N x0 x1 S =
qaa (self.f 78 [x0,x1] S) fun t3 S3=>
(qa4 E0 .geq 3 false true t3 (.int .i64 0)).bind fun t4=>
some (.ret t4,S3):=by kernel_rfl
noncomputable def C78:Code:=Tryz.f78.body.getD .skip
noncomputable def B78:D:=(qao C78 [[],[],[0,1,7,8],[],[],[],[],[],[],[],[0],[4],[]]).1
noncomputable def RL78:List Nat:=cellsOf Tryz.f78.results.toList
noncomputable def R78_1 (self:EV) (N:Nat) (nk:Ac->St->Rs) (ek:Nat->Ac->St->Rs) (a:Ac) (S:St):Rs:=qad [] a fun a=>dr E0 self RL78 N (B78.r).r (mkK E0 self Tryz.f78 nk ek) a S
theorem R78_1_eq (self:EV) (N:Nat) (nk:Ac->St->Rs) (ek:Nat->Ac->St->Rs) (S:St):R78_1 self N nk ek (fr 19 []) S =
some (.ret (.int .i64 (-1)),S):=by kernel_rfl
noncomputable def L78_6 (self:EV) (N:Nat) (nk:Ac->St->Rs) (ek:Nat->Ac->St->Rs) (n:Nat) ( v0 v1 v7 v8:V) (S:St):Rs:=qbr [0,1,7,8] (dr E0 self RL78 N (B78.r.l.r.l.l)) (mkK E0 self Tryz.f78 nk ek) n (fr 19 [(0,v0),(1,v1),(7,v7),(8,v8)]) S
theorem L78_6_eq (self:EV) (N:Nat) (nk:Ac->St->Rs) (ek:Nat->Ac->St->Rs) (n:Nat) ( v0 v1 v7 v8:V) (S:St):L78_6 self N nk ek (n+1) v0 v1 v7 v8 S =
(qa4 E0 .lss 3 false false v8 v7).bind fun t7=>
ifK t7 (
(ixP 2 v0 v8).bind fun t13=>
(ldA 2 t13 S).bind fun p14=>
qaa (qc2 E0 self v1 [p14.1] p14.2) fun t15 S15=>
ifK t15 (
some (.ret v8,S15)) (
(qa4 E0 .add 3 false true v8 (.int .i64 1)).bind fun t18=>
L78_6 self N nk ek n v0 v1 v7 t18 S15)) (
ek 0 (fr 19 []) S):=by kernel_rfl
noncomputable def F78 (self:EV) (N:Nat) (x0 x1:V) (S:St):Rs:=qay E0 self N Tryz.f78 B78 [x0,x1] S
theorem F78_eq (self:EV) (N:Nat) (x0 x1:V) (S:St):F78 self N x0 x1 S =
(lnS x0 S).bind fun p4=>
L78_6 self N (R78_1 self N (qb5 E0 self Tryz.f78) qak) (exB 0 (R78_1 self N (qb5 E0 self Tryz.f78) qak) qak) N x0 x1 p4.1 (.int .i64 0) p4.2:=by kernel_rfl
noncomputable def C49:Code:=Tryz.f49.body.getD .skip
noncomputable def B49:D:=(qao C49 [[],[]]).1
noncomputable def F49 (self:EV) (N:Nat) (x0:V) (S:St):Rs:=qay E0 self N Tryz.f49 B49 [x0] S
theorem F49_eq (self:EV) (N:Nat) (x0:V) (S:St):F49 self N x0 S =
(qle 41 x0 S).bind fun p0=>
(faP 0 false 1 p0.1).bind fun t2=>
(ld1 t2 p0.2).bind fun p3=>
qaa (self.f 50 [p3.1] p3.2) fun t4 S4=>
(unV .not t4).bind fun t5=>
(qa3 false t5).bind fun g7=>(bif g7 then faP 1 false 1 p0.1 else some (.tuple [])).bind fun t7=>
(qa3 false t5).bind fun g8=>(bif g8 then ld1 t7 S4 else some (.tuple [],S4)).bind fun p8=>
(qa3 false t5).bind fun g9=>(bif g9 then qc5 p8.1 p8.2 else some (.tuple [],p8.2)).bind fun p9=>
(qa3 false t5).bind fun g10=>(bif g10 then qa4 E0 .gtr 3 false true p9.1 (.int .i64 200)else some (.tuple [])).bind fun t10=>
(qbl t5 (some (.bool true)) (some t10)).bind fun t11=>
some (.ret t11,p9.2):=by kernel_rfl
noncomputable def C51:Code:=Tryz.f51.body.getD .skip
noncomputable def B51:D:=(qao C51 [[],[]]).1
noncomputable def F51 (self:EV) (N:Nat) (x0:V) (S:St):Rs:=qay E0 self N Tryz.f51 B51 [x0] S
theorem F51_eq (self:EV) (N:Nat) (x0:V) (S:St):F51 self N x0 S =
(faP 3 false 1 x0).bind fun t1=>
(ld1 t1 S).bind fun p2=>
(qc5 p2.1 p2.2).bind fun p3=>
(qa4 E0 .leq 3 false true p3.1 (.int .i64 4000)).bind fun t4=>
some (.ret t4,p3.2):=by kernel_rfl
end
noncomputable section
noncomputable def C6:Code:=Tryz.f6.body.getD .skip
noncomputable def B6:D:=(qao C6 [[],[],[],[],[],[],[],[],[1,4,5,20,21,22],[],[1,4,5],[],[],[],[0,1,4,5],[2,3],[],[1,4,5,32,33,34],[],[1,4,5],[],[],[],[0,1,4,5],[2,3],[],[]]).1
noncomputable def RL6:List Nat:=cellsOf Tryz.f6.results.toList
noncomputable def R6_16 (self:EV) (N:Nat) (nk:Ac->St->Rs) (ek:Nat->Ac->St->Rs) (a:Ac) (S:St):Rs:=qad [1,4,5] a fun a=>dr E0 self RL6 N (B6.r.r.r.r.r).r (mkK E0 self Tryz.f6 nk ek) a S
noncomputable def R6_17 (self:EV) (N:Nat) (nk:Ac->St->Rs) (ek:Nat->Ac->St->Rs) (a:Ac) (S:St):Rs:=qad [1,4,5] a fun a=>dr E0 self RL6 N (B6.r.r.r.r.r.r.l).r (mkK E0 self Tryz.f6 nk ek) a S
theorem R6_17_eq (self:EV) (N:Nat) (nk:Ac->St->Rs) (ek:Nat->Ac->St->Rs) ( v1 v4 v5:V) (S:St):R6_17 self N nk ek (fr 54 [(1,v1),(4,v4),(5,v5)]) S =
(bsP 9 1 1 (Ev.one (sv [])) [(0,(sv [114,117,110]))] S).bind fun p19=>
qaa (qc2 E0 self v5 [p19.1] p19.2) fun t20 S20=>
qej (qal E0 (B6.r.r.r.r.r.r.l.r.l.r.l).ops) S20 0 [] (self.f 20 [v4] (onS S20)) fun t21 S21=>
(faP 3 false 1 v1).bind fun t22=>
(ld1 t22 (onS S21)).bind fun p23=>
(qa4 E0 .add 9 false false t21 p23.1).bind fun t24=>
qi7 [(0,[2])] S20 [S21.log,[],p23.2.log,[],[],[]] (onS p23.2) fun S27=>
some (.ret (.tuple [t24,(.int .i64 0)]),S27):=by kernel_rfl
noncomputable def L6_32 (self:EV) (N:Nat) (nk:Ac->St->Rs) (ek:Nat->Ac->St->Rs) (n:Nat) ( v1 v4 v5 v32 v33 v34:V) (S:St):Rs:=qbr [1,4,5,32,33,34] (dr E0 self RL6 N (B6.r.r.r.r.r.r.l.l.r.l.l)) (mkK E0 self Tryz.f6 nk ek) n (fr 54 [(1,v1),(4,v4),(5,v5),(32,v32),(33,v33),(34,v34)]) S
theorem L6_32_eq (self:EV) (N:Nat) (nk:Ac->St->Rs) (ek:Nat->Ac->St->Rs) (n:Nat) ( v1 v4 v5 v32 v33 v34:V) (S:St):L6_32 self N nk ek (n+1) v1 v4 v5 v32 v33 v34 S =
(qa4 E0 .lss 3 false false v34 v33).bind fun t33=>
ifK t33 (
(ixP 2 v32 v34).bind fun t34=>
(ldA 2 t34 S).bind fun p35=>
(some (nwP 41 2 (Tr.ofListFrom .nil [(sv []),(sv [])] 0) p35.2)).bind fun p36=>
(stP 2 p36.1 p35.1 p36.2).bind fun p37=>
(faP 0 false 1 p36.1).bind fun t39=>
(ld1 t39 (onS p37.2)).bind fun p40=>
(faP 1 false 1 p36.1).bind fun t41=>
(ld1 t41 (onS p40.2)).bind fun p42=>
qej (qal E0 (B6.r.r.r.r.r.r.l.l.r.l.l.r.r.l.l.r).ops) p37.2 5 [[],[],p40.2.log,[],p42.2.log] (self.f 19 [p42.1] (onS p42.2)) fun t43 S43=>
(bsP 9 1 3 (Ev.one (sv [])) [(0,(sv [101,110,118])),(1,p40.1),(2,t43)] (onS S43)).bind fun p44=>
qej (qal E0 (B6.r.r.r.r.r.r.l.l.r.l.l.r.r.l.l.r).ops) p37.2 7 [[],[],p40.2.log,[],p42.2.log,S43.log,p44.2.log] (qc2 E0 self v5 [p44.1] (onS p44.2)) fun t45 S45=>
qi7 [(2,[4,5])] p37.2 [[],[],p40.2.log,[],p42.2.log,S43.log,p44.2.log,S45.log] S45 fun S46=>
(qa4 E0 .add 3 false true v34 (.int .i64 1)).bind fun t47=>
L6_32 self N nk ek n v1 v4 v5 v32 v33 t47 S46) (
ek 2 (fr 54 [(1,v1),(4,v4),(5,v5)]) S):=by kernel_rfl
theorem R6_16_eq (self:EV) (N:Nat) (nk:Ac->St->Rs) (ek:Nat->Ac->St->Rs) ( v1 v4 v5:V) (S:St):R6_16 self N nk ek (fr 54 [(1,v1),(4,v4),(5,v5)]) S =
(faP 2 false 1 v1).bind fun t28=>
(ld1 t28 S).bind fun p29=>
(lnS p29.1 p29.2).bind fun p30=>
L6_32 self N (R6_17 self N (fun a s=>qad [2,3] a fun a=>nk a s) ek) (exB 2 (R6_17 self N (fun a s=>qad [2,3] a fun a=>nk a s) ek) ek) N v1 v4 v5 p29.1 p30.1 (.int .i64 0) p30.2:=by kernel_rfl
noncomputable def L6_53 (self:EV) (N:Nat) (nk:Ac->St->Rs) (ek:Nat->Ac->St->Rs) (n:Nat) ( v1 v4 v5 v20 v21 v22:V) (S:St):Rs:=qbr [1,4,5,20,21,22] (dr E0 self RL6 N (B6.r.r.r.r.r.l.r.l.l)) (mkK E0 self Tryz.f6 nk ek) n (fr 54 [(1,v1),(4,v4),(5,v5),(20,v20),(21,v21),(22,v22)]) S
theorem L6_53_eq (self:EV) (N:Nat) (nk:Ac->St->Rs) (ek:Nat->Ac->St->Rs) (n:Nat) ( v1 v4 v5 v20 v21 v22:V) (S:St):L6_53 self N nk ek (n+1) v1 v4 v5 v20 v21 v22 S =
(qa4 E0 .lss 3 false false v22 v21).bind fun t54=>
ifK t54 (
(ixP 1 v20 v22).bind fun t55=>
(ld1 t55 S).bind fun p56=>
(bsP 9 1 2 (Ev.one (sv [])) [(0,(sv [105,110])),(1,p56.1)] p56.2).bind fun p60=>
qaa (qc2 E0 self v5 [p60.1] p60.2) fun t61 S61=>
(qa4 E0 .add 3 false true v22 (.int .i64 1)).bind fun t62=>
L6_53 self N nk ek n v1 v4 v5 v20 v21 t62 S61) (
ek 0 (fr 54 [(1,v1),(4,v4),(5,v5)]) S):=by kernel_rfl
noncomputable def F6 (self:EV) (N:Nat) (x0:V) (S:St):Rs:=qay E0 self N Tryz.f6 B6 [x0] S
theorem F6_eq (self:EV) (N:Nat) (x0:V) (S:St):F6 self N x0 S =
(qle 25 x0 S).bind fun p0=>
(ldA 4 p0.1 p0.2).bind fun p3=>
qaa (self.f 15 [p3.1] p3.2) fun t4 S4=>
(unV .not t4).bind fun t5=>
ifK t5 (
some (.ret (.tuple [(sv []),(.int .i64 2)]),S4)) (
(some (nwP 45 2 (Tr.ofListFrom .nil [.nilptr,.nilslice] 0) S4)).bind fun p8=>
(faP 0 false 1 p0.1).bind fun t12=>
(ld1 t12 p8.2).bind fun p13=>
(bsP 9 1 2 (Ev.one (sv [])) [(0,(sv [100,114,118])),(1,p13.1)] p13.2).bind fun p14=>
qaa (qc2 E0 self (.fn (.func 16) [] [p8.1]) [p14.1] p14.2) fun t15 S15=>
(faP 1 false 1 p0.1).bind fun t49=>
(ld1 t49 S15).bind fun p50=>
(lnS p50.1 p50.2).bind fun p51=>
L6_53 self N (R6_16 self N (qb5 E0 self Tryz.f6) qak) (exB 0 (R6_16 self N (qb5 E0 self Tryz.f6) qak) qak) N p0.1 p8.1 (.fn (.func 16) [] [p8.1]) p50.1 p51.1 (.int .i64 0) p51.2):=by kernel_rfl
noncomputable def C16:Code:=Tryz.f16.body.getD .skip
noncomputable def B16:D:=(qao C16 []).1
noncomputable def F16 (self:EV) (N:Nat) (x0 x1:V) (S:St):Rs:=qay E0 self N Tryz.f16 B16 [x0,x1] S
theorem F16_eq (self:EV) (N:Nat) (x0 x1:V) (S:St):F16 self N x0 x1 S =
qaa (self.f 18 [x0,(sv [32])] S) fun t1 S1=>
(qa4 E0 .add 9 false true t1 (sv [10])).bind fun t2=>
qaa (self.f 17 [x1,t2] S1) fun t3 S3=>
some (.ret (.tuple []),S3):=by kernel_rfl
end
end Go.Proofs.YtpgegoeghaplkaaGreatDoor.W
