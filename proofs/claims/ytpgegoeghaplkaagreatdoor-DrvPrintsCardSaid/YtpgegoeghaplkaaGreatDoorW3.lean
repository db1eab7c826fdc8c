/-
  WHAT THE FUNCTIONS COME TO: each is read by the evaluator,printed,and told as a function of data,part 3 of 15 (no condition).
-/
import Derived.Test.YtpgegoeghaplkaaGreatDoorW2
import Derived.Test.YtpgegoeghaplkaaGreatDoorProg
import Derived.KernelRfl
import Derived.Test.YtpgegoeghaplkaaGreatDoorShelf
import Derived.Test.YtpgegoeghaplkaaGreatDoorChecked
import Derived.WalkKit
import Derived.ProofKit
noncomputable section
namespace Go.Proofs.YtpgegoeghaplkaaGreatDoor.W
open Go.Proofs.YtpgegoeghaplkaaGreatDoor.Ev
set_option maxRecDepth 100000
noncomputable section
def C50:Code:=Tryz.f50.body.getD .skip
def B50:D:=(qak C50 [[],[],[],[0,3,6,7],[],[0],[],[],[],[],[],[0,0],[2],[]]).1
def RL50:List Nat:=cellsOf Tryz.f50.results.toList
def R50_2 (self:EV) (N:Nat) (nk:Ac->St->Rs) (ek:Nat->Ac->St->Rs) (a:Ac) (S:St):Rs:=qa7 [0] a fun a=>dr E0 self RL50 N (B50.r.r).r (mkK E0 self Tryz.f50 nk ek) a S
theorem R50_2_eq (self:EV) (N:Nat) (nk:Ac->St->Rs) (ek:Nat->Ac->St->Rs) ( v0:V) (S:St):R50_2 self N nk ek (fr 48 [(0,v0)]) S =
(qa4 E0 .neq 9 false true v0 (sv [])).bind fun t4=>
(qa2 true t4).bind fun g6=>(bif g6 then some v0 else some (.tuple [])).bind fun t6=>
(qa2 true t4).bind fun g7=>(bif g7 then qbr t6 S else some (.tuple [],S)).bind fun p7=>
(qa2 true t4).bind fun g8=>(bif g8 then qa4 E0 .leq 3 false true p7.1 (.int .i64 56)else some (.tuple [])).bind fun t8=>
(qay t4 (some t8) (some (.bool false))).bind fun t9=>
(qa2 true t9).bind fun g11=>(bif g11 then some v0 else some (.tuple [])).bind fun t11=>
(qa2 true t9).bind fun g12=>(bif g12 then qa4 E0 .neq 9 false true t11 (sv [111,117,116])else some (.tuple [])).bind fun t12=>
(qay t9 (some t12) (some (.bool false))).bind fun t13=>
(qa2 true t13).bind fun g15=>(bif g15 then some v0 else some (.tuple [])).bind fun t15=>
(qa2 true t13).bind fun g16=>(bif g16 then qa4 E0 .neq 9 false true t15 (sv [110,97,109,101])else some (.tuple [])).bind fun t16=>
(qay t13 (some t16) (some (.bool false))).bind fun t17=>
some (.ret t17,p7.2):=by kernel_rfl
def L50_22 (self:EV) (N:Nat) (nk:Ac->St->Rs) (ek:Nat->Ac->St->Rs) (n:Nat) ( v0 v3 v6 v7:V) (S:St):Rs:=qb8 [0,3,6,7] (dr E0 self RL50 N (B50.r.r.l.r.l.l)) (mkK E0 self Tryz.f50 nk ek) n (fr 48 [(0,v0),(3,v3),(6,v6),(7,v7)]) S
theorem L50_22_eq (self:EV) (N:Nat) (nk:Ac->St->Rs) (ek:Nat->Ac->St->Rs) (n:Nat) ( v0 v3 v6 v7:V) (S:St):L50_22 self N nk ek (n+1) v0 v3 v6 v7 S =
(qa4 E0 .lss 3 false false v7 v6).bind fun t23=>
ifK t23 (
(ixS v0 v7).bind fun t29=>
qaf (qc8 E0 self v3 [t29] S) fun t30 S30=>
(unV .not t30).bind fun t31=>
(qa2 true t31).bind fun g33=>(bif g33 then some v7 else some (.tuple [])).bind fun t33=>
(qa2 true t31).bind fun g34=>(bif g34 then qa4 E0 .eql 3 false true t33 (.int .i64 0)else some (.tuple [])).bind fun t34=>
(qa2 true t31).bind fun g35=>(bif g35 then some t34 else some (.tuple [])).bind fun t35=>
(qa2 false t35).bind fun g36=>(bif g36 then some v0 else some (.tuple [])).bind fun t36=>
(qa2 false t35).bind fun g37=>(bif g37 then some v7 else some (.tuple [])).bind fun t37=>
(qa2 false t35).bind fun g38=>(bif g38 then ixS t36 t37 else some (.tuple [])).bind fun t38=>
(qa2 false t35).bind fun g39=>(bif g39 then qa4 E0 .lss 5 false true t38 (.int .u8 48)else some (.tuple [])).bind fun t39=>
(qa2 true t31).bind fun g40=>(bif g40 then qay t35 (some (.bool true)) (some t39)else some (.tuple [])).bind fun t40=>
(qa2 true t31).bind fun g41=>(bif g41 then some t40 else some (.tuple [])).bind fun t41=>
(qa2 false t41).bind fun g42=>(bif g42 then some v0 else some (.tuple [])).bind fun t42=>
(qa2 false t41).bind fun g43=>(bif g43 then some v7 else some (.tuple [])).bind fun t43=>
(qa2 false t41).bind fun g44=>(bif g44 then ixS t42 t43 else some (.tuple [])).bind fun t44=>
(qa2 false t41).bind fun g45=>(bif g45 then qa4 E0 .gtr 5 false true t44 (.int .u8 57)else some (.tuple [])).bind fun t45=>
(qa2 true t31).bind fun g46=>(bif g46 then qay t41 (some (.bool true)) (some t45)else some (.tuple [])).bind fun t46=>
(qay t31 (some t46) (some (.bool false))).bind fun t47=>
ifK t47 (
some (.ret (.bool false),S30)) (
(qa4 E0 .add 3 false true v7 (.int .i64 1)).bind fun t49=>
L50_22 self N nk ek n v0 v3 v6 t49 S30)) (
ek 0 (fr 48 [(0,v0)]) S):=by kernel_rfl
def F50 (self:EV) (N:Nat) (x0:V) (S:St):Rs:=qaq E0 self N Tryz.f50 B50 [x0] S
theorem F50_eq (self:EV) (N:Nat) (x0:V) (S:St):F50 self N x0 S =
(qbr x0 S).bind fun p20=>
L50_22 self N (R50_2 self N (qat E0 self Tryz.f50) qad) (exB 0 (R50_2 self N (qat E0 self Tryz.f50) qad) qad) N x0 (.fn (.func 79) [] []) p20.1 (.int .i64 0) p20.2:=by kernel_rfl
def C79:Code:=Tryz.f79.body.getD .skip
def B79:D:=(qak C79 [[],[]]).1
def F79 (self:EV) (N:Nat) (x0:V) (S:St):Rs:=qaq E0 self N Tryz.f79 B79 [x0] S
theorem F79_eq (self:EV) (N:Nat) (x0:V) (S:St):F79 self N x0 S =
(qa4 E0 .eql 5 false true x0 (.int .u8 95)).bind fun t2=>
(qa2 false t2).bind fun g4=>(bif g4 then some x0 else some (.tuple [])).bind fun t4=>
(qa2 false t2).bind fun g5=>(bif g5 then qa4 E0 .geq 5 false true t4 (.int .u8 97)else some (.tuple [])).bind fun t5=>
(qa2 false t2).bind fun g6=>(bif g6 then some t5 else some (.tuple [])).bind fun t6=>
(qa2 true t6).bind fun g7=>(bif g7 then some x0 else some (.tuple [])).bind fun t7=>
(qa2 true t6).bind fun g8=>(bif g8 then qa4 E0 .leq 5 false true t7 (.int .u8 122)else some (.tuple [])).bind fun t8=>
(qa2 false t2).bind fun g9=>(bif g9 then qay t6 (some t8) (some (.bool false))else some (.tuple [])).bind fun t9=>
(qay t2 (some (.bool true)) (some t9)).bind fun t10=>
(qa2 false t10).bind fun g12=>(bif g12 then some x0 else some (.tuple [])).bind fun t12=>
(qa2 false t10).bind fun g13=>(bif g13 then qa4 E0 .geq 5 false true t12 (.int .u8 65)else some (.tuple [])).bind fun t13=>
(qa2 false t10).bind fun g14=>(bif g14 then some t13 else some (.tuple [])).bind fun t14=>
(qa2 true t14).bind fun g15=>(bif g15 then some x0 else some (.tuple [])).bind fun t15=>
(qa2 true t14).bind fun g16=>(bif g16 then qa4 E0 .leq 5 false true t15 (.int .u8 90)else some (.tuple [])).bind fun t16=>
(qa2 false t10).bind fun g17=>(bif g17 then qay t14 (some t16) (some (.bool false))else some (.tuple [])).bind fun t17=>
(qay t10 (some (.bool true)) (some t17)).bind fun t18=>
some (.ret t18,S):=by kernel_rfl
def C62:Code:=Tryz.f62.body.getD .skip
def B62:D:=(qak C62 [[],[],[],[],[],[],[],[1,5,29,30],[],[5],[],[],[],[0,5],[4],[]]).1
def RL62:List Nat:=cellsOf Tryz.f62.results.toList
def R62_24 (self:EV) (N:Nat) (nk:Ac->St->Rs) (ek:Nat->Ac->St->Rs) (a:Ac) (S:St):Rs:=qa7 [5] a fun a=>dr E0 self RL62 N (B62.r.r.r.r).r (mkK E0 self Tryz.f62 nk ek) a S
theorem R62_24_eq (self:EV) (N:Nat) (nk:Ac->St->Rs) (ek:Nat->Ac->St->Rs) ( v5:V) (S:St):R62_24 self N nk ek (fr 53 [(5,v5)]) S =
(qbe E0 43 9 v5 S).bind fun p26=>
some (.ret p26.1,p26.2):=by kernel_rfl
def L62_31 (self:EV) (N:Nat) (nk:Ac->St->Rs) (ek:Nat->Ac->St->Rs) (n:Nat) ( v1 v5 v29 v30:V) (S:St):Rs:=qb8 [1,5,29,30] (dr E0 self RL62 N (B62.r.r.r.r.l.r.l.l)) (mkK E0 self Tryz.f62 nk ek) n (fr 53 [(1,v1),(5,v5),(29,v29),(30,v30)]) S
theorem L62_31_eq (self:EV) (N:Nat) (nk:Ac->St->Rs) (ek:Nat->Ac->St->Rs) (n:Nat) ( v1 v5 v29 v30:V) (S:St):L62_31 self N nk ek (n+1) v1 v5 v29 v30 S =
(qa4 E0 .lss 3 false false v30 v29).bind fun t32=>
ifK t32 (
(qa4 E0 .mul 3 true false (.int .i64 2) v30).bind fun t39=>
(ixS v1 t39).bind fun t40=>
qcy (qaj E0 (B62.r.r.r.r.l.r.l.l.r.r.l.l.r).ops) S 6 [[],[],[],[],[],[]] (self.f 70 [(sv [48,49,50,51,52,53,54,55,56,57,97,98,99,100,101,102]),t40] (onS S)) fun t41 S41=>
(qa4 E0 .shl 3 false true t41 (.int .u64 4)).bind fun t42=>
(qa4 E0 .mul 3 true false (.int .i64 2) v30).bind fun t45=>
(qa4 E0 .add 3 false true t45 (.int .i64 1)).bind fun t46=>
(ixS v1 t46).bind fun t47=>
qcy (qaj E0 (B62.r.r.r.r.l.r.l.l.r.r.l.l.r).ops) S 13 [[],[],[],[],[],[],S41.log,[],[],[],[],[],[]] (self.f 70 [(sv [48,49,50,51,52,53,54,55,56,57,97,98,99,100,101,102]),t47] (onS S41)) fun t48 S48=>
(qa4 E0 .or 3 false false t42 t48).bind fun t49=>
(cvI .u8 t49 (onS S48)).bind fun p50=>
(ixP 1 v5 v30).bind fun t51=>
(stP 1 t51 p50.1 (onS p50.2)).bind fun p52=>
(qa4 E0 .add 3 false true v30 (.int .i64 1)).bind fun t53=>
L62_31 self N nk ek n v1 v5 v29 t53 (qbd S p52.2 [[],[],[],[],[],[],S41.log,[],[],[],[],[],[],S48.log,[],p50.2.log,[],p52.2.log])) (
ek 0 (fr 53 [(5,v5)]) S):=by kernel_rfl
def F62 (self:EV) (N:Nat) (x0 x1:V) (S:St):Rs:=qaq E0 self N Tryz.f62 B62 [x0,x1] S
theorem F62_eq (self:EV) (N:Nat) (x0 x1:V) (S:St):F62 self N x0 x1 S =
(qa4 E0 .eql 9 false true x1 (sv [45])).bind fun t2=>
ifK t2 (
some (.ret (sv []),S)) (
(qa4 E0 .neq 9 false true x1 (sv [])).bind fun t6=>
(qa2 true t6).bind fun g8=>(bif g8 then some x1 else some (.tuple [])).bind fun t8=>
(qa2 true t6).bind fun g9=>(bif g9 then qbr t8 S else some (.tuple [],S)).bind fun p9=>
(qa2 true t6).bind fun g10=>(bif g10 then qa4 E0 .rem 3 false true p9.1 (.int .i64 2)else some (.tuple [])).bind fun t10=>
(qa2 true t6).bind fun g11=>(bif g11 then qa4 E0 .eql 3 false true t10 (.int .i64 0)else some (.tuple [])).bind fun t11=>
(qay t6 (some t11) (some (.bool false))).bind fun t12=>
(qa2 true t12).bind fun g14=>(bif g14 then some x1 else some (.tuple [])).bind fun t14=>
(qa2 true t12).bind fun g15=>qaf (bif g15 then self.f 90 [t14,(sv [48,49,50,51,52,53,54,55,56,57,97,98,99,100,101,102])] p9.2 else some (.ret (.tuple []),p9.2)) fun t15 S15=>
(qa2 true t12).bind fun g16=>(bif g16 then qa4 E0 .eql 9 false true t15 (sv [])else some (.tuple [])).bind fun t16=>
(qay t12 (some t16) (some (.bool false))).bind fun t17=>
qaf (self.f 33 [x0,t17,(.int .i64 4)] S15) fun t18 S18=>
(qbr x1 S18).bind fun p20=>
(qa4 E0 .quo 3 false true p20.1 (.int .i64 2)).bind fun t21=>
(qe1 E0 43 t21 t21 p20.2).bind fun p22=>
(lnS p22.1 p22.2).bind fun p29=>
L62_31 self N (R62_24 self N (qat E0 self Tryz.f62) qad) (exB 0 (R62_24 self N (qat E0 self Tryz.f62) qad) qad) N x1 p22.1 p29.1 (.int .i64 0) p29.2):=by kernel_rfl
def C90:Code:=Tryz.f90.body.getD .skip
def B90:D:=(qak C90 [[],[],[],[],[],[],[],[],[],[],[],[]]).1
def F90 (self:EV) (N:Nat) (x0 x1:V) (S:St):Rs:=qaq E0 self N Tryz.f90 B90 [x0,x1] S
theorem F90_eq (self:EV) (N:Nat) (x0 x1:V) (S:St):F90 self N x0 x1 S =
(qa4 E0 .eql 9 false true x0 (sv [])).bind fun t2=>
(qa2 false t2).bind fun g4=>(bif g4 then some x1 else some (.tuple [])).bind fun t4=>
(qa2 false t2).bind fun g5=>(bif g5 then qa4 E0 .eql 9 false true t4 (sv [])else some (.tuple [])).bind fun t5=>
(qay t2 (some (.bool true)) (some t5)).bind fun t6=>
ifK t6 (
some (.ret x0,S)) (
(qbr x1 S).bind fun p10=>
(qa4 E0 .eql 3 false true p10.1 (.int .i64 1)).bind fun t11=>
(qa2 true t11).bind fun g13=>(bif g13 then some x1 else some (.tuple [])).bind fun t13=>
(qa2 true t11).bind fun g14=>(bif g14 then ixS t13 (.int .i64 0)else some (.tuple [])).bind fun t14=>
(qa2 true t11).bind fun g15=>(bif g15 then qa4 E0 .lss 5 false true t14 (.int .u8 128)else some (.tuple [])).bind fun t15=>
(qay t11 (some t15) (some (.bool false))).bind fun t16=>
ifK t16 (
(ixS x1 (.int .i64 0)).bind fun t19=>
qcy (qaj E0 (B90.r.r.l.r.l.l).ops) p10.2 3 [[],[],[]] (self.f 109 [x0,t19] (onS p10.2)) fun t20 S20=>
(ixS x1 (.int .i64 0)).bind fun t22=>
qcy (qaj E0 (B90.r.r.l.r.l.l).ops) p10.2 6 [[],[],[],S20.log,[],[]] (self.f 108 [t20,t22] (onS S20)) fun t23 S23=>
some (.ret t23,(qbd p10.2 (onS S23) [[],[],[],S20.log,[],[],S23.log,[]]))) (
qaf (self.f 110 [x1] p10.2) fun t26 S26=>
(qab t26 0).bind fun t28=>
(qab t26 1).bind fun t29=>
(some (nwP 128 256 (Tr.ofListFrom .nil [(.bool false),(.bool false),(.bool false),(.bool false),(.bool false),(.bool false),(.bool false),(.bool false),(.bool false),(.bool false),(.bool false),(.bool false),(.bool false),(.bool false),(.bool false),(.bool false),(.bool false),(.bool false),(.bool false),(.bool false),(.bool false),(.bool false),(.bool false),(.bool false),(.bool false),(.bool false),(.bool false),(.bool false),(.bool false),(.bool false),(.bool false),(.bool false),(.bool false),(.bool false),(.bool false),(.bool false),(.bool false),(.bool false),(.bool false),(.bool false),(.bool false),(.bool false),(.bool false),(.bool false),(.bool false),(.bool false),(.bool false),(.bool false),(.bool false),(.bool false),(.bool false),(.bool false),(.bool false),(.bool false),(.bool false),(.bool false),(.bool false),(.bool false),(.bool false),(.bool false),(.bool false),(.bool false),(.bool false),(.bool false),(.bool false),(.bool false),(.bool false),(.bool false),(.bool false),(.bool false),(.bool false),(.bool false),(.bool false),(.bool false),(.bool false),(.bool false),(.bool false),(.bool false),(.bool false),(.bool false),(.bool false),(.bool false),(.bool false),(.bool false),(.bool false),(.bool false),(.bool false),(.bool false),(.bool false),(.bool false),(.bool false),(.bool false),(.bool false),(.bool false),(.bool false),(.bool false),(.bool false),(.bool false),(.bool false),(.bool false),(.bool false),(.bool false),(.bool false),(.bool false),(.bool false),(.bool false),(.bool false),(.bool false),(.bool false),(.bool false),(.bool false),(.bool false),(.bool false),(.bool false),(.bool false),(.bool false),(.bool false),(.bool false),(.bool false),(.bool false),(.bool false),(.bool false),(.bool false),(.bool false),(.bool false),(.bool false),(.bool false),(.bool false),(.bool false),(.bool false),(.bool false),(.bool false),(.bool false),(.bool false),(.bool false),(.bool false),(.bool false),(.bool false),(.bool false),(.bool false),(.bool false),(.bool false),(.bool false),(.bool false),(.bool false),(.bool false),(.bool false),(.bool false),(.bool false),(.bool false),(.bool false),(.bool false),(.bool false),(.bool false),(.bool false),(.bool false),(.bool false),(.bool false),(.bool false),(.bool false),(.bool false),(.bool false),(.bool false),(.bool false),(.bool false),(.bool false),(.bool false),(.bool false),(.bool false),(.bool false),(.bool false),(.bool false),(.bool false),(.bool false),(.bool false),(.bool false),(.bool false),(.bool false),(.bool false),(.bool false),(.bool false),(.bool false),(.bool false),(.bool false),(.bool false),(.bool false),(.bool false),(.bool false),(.bool false),(.bool false),(.bool false),(.bool false),(.bool false),(.bool false),(.bool false),(.bool false),(.bool false),(.bool false),(.bool false),(.bool false),(.bool false),(.bool false),(.bool false),(.bool false),(.bool false),(.bool false),(.bool false),(.bool false),(.bool false),(.bool false),(.bool false),(.bool false),(.bool false),(.bool false),(.bool false),(.bool false),(.bool false),(.bool false),(.bool false),(.bool false),(.bool false),(.bool false),(.bool false),(.bool false),(.bool false),(.bool false),(.bool false),(.bool false),(.bool false),(.bool false),(.bool false),(.bool false),(.bool false),(.bool false),(.bool false),(.bool false),(.bool false),(.bool false),(.bool false),(.bool false),(.bool false),(.bool false),(.bool false),(.bool false),(.bool false),(.bool false),(.bool false),(.bool false),(.bool false),(.bool false),(.bool false),(.bool false),(.bool false),(.bool false),(.bool false),(.bool false)] 0) S26)).bind fun p30=>
(stP 256 p30.1 t28 p30.2).bind fun p31=>
ifK t29 (
qaf (self.f 112 [x0,p30.1] p31.2) fun t35 S35=>
qaf (self.f 111 [t35,p30.1] S35) fun t36 S36=>
some (.ret t36,S36)) (
qaf (self.f 114 [x0,x1] p31.2) fun t40 S40=>
qaf (self.f 113 [t40,x1] S40) fun t42 S42=>
some (.ret t42,S42)))):=by kernel_rfl
def C110:Code:=Tryz.f110.body.getD .skip
def B110:D:=(qak C110 [[],[],[0,2,4],[],[2],[],[],[],[],[],[],[0,2],[2,3],[]]).1
def RL110:List Nat:=cellsOf Tryz.f110.results.toList
def R110_2 (self:EV) (N:Nat) (nk:Ac->St->Rs) (ek:Nat->Ac->St->Rs) (a:Ac) (S:St):Rs:=qa7 [2] a fun a=>dr E0 self RL110 N (B110.r).r (mkK E0 self Tryz.f110 nk ek) a S
theorem R110_2_eq (self:EV) (N:Nat) (nk:Ac->St->Rs) (ek:Nat->Ac->St->Rs) ( v2:V) (S:St):R110_2 self N nk ek (fr 21 [(2,v2)]) S =
(ldA 256 v2 S).bind fun p3=>
(stP 256 v2 p3.1 p3.2).bind fun p4=>
(ldrA 256 v2 p4.2).bind fun p6=>
some (.ret (.tuple [p6.1,(.bool true)]),p6.2):=by kernel_rfl
def L110_8 (self:EV) (N:Nat) (nk:Ac->St->Rs) (ek:Nat->Ac->St->Rs) (n:Nat) ( v0 v2 v4:V) (S:St):Rs:=qb8 [0,2,4] (dr E0 self RL110 N (B110.r.l.r.l.l)) (mkK E0 self Tryz.f110 nk ek) n (fr 21 [(0,v0),(2,v2),(4,v4)]) S
theorem L110_8_eq (self:EV) (N:Nat) (nk:Ac->St->Rs) (ek:Nat->Ac->St->Rs) (n:Nat) ( v0 v2 v4:V) (S:St):L110_8 self N nk ek (n+1) v0 v2 v4 S =
(qbr v0 S).bind fun p11=>
(qa4 E0 .lss 3 false false v4 p11.1).bind fun t12=>
ifK t12 (
(ixS v0 v4).bind fun t15=>
(qa4 E0 .geq 5 false true t15 (.int .u8 128)).bind fun t18=>
ifK t18 (
(ldA 256 v2 p11.2).bind fun p19=>
(stP 256 v2 p19.1 p19.2).bind fun p20=>
(ldrA 256 v2 p20.2).bind fun p22=>
some (.ret (.tuple [p22.1,(.bool false)]),p22.2)) (
(ixA 256 1 false 1 v2 t15).bind fun t24=>
(stP 1 t24 (.bool true) p11.2).bind fun p25=>
(qa4 E0 .add 3 false true v4 (.int .i64 1)).bind fun t27=>
L110_8 self N nk ek n v0 v2 t27 p25.2)) (
ek 0 (fr 21 [(2,v2)]) p11.2):=by kernel_rfl
def F110 (self:EV) (N:Nat) (x0:V) (S:St):Rs:=qaq E0 self N Tryz.f110 B110 [x0] S
def C111:Code:=Tryz.f111.body.getD .skip
def B111:D:=(qak C111 [[],[0,1],[],[0],[],[],[0],[],[0,0],[4],[]]).1
def RL111:List Nat:=cellsOf Tryz.f111.results.toList
def R111_1 (self:EV) (N:Nat) (nk:Ac->St->Rs) (ek:Nat->Ac->St->Rs) (a:Ac) (S:St):Rs:=qa7 [0] a fun a=>dr E0 self RL111 N (B111.r).r (mkK E0 self Tryz.f111 nk ek) a S
theorem R111_1_eq (self:EV) (N:Nat) (nk:Ac->St->Rs) (ek:Nat->Ac->St->Rs) ( v0:V) (S:St):R111_1 self N nk ek (fr 16 [(0,v0)]) S =
some (.ret v0,S):=by kernel_rfl
def L111_4 (self:EV) (N:Nat) (nk:Ac->St->Rs) (ek:Nat->Ac->St->Rs) (n:Nat) ( v0 v1:V) (S:St):Rs:=qb8 [0,1] (dr E0 self RL111 N (B111.r.l.l.l)) (mkK E0 self Tryz.f111 nk ek) n (fr 16 [(0,v0),(1,v1)]) S
theorem L111_4_eq (self:EV) (N:Nat) (nk:Ac->St->Rs) (ek:Nat->Ac->St->Rs) (n:Nat) ( v0 v1:V) (S:St):L111_4 self N nk ek (n+1) v0 v1 S =
(qbr v0 S).bind fun p6=>
(qa4 E0 .gtr 3 false true p6.1 (.int .i64 0)).bind fun t7=>
ifK t7 (
(ixS v0 (.int .i64 0)).bind fun t10=>
qaf (self.f 124 [v1,t10] p6.2) fun t11 S11=>
(unV .not t11).bind fun t12=>
ifK t12 (
ek 0 (fr 16 [(0,v0)]) S11) (
(qb6 E0 9 v0 (some (.int .i64 1)) none none S11).bind fun p14=>
L111_4 self N nk ek n p14.1 v1 p14.2)) (
ek 0 (fr 16 [(0,v0)]) p6.2):=by kernel_rfl
def F111 (self:EV) (N:Nat) (x0 x1:V) (S:St):Rs:=qaq E0 self N Tryz.f111 B111 [x0,x1] S
theorem F111_eq (self:EV) (N:Nat) (x0 x1:V) (S:St):F111 self N x0 x1 S =
L111_4 self N (R111_1 self N (qat E0 self Tryz.f111) qad) (exB 0 (R111_1 self N (qat E0 self Tryz.f111) qad) qad) N x0 x1 S:=by kernel_rfl
def C112:Code:=Tryz.f112.body.getD .skip
def B112:D:=(qak C112 [[],[0,1],[],[0],[],[],[0],[],[0,0],[4],[]]).1
def RL112:List Nat:=cellsOf Tryz.f112.results.toList
def R112_1 (self:EV) (N:Nat) (nk:Ac->St->Rs) (ek:Nat->Ac->St->Rs) (a:Ac) (S:St):Rs:=qa7 [0] a fun a=>dr E0 self RL112 N (B112.r).r (mkK E0 self Tryz.f112 nk ek) a S
theorem R112_1_eq (self:EV) (N:Nat) (nk:Ac->St->Rs) (ek:Nat->Ac->St->Rs) ( v0:V) (S:St):R112_1 self N nk ek (fr 22 [(0,v0)]) S =
some (.ret v0,S):=by kernel_rfl
def L112_4 (self:EV) (N:Nat) (nk:Ac->St->Rs) (ek:Nat->Ac->St->Rs) (n:Nat) ( v0 v1:V) (S:St):Rs:=qb8 [0,1] (dr E0 self RL112 N (B112.r.l.l.l)) (mkK E0 self Tryz.f112 nk ek) n (fr 22 [(0,v0),(1,v1)]) S
theorem L112_4_eq (self:EV) (N:Nat) (nk:Ac->St->Rs) (ek:Nat->Ac->St->Rs) (n:Nat) ( v0 v1:V) (S:St):L112_4 self N nk ek (n+1) v0 v1 S =
(qbr v0 S).bind fun p6=>
(qa4 E0 .gtr 3 false true p6.1 (.int .i64 0)).bind fun t7=>
ifK t7 (
(qbr v0 p6.2).bind fun p11=>
(qa4 E0 .sub 3 false true p11.1 (.int .i64 1)).bind fun t12=>
(ixS v0 t12).bind fun t13=>
qaf (self.f 124 [v1,t13] p11.2) fun t14 S14=>
(unV .not t14).bind fun t15=>
ifK t15 (
ek 0 (fr 22 [(0,v0)]) S14) (
(qbr v0 S14).bind fun p18=>
(qa4 E0 .sub 3 false true p18.1 (.int .i64 1)).bind fun t19=>
(qb6 E0 9 v0 none (some t19) none p18.2).bind fun p20=>
L112_4 self N nk ek n p20.1 v1 p20.2)) (
ek 0 (fr 22 [(0,v0)]) p6.2):=by kernel_rfl
def F112 (self:EV) (N:Nat) (x0 x1:V) (S:St):Rs:=qaq E0 self N Tryz.f112 B112 [x0,x1] S
theorem F112_eq (self:EV) (N:Nat) (x0 x1:V) (S:St):F112 self N x0 x1 S =
L112_4 self N (R112_1 self N (qat E0 self Tryz.f112) qad) (exB 0 (R112_1 self N (qat E0 self Tryz.f112) qad) qad) N x0 x1 S:=by kernel_rfl
def C124:Code:=Tryz.f124.body.getD .skip
def B124:D:=(qak C124 [[],[]]).1
def F124 (self:EV) (N:Nat) (x0 x1:V) (S:St):Rs:=qaq E0 self N Tryz.f124 B124 [x0,x1] S
theorem F124_eq (self:EV) (N:Nat) (x0 x1:V) (S:St):F124 self N x0 x1 S =
(qbn x0).bind fun t3=>
(ixA 256 1 false 1 t3 x1).bind fun t4=>
(ld1 t4 S).bind fun p5=>
some (.ret p5.1,p5.2):=by kernel_rfl
end
end Go.Proofs.YtpgegoeghaplkaaGreatDoor.W


namespace Go.Proofs.YtpgegoeghaplkaaGreatDoor.W
open Go.Proofs.YtpgegoeghaplkaaGreatDoor.Ev
set_option maxRecDepth 100000
noncomputable section
def C15:Code:=Tryz.f15.body.getD .skip
def B15:D:=(qak C15 [[],[],[],[1,3,7,8,9],[],[1,3],[],[],[],[0,1,3],[2],[]]).1
def RL15:List Nat:=cellsOf Tryz.f15.results.toList
def R15_3 (self:EV) (N:Nat) (nk:Ac->St->Rs) (ek:Nat->Ac->St->Rs) (a:Ac) (S:St):Rs:=qa7 [1,3] a fun a=>dr E0 self RL15 N (B15.r.r).r (mkK E0 self Tryz.f15 nk ek) a S
theorem R15_3_eq (self:EV) (N:Nat) (nk:Ac->St->Rs) (ek:Nat->Ac->St->Rs) ( v1 v3:V) (S:St):R15_3 self N nk ek (fr 27 [(1,v1),(3,v3)]) S =
(bsP 30 1 6 (Ev.one .nilfn) [(0,(.fn (.func 39) [] [v1])),(1,(.fn (.func 40) [] [v1])),(2,(.fn (.func 41) [] [v1])),(3,(.fn (.func 45) [] [v1,v3])),(4,(.fn (.func 47) [] [v1])),(5,(.fn (.func 51) [] [v1]))] S).bind fun p10=>
qaf (self.f 38 [p10.1] p10.2) fun t11 S11=>
some (.ret t11,S11):=by kernel_rfl
def L15_17 (self:EV) (N:Nat) (nk:Ac->St->Rs) (ek:Nat->Ac->St->Rs) (n:Nat) ( v1 v3 v7 v8 v9:V) (S:St):Rs:=qb8 [1,3,7,8,9] (dr E0 self RL15 N (B15.r.r.l.r.l.l)) (mkK E0 self Tryz.f15 nk ek) n (fr 27 [(1,v1),(3,v3),(7,v7),(8,v8),(9,v9)]) S
theorem L15_17_eq (self:EV) (N:Nat) (nk:Ac->St->Rs) (ek:Nat->Ac->St->Rs) (n:Nat) ( v1 v3 v7 v8 v9:V) (S:St):L15_17 self N nk ek (n+1) v1 v3 v7 v8 v9 S =
(qa4 E0 .lss 3 false false v9 v8).bind fun t18=>
ifK t18 (
(ixP 2 v7 v9).bind fun t19=>
(ldA 2 t19 S).bind fun p20=>
(some (nwP 41 2 (Tr.ofListFrom .nil [(sv []),(sv [])] 0) p20.2)).bind fun p21=>
(stP 2 p21.1 p20.1 p21.2).bind fun p22=>
(ld1 v3 p22.2).bind fun p23=>
(faP 0 false 1 p21.1).bind fun t24=>
(ld1 t24 p23.2).bind fun p25=>
(bsP 9 1 1 (Ev.one (sv [])) [(0,p25.1)] p25.2).bind fun p26=>
(apP 9 1 16 p23.1 p26.1 p26.2).bind fun p27=>
(stP 1 v3 p27.1 p27.2).bind fun p28=>
(qa4 E0 .add 3 false true v9 (.int .i64 1)).bind fun t29=>
L15_17 self N nk ek n v1 v3 v7 v8 t29 p28.2) (
ek 0 (fr 27 [(1,v1),(3,v3)]) S):=by kernel_rfl
def F15 (self:EV) (N:Nat) (x0:V) (S:St):Rs:=qaq E0 self N Tryz.f15 B15 [x0] S
theorem F15_eq (self:EV) (N:Nat) (x0:V) (S:St):F15 self N x0 S =
(qjy 25 x0 S).bind fun p0=>
(some (nwP 22 1 (Ev.one .nilslice) p0.2)).bind fun p2=>
(faP 2 false 1 p0.1).bind fun t13=>
(ld1 t13 p2.2).bind fun p14=>
(lnS p14.1 p14.2).bind fun p15=>
L15_17 self N (R15_3 self N (qat E0 self Tryz.f15) qad) (exB 0 (R15_3 self N (qat E0 self Tryz.f15) qad) qad) N p0.1 p2.1 p14.1 p15.1 (.int .i64 0) p15.2:=by kernel_rfl
def C38:Code:=Tryz.f38.body.getD .skip
def B38:D:=(qak C38 [[],[]]).1
def F38 (self:EV) (N:Nat) (x0:V) (S:St):Rs:=qaq E0 self N Tryz.f38 B38 [x0] S
theorem F38_eq (self:EV) (N:Nat) (x0:V) (S:St):F38 self N x0 S =
qaf (self.f 75 [x0,(.fn (.func 76) [] [])] S) fun t2 S2=>
(unV .not t2).bind fun t3=>
some (.ret t3,S2):=by kernel_rfl
def C75:Code:=Tryz.f75.body.getD .skip
def B75:D:=(qak C75 [[],[]]).1
def F75 (self:EV) (N:Nat) (x0 x1:V) (S:St):Rs:=qaq E0 self N Tryz.f75 B75 [x0,x1] S
theorem F75_eq (self:EV) (N:Nat) (x0 x1:V) (S:St):F75 self N x0 x1 S =
qaf (self.f 102 [x0,x1] S) fun t3 S3=>
(qa4 E0 .geq 3 false true t3 (.int .i64 0)).bind fun t4=>
some (.ret t4,S3):=by kernel_rfl
def C102:Code:=Tryz.f102.body.getD .skip
def B102:D:=(qak C102 [[],[],[0,1,7,8],[],[],[],[],[],[],[],[0],[4],[]]).1
def RL102:List Nat:=cellsOf Tryz.f102.results.toList
def R102_1 (self:EV) (N:Nat) (nk:Ac->St->Rs) (ek:Nat->Ac->St->Rs) (a:Ac) (S:St):Rs:=qa7 [] a fun a=>dr E0 self RL102 N (B102.r).r (mkK E0 self Tryz.f102 nk ek) a S
theorem R102_1_eq (self:EV) (N:Nat) (nk:Ac->St->Rs) (ek:Nat->Ac->St->Rs) (S:St):R102_1 self N nk ek (fr 19 []) S =
some (.ret (.int .i64 (-1)),S):=by kernel_rfl
def L102_6 (self:EV) (N:Nat) (nk:Ac->St->Rs) (ek:Nat->Ac->St->Rs) (n:Nat) ( v0 v1 v7 v8:V) (S:St):Rs:=qb8 [0,1,7,8] (dr E0 self RL102 N (B102.r.l.r.l.l)) (mkK E0 self Tryz.f102 nk ek) n (fr 19 [(0,v0),(1,v1),(7,v7),(8,v8)]) S
theorem L102_6_eq (self:EV) (N:Nat) (nk:Ac->St->Rs) (ek:Nat->Ac->St->Rs) (n:Nat) ( v0 v1 v7 v8:V) (S:St):L102_6 self N nk ek (n+1) v0 v1 v7 v8 S =
(qa4 E0 .lss 3 false false v8 v7).bind fun t7=>
ifK t7 (
(ixP 1 v0 v8).bind fun t13=>
(ld1 t13 S).bind fun p14=>
qaf (qc8 E0 self v1 [p14.1] p14.2) fun t15 S15=>
ifK t15 (
some (.ret v8,S15)) (
(qa4 E0 .add 3 false true v8 (.int .i64 1)).bind fun t18=>
L102_6 self N nk ek n v0 v1 v7 t18 S15)) (
ek 0 (fr 19 []) S):=by kernel_rfl
def F102 (self:EV) (N:Nat) (x0 x1:V) (S:St):Rs:=qaq E0 self N Tryz.f102 B102 [x0,x1] S
theorem F102_eq (self:EV) (N:Nat) (x0 x1:V) (S:St):F102 self N x0 x1 S =
(lnS x0 S).bind fun p4=>
L102_6 self N (R102_1 self N (qat E0 self Tryz.f102) qad) (exB 0 (R102_1 self N (qat E0 self Tryz.f102) qad) qad) N x0 x1 p4.1 (.int .i64 0) p4.2:=by kernel_rfl
def C76:Code:=Tryz.f76.body.getD .skip
def B76:D:=(qak C76 [[],[]]).1
def F76 (self:EV) (N:Nat) (x0:V) (S:St):Rs:=qaq E0 self N Tryz.f76 B76 [x0] S
theorem F76_eq (self:EV) (N:Nat) (x0:V) (S:St):F76 self N x0 S =
qaf (qc8 E0 self x0 [] S) fun t2 S2=>
(unV .not t2).bind fun t3=>
some (.ret t3,S2):=by kernel_rfl
def C39:Code:=Tryz.f39.body.getD .skip
def B39:D:=(qak C39 [[],[]]).1
def F39 (self:EV) (N:Nat) (x0:V) (S:St):Rs:=qaq E0 self N Tryz.f39 B39 [x0] S
theorem F39_eq (self:EV) (N:Nat) (x0:V) (S:St):F39 self N x0 S =
(faP 0 false 1 x0).bind fun t1=>
(ld1 t1 S).bind fun p2=>
qaf (self.f 35 [p2.1] p2.2) fun t3 S3=>
(qa4 E0 .eql 27 false true t3 (.int .i64 0)).bind fun t4=>
some (.ret t4,S3):=by kernel_rfl
def C40:Code:=Tryz.f40.body.getD .skip
def B40:D:=(qak C40 [[],[]]).1
def F40 (self:EV) (N:Nat) (x0:V) (S:St):Rs:=qaq E0 self N Tryz.f40 B40 [x0] S
theorem F40_eq (self:EV) (N:Nat) (x0:V) (S:St):F40 self N x0 S =
(faP 1 false 1 x0).bind fun t1=>
(ld1 t1 S).bind fun p2=>
(lnS p2.1 p2.2).bind fun p3=>
(qa4 E0 .leq 3 false true p3.1 (.int .i64 8)).bind fun t4=>
(qa2 true t4).bind fun g6=>(bif g6 then faP 2 false 1 x0 else some (.tuple [])).bind fun t6=>
(qa2 true t4).bind fun g7=>(bif g7 then ld1 t6 p3.2 else some (.tuple [],p3.2)).bind fun p7=>
(qa2 true t4).bind fun g8=>(bif g8 then lnS p7.1 p7.2 else some (.tuple [],p7.2)).bind fun p8=>
(qa2 true t4).bind fun g9=>(bif g9 then qa4 E0 .leq 3 false true p8.1 (.int .i64 16)else some (.tuple [])).bind fun t9=>
(qay t4 (some t9) (some (.bool false))).bind fun t10=>
some (.ret t10,p8.2):=by kernel_rfl
def C41:Code:=Tryz.f41.body.getD .skip
def B41:D:=(qak C41 [[],[]]).1
def F41 (self:EV) (N:Nat) (x0:V) (S:St):Rs:=qaq E0 self N Tryz.f41 B41 [x0] S
theorem F41_eq (self:EV) (N:Nat) (x0:V) (S:St):F41 self N x0 S =
(faP 1 false 1 x0).bind fun t1=>
(ld1 t1 S).bind fun p2=>
qaf (self.f 42 [p2.1,(.fn (.func 43) [] [])] p2.2) fun t3 S3=>
(unV .not t3).bind fun t4=>
some (.ret t4,S3):=by kernel_rfl
def C42:Code:=Tryz.f42.body.getD .skip
def B42:D:=(qak C42 [[],[]]).1
def F42 (self:EV) (N:Nat) (x0 x1:V) (S:St):Rs:=qaq E0 self N Tryz.f42 B42 [x0,x1] S
theorem F42_eq (self:EV) (N:Nat) (x0 x1:V) (S:St):F42 self N x0 x1 S =
qaf (self.f 77 [x0,x1] S) fun t3 S3=>
(qa4 E0 .geq 3 false true t3 (.int .i64 0)).bind fun t4=>
some (.ret t4,S3):=by kernel_rfl
def C77:Code:=Tryz.f77.body.getD .skip
def B77:D:=(qak C77 [[],[],[0,1,7,8],[],[],[],[],[],[],[],[0],[4],[]]).1
def RL77:List Nat:=cellsOf Tryz.f77.results.toList
def R77_1 (self:EV) (N:Nat) (nk:Ac->St->Rs) (ek:Nat->Ac->St->Rs) (a:Ac) (S:St):Rs:=qa7 [] a fun a=>dr E0 self RL77 N (B77.r).r (mkK E0 self Tryz.f77 nk ek) a S
theorem R77_1_eq (self:EV) (N:Nat) (nk:Ac->St->Rs) (ek:Nat->Ac->St->Rs) (S:St):R77_1 self N nk ek (fr 19 []) S =
some (.ret (.int .i64 (-1)),S):=by kernel_rfl
def L77_6 (self:EV) (N:Nat) (nk:Ac->St->Rs) (ek:Nat->Ac->St->Rs) (n:Nat) ( v0 v1 v7 v8:V) (S:St):Rs:=qb8 [0,1,7,8] (dr E0 self RL77 N (B77.r.l.r.l.l)) (mkK E0 self Tryz.f77 nk ek) n (fr 19 [(0,v0),(1,v1),(7,v7),(8,v8)]) S
theorem L77_6_eq (self:EV) (N:Nat) (nk:Ac->St->Rs) (ek:Nat->Ac->St->Rs) (n:Nat) ( v0 v1 v7 v8:V) (S:St):L77_6 self N nk ek (n+1) v0 v1 v7 v8 S =
(qa4 E0 .lss 3 false false v8 v7).bind fun t7=>
ifK t7 (
(ixP 1 v0 v8).bind fun t13=>
(ld1 t13 S).bind fun p14=>
qaf (qc8 E0 self v1 [p14.1] p14.2) fun t15 S15=>
ifK t15 (
some (.ret v8,S15)) (
(qa4 E0 .add 3 false true v8 (.int .i64 1)).bind fun t18=>
L77_6 self N nk ek n v0 v1 v7 t18 S15)) (
ek 0 (fr 19 []) S):=by kernel_rfl
def F77 (self:EV) (N:Nat) (x0 x1:V) (S:St):Rs:=qaq E0 self N Tryz.f77 B77 [x0,x1] S
theorem F77_eq (self:EV) (N:Nat) (x0 x1:V) (S:St):F77 self N x0 x1 S =
(lnS x0 S).bind fun p4=>
L77_6 self N (R77_1 self N (qat E0 self Tryz.f77) qad) (exB 0 (R77_1 self N (qat E0 self Tryz.f77) qad) qad) N x0 x1 p4.1 (.int .i64 0) p4.2:=by kernel_rfl
def C43:Code:=Tryz.f43.body.getD .skip
def B43:D:=(qak C43 [[],[]]).1
def F43 (self:EV) (N:Nat) (x0:V) (S:St):Rs:=qaq E0 self N Tryz.f43 B43 [x0] S
theorem F43_eq (self:EV) (N:Nat) (x0:V) (S:St):F43 self N x0 S =
qaf (self.f 44 [x0] S) fun t2 S2=>
(unV .not t2).bind fun t3=>
some (.ret t3,S2):=by kernel_rfl
def C45:Code:=Tryz.f45.body.getD .skip
def B45:D:=(qak C45 [[],[]]).1
def F45 (self:EV) (N:Nat) (x0 x1:V) (S:St):Rs:=qaq E0 self N Tryz.f45 B45 [x0,x1] S
theorem F45_eq (self:EV) (N:Nat) (x0 x1:V) (S:St):F45 self N x0 x1 S =
(faP 1 false 1 x0).bind fun t1=>
(ld1 t1 S).bind fun p2=>
qaf (self.f 46 [p2.1] p2.2) fun t3 S3=>
(qa2 true t3).bind fun g5=>(bif g5 then ld1 x1 S3 else some (.tuple [],S3)).bind fun p5=>
(qa2 true t3).bind fun g6=>qaf (bif g6 then self.f 46 [p5.1] p5.2 else some (.ret (.tuple []),p5.2)) fun t6 S6=>
(qay t3 (some t6) (some (.bool false))).bind fun t7=>
some (.ret t7,S6):=by kernel_rfl
def C47:Code:=Tryz.f47.body.getD .skip
def B47:D:=(qak C47 [[],[]]).1
def F47 (self:EV) (N:Nat) (x0:V) (S:St):Rs:=qaq E0 self N Tryz.f47 B47 [x0] S
theorem F47_eq (self:EV) (N:Nat) (x0:V) (S:St):F47 self N x0 S =
(faP 2 false 1 x0).bind fun t1=>
(ld1 t1 S).bind fun p2=>
qaf (self.f 48 [p2.1,(.fn (.func 49) [] [])] p2.2) fun t3 S3=>
(unV .not t3).bind fun t4=>
some (.ret t4,S3):=by kernel_rfl
def C48:Code:=Tryz.f48.body.getD .skip
def B48:D:=(qak C48 [[],[]]).1
def F48 (self:EV) (N:Nat) (x0 x1:V) (S:St):Rs:=qaq E0 self N Tryz.f48 B48 [x0,x1] S
theorem F48_eq (self:EV) (N:Nat) (x0 x1:V) (S:St):F48 self N x0 x1 S =
qaf (self.f 78 [x0,x1] S) fun t3 S3=>
(qa4 E0 .geq 3 false true t3 (.int .i64 0)).bind fun t4=>
some (.ret t4,S3):=by kernel_rfl
def C78:Code:=Tryz.f78.body.getD .skip
def B78:D:=(qak C78 [[],[],[0,1,7,8],[],[],[],[],[],[],[],[0],[4],[]]).1
def RL78:List Nat:=cellsOf Tryz.f78.results.toList
def R78_1 (self:EV) (N:Nat) (nk:Ac->St->Rs) (ek:Nat->Ac->St->Rs) (a:Ac) (S:St):Rs:=qa7 [] a fun a=>dr E0 self RL78 N (B78.r).r (mkK E0 self Tryz.f78 nk ek) a S
theorem R78_1_eq (self:EV) (N:Nat) (nk:Ac->St->Rs) (ek:Nat->Ac->St->Rs) (S:St):R78_1 self N nk ek (fr 19 []) S =
some (.ret (.int .i64 (-1)),S):=by kernel_rfl
def L78_6 (self:EV) (N:Nat) (nk:Ac->St->Rs) (ek:Nat->Ac->St->Rs) (n:Nat) ( v0 v1 v7 v8:V) (S:St):Rs:=qb8 [0,1,7,8] (dr E0 self RL78 N (B78.r.l.r.l.l)) (mkK E0 self Tryz.f78 nk ek) n (fr 19 [(0,v0),(1,v1),(7,v7),(8,v8)]) S
theorem L78_6_eq (self:EV) (N:Nat) (nk:Ac->St->Rs) (ek:Nat->Ac->St->Rs) (n:Nat) ( v0 v1 v7 v8:V) (S:St):L78_6 self N nk ek (n+1) v0 v1 v7 v8 S =
(qa4 E0 .lss 3 false false v8 v7).bind fun t7=>
ifK t7 (
(ixP 2 v0 v8).bind fun t13=>
(ldA 2 t13 S).bind fun p14=>
qaf (qc8 E0 self v1 [p14.1] p14.2) fun t15 S15=>
ifK t15 (
some (.ret v8,S15)) (
(qa4 E0 .add 3 false true v8 (.int .i64 1)).bind fun t18=>
L78_6 self N nk ek n v0 v1 v7 t18 S15)) (
ek 0 (fr 19 []) S):=by kernel_rfl
def F78 (self:EV) (N:Nat) (x0 x1:V) (S:St):Rs:=qaq E0 self N Tryz.f78 B78 [x0,x1] S
theorem F78_eq (self:EV) (N:Nat) (x0 x1:V) (S:St):F78 self N x0 x1 S =
(lnS x0 S).bind fun p4=>
L78_6 self N (R78_1 self N (qat E0 self Tryz.f78) qad) (exB 0 (R78_1 self N (qat E0 self Tryz.f78) qad) qad) N x0 x1 p4.1 (.int .i64 0) p4.2:=by kernel_rfl
def C49:Code:=Tryz.f49.body.getD .skip
def B49:D:=(qak C49 [[],[]]).1
def F49 (self:EV) (N:Nat) (x0:V) (S:St):Rs:=qaq E0 self N Tryz.f49 B49 [x0] S
theorem F49_eq (self:EV) (N:Nat) (x0:V) (S:St):F49 self N x0 S =
(qjy 41 x0 S).bind fun p0=>
(faP 0 false 1 p0.1).bind fun t2=>
(ld1 t2 p0.2).bind fun p3=>
qaf (self.f 50 [p3.1] p3.2) fun t4 S4=>
(unV .not t4).bind fun t5=>
(qa2 false t5).bind fun g7=>(bif g7 then faP 1 false 1 p0.1 else some (.tuple [])).bind fun t7=>
(qa2 false t5).bind fun g8=>(bif g8 then ld1 t7 S4 else some (.tuple [],S4)).bind fun p8=>
(qa2 false t5).bind fun g9=>(bif g9 then qbr p8.1 p8.2 else some (.tuple [],p8.2)).bind fun p9=>
(qa2 false t5).bind fun g10=>(bif g10 then qa4 E0 .gtr 3 false true p9.1 (.int .i64 200)else some (.tuple [])).bind fun t10=>
(qay t5 (some (.bool true)) (some t10)).bind fun t11=>
some (.ret t11,p9.2):=by kernel_rfl
def C51:Code:=Tryz.f51.body.getD .skip
def B51:D:=(qak C51 [[],[]]).1
def F51 (self:EV) (N:Nat) (x0:V) (S:St):Rs:=qaq E0 self N Tryz.f51 B51 [x0] S
theorem F51_eq (self:EV) (N:Nat) (x0:V) (S:St):F51 self N x0 S =
(faP 3 false 1 x0).bind fun t1=>
(ld1 t1 S).bind fun p2=>
(qbr p2.1 p2.2).bind fun p3=>
(qa4 E0 .leq 3 false true p3.1 (.int .i64 4000)).bind fun t4=>
some (.ret t4,p3.2):=by kernel_rfl
end
noncomputable section
def C6:Code:=Tryz.f6.body.getD .skip
def B6:D:=(qak C6 [[],[],[],[],[],[],[],[],[1,4,5,20,21,22],[],[1,4,5],[],[],[],[0,1,4,5],[2,3],[],[1,4,5,32,33,34],[],[1,4,5],[],[],[],[0,1,4,5],[2,3],[],[]]).1
def RL6:List Nat:=cellsOf Tryz.f6.results.toList
def R6_16 (self:EV) (N:Nat) (nk:Ac->St->Rs) (ek:Nat->Ac->St->Rs) (a:Ac) (S:St):Rs:=qa7 [1,4,5] a fun a=>dr E0 self RL6 N (B6.r.r.r.r.r).r (mkK E0 self Tryz.f6 nk ek) a S
def R6_17 (self:EV) (N:Nat) (nk:Ac->St->Rs) (ek:Nat->Ac->St->Rs) (a:Ac) (S:St):Rs:=qa7 [1,4,5] a fun a=>dr E0 self RL6 N (B6.r.r.r.r.r.r.l).r (mkK E0 self Tryz.f6 nk ek) a S
theorem R6_17_eq (self:EV) (N:Nat) (nk:Ac->St->Rs) (ek:Nat->Ac->St->Rs) ( v1 v4 v5:V) (S:St):R6_17 self N nk ek (fr 54 [(1,v1),(4,v4),(5,v5)]) S =
(bsP 9 1 1 (Ev.one (sv [])) [(0,(sv [114,117,110]))] S).bind fun p19=>
qaf (qc8 E0 self v5 [p19.1] p19.2) fun t20 S20=>
qcy (qaj E0 (B6.r.r.r.r.r.r.l.r.l.r.l).ops) S20 0 [] (self.f 20 [v4] (onS S20)) fun t21 S21=>
(faP 3 false 1 v1).bind fun t22=>
(ld1 t22 (onS S21)).bind fun p23=>
(qa4 E0 .add 9 false false t21 p23.1).bind fun t24=>
qgb [(0,[2])] S20 [S21.log,[],p23.2.log,[],[],[]] (onS p23.2) fun S27=>
some (.ret (.tuple [t24,(.int .i64 0)]),S27):=by kernel_rfl
def L6_32 (self:EV) (N:Nat) (nk:Ac->St->Rs) (ek:Nat->Ac->St->Rs) (n:Nat) ( v1 v4 v5 v32 v33 v34:V) (S:St):Rs:=qb8 [1,4,5,32,33,34] (dr E0 self RL6 N (B6.r.r.r.r.r.r.l.l.r.l.l)) (mkK E0 self Tryz.f6 nk ek) n (fr 54 [(1,v1),(4,v4),(5,v5),(32,v32),(33,v33),(34,v34)]) S
theorem L6_32_eq (self:EV) (N:Nat) (nk:Ac->St->Rs) (ek:Nat->Ac->St->Rs) (n:Nat) ( v1 v4 v5 v32 v33 v34:V) (S:St):L6_32 self N nk ek (n+1) v1 v4 v5 v32 v33 v34 S =
(qa4 E0 .lss 3 false false v34 v33).bind fun t33=>
ifK t33 (
(ixP 2 v32 v34).bind fun t34=>
(ldA 2 t34 S).bind fun p35=>
(some (nwP 41 2 (Tr.ofListFrom .nil [(sv []),(sv [])] 0) p35.2)).bind fun p36=>
(stP 2 p36.1 p35.1 p36.2).bind fun p37=>
(faP 0 false 1 p36.1).bind fun t39=>
(ld1 t39 (onS p37.2)).bind fun p40=>
(faP 1 false 1 p36.1).bind fun t41=>
(ld1 t41 (onS p40.2)).bind fun p42=>
qcy (qaj E0 (B6.r.r.r.r.r.r.l.l.r.l.l.r.r.l.l.r).ops) p37.2 5 [[],[],p40.2.log,[],p42.2.log] (self.f 19 [p42.1] (onS p42.2)) fun t43 S43=>
(bsP 9 1 3 (Ev.one (sv [])) [(0,(sv [101,110,118])),(1,p40.1),(2,t43)] (onS S43)).bind fun p44=>
qcy (qaj E0 (B6.r.r.r.r.r.r.l.l.r.l.l.r.r.l.l.r).ops) p37.2 7 [[],[],p40.2.log,[],p42.2.log,S43.log,p44.2.log] (qc8 E0 self v5 [p44.1] (onS p44.2)) fun t45 S45=>
qgb [(2,[4,5])] p37.2 [[],[],p40.2.log,[],p42.2.log,S43.log,p44.2.log,S45.log] S45 fun S46=>
(qa4 E0 .add 3 false true v34 (.int .i64 1)).bind fun t47=>
L6_32 self N nk ek n v1 v4 v5 v32 v33 t47 S46) (
ek 2 (fr 54 [(1,v1),(4,v4),(5,v5)]) S):=by kernel_rfl
theorem R6_16_eq (self:EV) (N:Nat) (nk:Ac->St->Rs) (ek:Nat->Ac->St->Rs) ( v1 v4 v5:V) (S:St):R6_16 self N nk ek (fr 54 [(1,v1),(4,v4),(5,v5)]) S =
(faP 2 false 1 v1).bind fun t28=>
(ld1 t28 S).bind fun p29=>
(lnS p29.1 p29.2).bind fun p30=>
L6_32 self N (R6_17 self N (fun a s=>qa7 [2,3] a fun a=>nk a s) ek) (exB 2 (R6_17 self N (fun a s=>qa7 [2,3] a fun a=>nk a s) ek) ek) N v1 v4 v5 p29.1 p30.1 (.int .i64 0) p30.2:=by kernel_rfl
def L6_53 (self:EV) (N:Nat) (nk:Ac->St->Rs) (ek:Nat->Ac->St->Rs) (n:Nat) ( v1 v4 v5 v20 v21 v22:V) (S:St):Rs:=qb8 [1,4,5,20,21,22] (dr E0 self RL6 N (B6.r.r.r.r.r.l.r.l.l)) (mkK E0 self Tryz.f6 nk ek) n (fr 54 [(1,v1),(4,v4),(5,v5),(20,v20),(21,v21),(22,v22)]) S
theorem L6_53_eq (self:EV) (N:Nat) (nk:Ac->St->Rs) (ek:Nat->Ac->St->Rs) (n:Nat) ( v1 v4 v5 v20 v21 v22:V) (S:St):L6_53 self N nk ek (n+1) v1 v4 v5 v20 v21 v22 S =
(qa4 E0 .lss 3 false false v22 v21).bind fun t54=>
ifK t54 (
(ixP 1 v20 v22).bind fun t55=>
(ld1 t55 S).bind fun p56=>
(bsP 9 1 2 (Ev.one (sv [])) [(0,(sv [105,110])),(1,p56.1)] p56.2).bind fun p60=>
qaf (qc8 E0 self v5 [p60.1] p60.2) fun t61 S61=>
(qa4 E0 .add 3 false true v22 (.int .i64 1)).bind fun t62=>
L6_53 self N nk ek n v1 v4 v5 v20 v21 t62 S61) (
ek 0 (fr 54 [(1,v1),(4,v4),(5,v5)]) S):=by kernel_rfl
def F6 (self:EV) (N:Nat) (x0:V) (S:St):Rs:=qaq E0 self N Tryz.f6 B6 [x0] S
theorem F6_eq (self:EV) (N:Nat) (x0:V) (S:St):F6 self N x0 S =
(qjy 25 x0 S).bind fun p0=>
(ldA 4 p0.1 p0.2).bind fun p3=>
qaf (self.f 15 [p3.1] p3.2) fun t4 S4=>
(unV .not t4).bind fun t5=>
ifK t5 (
some (.ret (.tuple [(sv []),(.int .i64 2)]),S4)) (
(some (nwP 45 2 (Tr.ofListFrom .nil [.nilptr,.nilslice] 0) S4)).bind fun p8=>
(faP 0 false 1 p0.1).bind fun t12=>
(ld1 t12 p8.2).bind fun p13=>
(bsP 9 1 2 (Ev.one (sv [])) [(0,(sv [100,114,118])),(1,p13.1)] p13.2).bind fun p14=>
qaf (qc8 E0 self (.fn (.func 16) [] [p8.1]) [p14.1] p14.2) fun t15 S15=>
(faP 1 false 1 p0.1).bind fun t49=>
(ld1 t49 S15).bind fun p50=>
(lnS p50.1 p50.2).bind fun p51=>
L6_53 self N (R6_16 self N (qat E0 self Tryz.f6) qad) (exB 0 (R6_16 self N (qat E0 self Tryz.f6) qad) qad) N p0.1 p8.1 (.fn (.func 16) [] [p8.1]) p50.1 p51.1 (.int .i64 0) p51.2):=by kernel_rfl
def C16:Code:=Tryz.f16.body.getD .skip
def B16:D:=(qak C16 []).1
def F16 (self:EV) (N:Nat) (x0 x1:V) (S:St):Rs:=qaq E0 self N Tryz.f16 B16 [x0,x1] S
theorem F16_eq (self:EV) (N:Nat) (x0 x1:V) (S:St):F16 self N x0 x1 S =
qaf (self.f 18 [x0,(sv [32])] S) fun t1 S1=>
(qa4 E0 .add 9 false true t1 (sv [10])).bind fun t2=>
qaf (self.f 17 [x1,t2] S1) fun t3 S3=>
some (.ret (.tuple []),S3):=by kernel_rfl
end
end Go.Proofs.YtpgegoeghaplkaaGreatDoor.W


namespace Go.Proofs.YtpgegoeghaplkaaGreatDoor.W
open Go.Proofs.YtpgegoeghaplkaaGreatDoor.Ev Go.RowKit Go.Proofs
set_option maxHeartbeats 1000000 in
set_option maxRecDepth 100000 in
theorem copyUsed (b o:Nat) (w:World) (h0:w.cell? ⟨b,o,none⟩=some (.pointer (some ⟨b,o,none⟩))) :
 Calls Tryz.prog 52 #[.pointer (some ⟨b,o,none⟩)] w fun e w'=>e=.returned (.tuple #[])/\w'=w:=by
 have hj:(Tryz.prog.info? 45).map (·.size)=some 2:=by kernel_rfl
 obtain⟨j,hj,_⟩:=Option.map_eq_some_iff.1 hj
 go_enter Tryz.func52,Tryz.ntmps52
 go_wp2
 rw[Lib.run_neq_ptr_same w _ Tryz.underlying42 hj]
 go_wp2
 go_end0
 exact⟨rfl,rfl⟩
set_option maxHeartbeats 1000000 in
set_option maxRecDepth 100000 in
theorem copyFresh (b o n:Nat) (w:World) (h0:w.cell? ⟨b,o,none⟩=some (.pointer none)) (hsh:w.shape? b=some (45,n)) (ho:o<n) (hli:liesAt Tryz.prog Tryz.prog.depth 45 (n/Tryz.prog.cellsOf 45) o 45 1=true) (hfz:w.frozen? ⟨b,o,none⟩=false) :
 Calls Tryz.prog 52 #[.pointer (some ⟨b,o,none⟩)] w fun e w'=>e=.returned (.tuple #[])/\w'=w.setCell ⟨b,o,none⟩ (.pointer (some ⟨b,o,none⟩)):=by
 have hj:(Tryz.prog.info? 45).map (·.size)=some 2:=by kernel_rfl
 obtain⟨j,hj,hjs⟩:=Option.map_eq_some_iff.1 hj
 go_enter Tryz.func52,Tryz.ntmps52
 go_wp2
 rw[Lib.run_to_unsafe w ⟨b,o,none⟩ Tryz.underlying42 Tryz.underlying102 hj (by rw[hjs]; decide) hsh ho];simp only[Result.andThen];rw[Oper.upon_value]
 go_wp2
 rw[run_callFunc_extern Tryz.func80 (by kernel_rfl) (by kernel_rfl) (by kernel_rfl) (e:=Extern.AbiNoEscape.same) (by kernel_rfl)];rw[Lib.run_noEscape];simp only[Result.andThen];rw[Oper.upon_value]
 go_wp2
 rw[Lib.run_from_unsafe w ⟨b,o,none⟩ Tryz.underlying102 Tryz.underlying42 hj hsh hli];simp only[Result.andThen];rw[Oper.upon_value]
 go_wp2
 go_end0
 exact⟨rfl,rfl⟩
theorem build55:BuildOk Tryz.prog 45 52:=
 ⟨copyUsed,fun b o n w h hsh ho hn hf=>copyFresh b o n w h hsh (by omega) (lies_at (d:=2*(Tryz.prog.types.size+Made.depth)+1) rfl (by kernel_rfl) ho hn) hf⟩
theorem string20:StringOk Tryz.prog 5 20:=stringOk_of Tryz.lays169 Tryz.builderExtra
theorem qlx:EnvOk Tryz.prog E0:=envOf_ok (by kernel_rfl) (by kernel_rfl) (by kernel_rfl) (fun p hp=>by
 simp only[List.mem_cons,List.not_mem_nil,or_false]at hp;rcases hp with rfl|rfl|rfl|rfl
 . exact⟨fun h=>absurd h (by decide),fun h=>absurd h (by decide),fun h=>absurd h (by decide),fun _ args w=>by kernel_rfl,fun h=>absurd h (by decide)⟩
 . exact⟨fun h=>absurd h (by decide),fun h=>absurd h (by decide),fun h=>absurd h (by decide),fun h=>absurd h (by decide),fun _=>⟨Tryz.f103.params,Tryz.f103.resultTypes,Tryz.f103.resultTypes.getD 0 0,by kernel_rfl,by kernel_rfl,fun args w=>by kernel_rfl⟩⟩
 . exact⟨fun h=>absurd h (by decide),fun h=>absurd h (by decide),fun _ args w=>by kernel_rfl,fun h=>absurd h (by decide),fun h=>absurd h (by decide)⟩
 . exact⟨fun _ args w=>by kernel_rfl,fun h=>absurd h (by decide),fun h=>absurd h (by decide),fun h=>absurd h (by decide),fun h=>absurd h (by decide)⟩
 ) (by kernel_rfl) (by kernel_rfl) (by kernel_rfl)
theorem glob0:∀g,E0.glob.get g=none:=fun _=>rfl
theorem nilOk:KnOk Tryz.prog E0 (fun _=>none):=knOk_nil
def K1:=qfe (fun _=>none) 52 (qb4 45)
theorem ok1:KnOk Tryz.prog E0 K1:=nilOk.add (copyCheck_well build55)
def K2:=qfe K1 20 (qdm 5)
theorem ok2:KnOk Tryz.prog E0 K2:=ok1.add (string_well string20)
theorem rd19 {n:Nat} {args:List V} {s:St} {r:En×St} (e:qaq E0 (ev E0 K2 n) qa1 Tryz.f19 B19 args s=some r):(ev E0 K2 (n+1)).f 19 args s=some r:=qa6 (c:=C19) (d:=B19) (by kernel_rfl) (by kernel_rfl) (qa3 C19 _ (by kernel_rfl)) rfl e
theorem rd22 {n:Nat} {args:List V} {s:St} {r:En×St} (e:qaq E0 (ev E0 K2 n) qa1 Tryz.f35 B35 args s=some r):(ev E0 K2 (n+1)).f 35 args s=some r:=qa6 (c:=C35) (d:=B35) (by kernel_rfl) (by kernel_rfl) (qa3 C35 _ (by kernel_rfl)) rfl e
theorem rd23 {n:Nat} {args:List V} {s:St} {r:En×St} (e:qaq E0 (ev E0 K2 n) qa1 Tryz.f44 B44 args s=some r):(ev E0 K2 (n+1)).f 44 args s=some r:=qa6 (c:=C44) (d:=B44) (by kernel_rfl) (by kernel_rfl) (qa3 C44 _ (by kernel_rfl)) rfl e
theorem rd44 {n:Nat} {args:List V} {s:St} {r:En×St} (e:qaq E0 (ev E0 K2 n) qa1 Tryz.f66 B66 args s=some r):(ev E0 K2 (n+1)).f 66 args s=some r:=qa6 (c:=C66) (d:=B66) (by kernel_rfl) (by kernel_rfl) (qa3 C66 _ (by kernel_rfl)) rfl e
theorem rd45 {n:Nat} {args:List V} {s:St} {r:En×St} (e:qaq E0 (ev E0 K2 n) qa1 Tryz.f67 B67 args s=some r):(ev E0 K2 (n+1)).f 67 args s=some r:=qa6 (c:=C67) (d:=B67) (by kernel_rfl) (by kernel_rfl) (qa3 C67 _ (by kernel_rfl)) rfl e
theorem rd46 {n:Nat} {args:List V} {s:St} {r:En×St} (e:qaq E0 (ev E0 K2 n) qa1 Tryz.f68 B68 args s=some r):(ev E0 K2 (n+1)).f 68 args s=some r:=qa6 (c:=C68) (d:=B68) (by kernel_rfl) (by kernel_rfl) (qa3 C68 _ (by kernel_rfl)) rfl e
theorem rd47 {n:Nat} {args:List V} {s:St} {r:En×St} (e:qaq E0 (ev E0 K2 n) qa1 Tryz.f69 B69 args s=some r):(ev E0 K2 (n+1)).f 69 args s=some r:=qa6 (c:=C69) (d:=B69) (by kernel_rfl) (by kernel_rfl) (qa3 C69 _ (by kernel_rfl)) rfl e
theorem rd48 {n:Nat} {args:List V} {s:St} {r:En×St} (e:qaq E0 (ev E0 K2 n) qa1 Tryz.f70 B70 args s=some r):(ev E0 K2 (n+1)).f 70 args s=some r:=qa6 (c:=C70) (d:=B70) (by kernel_rfl) (by kernel_rfl) (qa3 C70 _ (by kernel_rfl)) rfl e
theorem rd49 {n:Nat} {args:List V} {s:St} {r:En×St} (e:qaq E0 (ev E0 K2 n) qa1 Tryz.f71 B71 args s=some r):(ev E0 K2 (n+1)).f 71 args s=some r:=qa6 (c:=C71) (d:=B71) (by kernel_rfl) (by kernel_rfl) (qa3 C71 _ (by kernel_rfl)) rfl e
theorem rd50 {n:Nat} {args:List V} {s:St} {r:En×St} (e:qaq E0 (ev E0 K2 n) qa1 Tryz.f12 B12 args s=some r):(ev E0 K2 (n+1)).f 12 args s=some r:=qa6 (c:=C12) (d:=B12) (by kernel_rfl) (by kernel_rfl) (qa3 C12 _ (by kernel_rfl)) rfl e
theorem rd52 {n:Nat} {args:List V} {s:St} {r:En×St} (e:qaq E0 (ev E0 K2 n) qa1 Tryz.f90 B90 args s=some r):(ev E0 K2 (n+1)).f 90 args s=some r:=qa6 (c:=C90) (d:=B90) (by kernel_rfl) (by kernel_rfl) (qa3 C90 _ (by kernel_rfl)) rfl e
theorem rd64 {n:Nat} {args:List V} {s:St} {r:En×St} (e:qaq E0 (ev E0 K2 n) qa1 Tryz.f95 B95 args s=some r):(ev E0 K2 (n+1)).f 95 args s=some r:=qa6 (c:=C95) (d:=B95) (by kernel_rfl) (by kernel_rfl) (qa3 C95 _ (by kernel_rfl)) rfl e
theorem rd65 {n:Nat} {args:List V} {s:St} {r:En×St} (e:qaq E0 (ev E0 K2 n) qa1 Tryz.f34 B34 args s=some r):(ev E0 K2 (n+1)).f 34 args s=some r:=qa6 (c:=C34) (d:=B34) (by kernel_rfl) (by kernel_rfl) (qa3 C34 _ (by kernel_rfl)) rfl e
theorem rd68 {n:Nat} {args:List V} {s:St} {r:En×St} (e:qaq E0 (ev E0 K2 n) qa1 Tryz.f110 B110 args s=some r):(ev E0 K2 (n+1)).f 110 args s=some r:=qa6 (c:=C110) (d:=B110) (by kernel_rfl) (by kernel_rfl) (qa3 C110 _ (by kernel_rfl)) rfl e
theorem rd69 {n:Nat} {args:List V} {s:St} {r:En×St} (e:qaq E0 (ev E0 K2 n) qa1 Tryz.f111 B111 args s=some r):(ev E0 K2 (n+1)).f 111 args s=some r:=qa6 (c:=C111) (d:=B111) (by kernel_rfl) (by kernel_rfl) (qa3 C111 _ (by kernel_rfl)) rfl e
theorem rd70 {n:Nat} {args:List V} {s:St} {r:En×St} (e:qaq E0 (ev E0 K2 n) qa1 Tryz.f112 B112 args s=some r):(ev E0 K2 (n+1)).f 112 args s=some r:=qa6 (c:=C112) (d:=B112) (by kernel_rfl) (by kernel_rfl) (qa3 C112 _ (by kernel_rfl)) rfl e
theorem rd82 {n:Nat} {args:List V} {s:St} {r:En×St} (e:qaq E0 (ev E0 K2 n) qa1 Tryz.f65 B65 args s=some r):(ev E0 K2 (n+1)).f 65 args s=some r:=qa6 (c:=C65) (d:=B65) (by kernel_rfl) (by kernel_rfl) (qa3 C65 _ (by kernel_rfl)) rfl e
theorem rd83 {n:Nat} {args:List V} {s:St} {r:En×St} (e:qaq E0 (ev E0 K2 n) qa1 Tryz.f124 B124 args s=some r):(ev E0 K2 (n+1)).f 124 args s=some r:=qa6 (c:=C124) (d:=B124) (by kernel_rfl) (by kernel_rfl) (qa3 C124 _ (by kernel_rfl)) rfl e
end Go.Proofs.YtpgegoeghaplkaaGreatDoor.W
end
