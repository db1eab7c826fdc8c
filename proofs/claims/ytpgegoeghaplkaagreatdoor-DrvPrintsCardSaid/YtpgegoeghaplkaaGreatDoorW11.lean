/-
  WHAT THE FUNCTIONS COME TO: each is read by the evaluator,printed,and told as a function of data,part 11 of 15 (no condition).
-/
import Derived.Test.YtpgegoeghaplkaaGreatDoorW10
import Derived.Test.YtpgegoeghaplkaaGreatDoorProg
import Derived.KernelRfl
noncomputable section
namespace Go.Proofs.YtpgegoeghaplkaaGreatDoor.W
open Go.Proofs.YtpgegoeghaplkaaGreatDoor.Ev
set_option maxRecDepth 100000
noncomputable section
def C54:Code:=Tryz.f54.body.getD .skip
def B54:D:=(qak C54 [[],[],[],[],[],[0,3],[],[0],[],[],[],[],[],[0,0],[2],[],[],[],[]]).1
def RL54:List Nat:=cellsOf Tryz.f54.results.toList
def R54_5 (self:EV) (N:Nat) (nk:Ac->St->Rs) (ek:Nat->Ac->St->Rs) (a:Ac) (S:St):Rs:=qa7 [0] a fun a=>dr E0 self RL54 N (B54.r.r).r (mkK E0 self Tryz.f54 nk ek) a S
theorem R54_5_eq (self:EV) (N:Nat) (nk:Ac->St->Rs) (ek:Nat->Ac->St->Rs) ( v0:V) (S:St):R54_5 self N nk ek (fr 51 [(0,v0)]) S =
(qa4 E0 .eql 9 false true v0 (sv [])).bind fun t7=>
(qa2 false t7).bind fun g9=>(bif g9 then some v0 else some (.tuple [])).bind fun t9=>
(qa2 false t7).bind fun g10=>(bif g10 then ixS t9 (.int .i64 0)else some (.tuple [])).bind fun t10=>
(qa2 false t7).bind fun g11=>(bif g11 then qa4 E0 .eql 5 false true t10 (.int .u8 46)else some (.tuple [])).bind fun t11=>
(qay t7 (some (.bool true)) (some t11)).bind fun t12=>
ifK t12 (
some (.ret (.int .i64 2),S)) (
some (.ret (.int .i64 0),S)):=by kernel_rfl
def L54_16 (self:EV) (N:Nat) (nk:Ac->St->Rs) (ek:Nat->Ac->St->Rs) (n:Nat) ( v0 v3:V) (S:St):Rs:=qb8 [0,3] (dr E0 self RL54 N (B54.r.r.l.r.l.l)) (mkK E0 self Tryz.f54 nk ek) n (fr 51 [(0,v0),(3,v3)]) S
theorem L54_16_eq (self:EV) (N:Nat) (nk:Ac->St->Rs) (ek:Nat->Ac->St->Rs) (n:Nat) ( v0 v3:V) (S:St):L54_16 self N nk ek (n+1) v0 v3 S =
(qbr v0 S).bind fun p19=>
(qa4 E0 .lss 3 false false v3 p19.1).bind fun t20=>
ifK t20 (
(ixS v0 v3).bind fun t23=>
(qa4 E0 .geq 5 false true t23 (.int .u8 97)).bind fun t26=>
(qa2 true t26).bind fun g28=>(bif g28 then some t23 else some (.tuple [])).bind fun t28=>
(qa2 true t26).bind fun g29=>(bif g29 then qa4 E0 .leq 5 false true t28 (.int .u8 122)else some (.tuple [])).bind fun t29=>
(qay t26 (some t29) (some (.bool false))).bind fun t30=>
(qa2 false t30).bind fun g32=>(bif g32 then some t23 else some (.tuple [])).bind fun t32=>
(qa2 false t30).bind fun g33=>(bif g33 then qa4 E0 .geq 5 false true t32 (.int .u8 65)else some (.tuple [])).bind fun t33=>
(qa2 false t30).bind fun g34=>(bif g34 then some t33 else some (.tuple [])).bind fun t34=>
(qa2 true t34).bind fun g35=>(bif g35 then some t23 else some (.tuple [])).bind fun t35=>
(qa2 true t34).bind fun g36=>(bif g36 then qa4 E0 .leq 5 false true t35 (.int .u8 90)else some (.tuple [])).bind fun t36=>
(qa2 false t30).bind fun g37=>(bif g37 then qay t34 (some t36) (some (.bool false))else some (.tuple [])).bind fun t37=>
(qay t30 (some (.bool true)) (some t37)).bind fun t38=>
(qa2 false t38).bind fun g40=>(bif g40 then some t23 else some (.tuple [])).bind fun t40=>
(qa2 false t38).bind fun g41=>(bif g41 then qa4 E0 .geq 5 false true t40 (.int .u8 48)else some (.tuple [])).bind fun t41=>
(qa2 false t38).bind fun g42=>(bif g42 then some t41 else some (.tuple [])).bind fun t42=>
(qa2 true t42).bind fun g43=>(bif g43 then some t23 else some (.tuple [])).bind fun t43=>
(qa2 true t42).bind fun g44=>(bif g44 then qa4 E0 .leq 5 false true t43 (.int .u8 57)else some (.tuple [])).bind fun t44=>
(qa2 false t38).bind fun g45=>(bif g45 then qay t42 (some t44) (some (.bool false))else some (.tuple [])).bind fun t45=>
(qay t38 (some (.bool true)) (some t45)).bind fun t46=>
(qa2 false t46).bind fun g48=>(bif g48 then some t23 else some (.tuple [])).bind fun t48=>
(qa2 false t46).bind fun g49=>qaf (bif g49 then self.f 82 [t48,(sv [43,45,46,95])] p19.2 else some (.ret (.tuple []),p19.2)) fun t49 S49=>
(qay t46 (some (.bool true)) (some t49)).bind fun t50=>
(unV .not t50).bind fun t51=>
ifK t51 (
some (.ret (.int .i64 2),S49)) (
(qa4 E0 .add 3 false true v3 (.int .i64 1)).bind fun t54=>
L54_16 self N nk ek n v0 t54 S49)) (
ek 0 (fr 51 [(0,v0)]) p19.2):=by kernel_rfl
def F54 (self:EV) (N:Nat) (x0:V) (S:St):Rs:=qaq E0 self N Tryz.f54 B54 [x0] S
theorem F54_eq (self:EV) (N:Nat) (x0:V) (S:St):F54 self N x0 S =
(qbr x0 S).bind fun p2=>
(qa4 E0 .gtr 3 false true p2.1 (.int .i64 20)).bind fun t3=>
ifK t3 (
some (.ret (.int .i64 3),p2.2)) (
L54_16 self N (R54_5 self N (qat E0 self Tryz.f54) qad) (exB 0 (R54_5 self N (qat E0 self Tryz.f54) qad) qad) N x0 (.int .i64 0) p2.2):=by kernel_rfl
def C55:Code:=Tryz.f55.body.getD .skip
def B55:D:=(qak C55 [[],[],[]]).1
def F55 (self:EV) (N:Nat) (x0:V) (S:St):Rs:=qaq E0 self N Tryz.f55 B55 [x0] S
theorem F55_eq (self:EV) (N:Nat) (x0:V) (S:St):F55 self N x0 S =
qaf (self.f 83 [x0] S) fun t2 S2=>
(qab t2 0).bind fun t4=>
(qab t2 1).bind fun t5=>
(qab t2 2).bind fun t6=>
(qa4 E0 .eql 27 false true t6 (.int .i64 0)).bind fun t11=>
some (.ret t11,S2):=by kernel_rfl
def C56:Code:=Tryz.f56.body.getD .skip
def B56:D:=(qak C56 [[],[],[0,3],[],[0],[],[],[],[],[],[0,0],[2],[]]).1
def RL56:List Nat:=cellsOf Tryz.f56.results.toList
def R56_1 (self:EV) (N:Nat) (nk:Ac->St->Rs) (ek:Nat->Ac->St->Rs) (a:Ac) (S:St):Rs:=qa7 [0] a fun a=>dr E0 self RL56 N (B56.r).r (mkK E0 self Tryz.f56 nk ek) a S
theorem R56_1_eq (self:EV) (N:Nat) (nk:Ac->St->Rs) (ek:Nat->Ac->St->Rs) ( v0:V) (S:St):R56_1 self N nk ek (fr 60 [(0,v0)]) S =
(qa4 E0 .neq 9 false true v0 (sv [])).bind fun t3=>
(qa2 true t3).bind fun g5=>(bif g5 then some v0 else some (.tuple [])).bind fun t5=>
(qa2 true t3).bind fun g6=>(bif g6 then qbr t5 S else some (.tuple [],S)).bind fun p6=>
(qa2 true t3).bind fun g7=>(bif g7 then qa4 E0 .leq 3 false true p6.1 (.int .i64 56)else some (.tuple [])).bind fun t7=>
(qay t3 (some t7) (some (.bool false))).bind fun t8=>
(qa2 true t8).bind fun g10=>(bif g10 then some v0 else some (.tuple [])).bind fun t10=>
(qa2 true t8).bind fun g11=>(bif g11 then qa4 E0 .neq 9 false true t10 (sv [111,117,116])else some (.tuple [])).bind fun t11=>
(qay t8 (some t11) (some (.bool false))).bind fun t12=>
(qa2 true t12).bind fun g14=>(bif g14 then some v0 else some (.tuple [])).bind fun t14=>
(qa2 true t12).bind fun g15=>(bif g15 then qa4 E0 .neq 9 false true t14 (sv [110,97,109,101])else some (.tuple [])).bind fun t15=>
(qay t12 (some t15) (some (.bool false))).bind fun t16=>
some (.ret t16,p6.2):=by kernel_rfl
def L56_19 (self:EV) (N:Nat) (nk:Ac->St->Rs) (ek:Nat->Ac->St->Rs) (n:Nat) ( v0 v3:V) (S:St):Rs:=qb8 [0,3] (dr E0 self RL56 N (B56.r.l.r.l.l)) (mkK E0 self Tryz.f56 nk ek) n (fr 60 [(0,v0),(3,v3)]) S
theorem L56_19_eq (self:EV) (N:Nat) (nk:Ac->St->Rs) (ek:Nat->Ac->St->Rs) (n:Nat) ( v0 v3:V) (S:St):L56_19 self N nk ek (n+1) v0 v3 S =
(qbr v0 S).bind fun p22=>
(qa4 E0 .lss 3 false false v3 p22.1).bind fun t23=>
ifK t23 (
(ixS v0 v3).bind fun t26=>
(qa4 E0 .geq 5 false true t26 (.int .u8 97)).bind fun t29=>
(qa2 true t29).bind fun g31=>(bif g31 then some t26 else some (.tuple [])).bind fun t31=>
(qa2 true t29).bind fun g32=>(bif g32 then qa4 E0 .leq 5 false true t31 (.int .u8 122)else some (.tuple [])).bind fun t32=>
(qay t29 (some t32) (some (.bool false))).bind fun t33=>
(qa2 false t33).bind fun g35=>(bif g35 then some t26 else some (.tuple [])).bind fun t35=>
(qa2 false t33).bind fun g36=>(bif g36 then qa4 E0 .geq 5 false true t35 (.int .u8 65)else some (.tuple [])).bind fun t36=>
(qa2 false t33).bind fun g37=>(bif g37 then some t36 else some (.tuple [])).bind fun t37=>
(qa2 true t37).bind fun g38=>(bif g38 then some t26 else some (.tuple [])).bind fun t38=>
(qa2 true t37).bind fun g39=>(bif g39 then qa4 E0 .leq 5 false true t38 (.int .u8 90)else some (.tuple [])).bind fun t39=>
(qa2 false t33).bind fun g40=>(bif g40 then qay t37 (some t39) (some (.bool false))else some (.tuple [])).bind fun t40=>
(qay t33 (some (.bool true)) (some t40)).bind fun t41=>
(qa2 false t41).bind fun g43=>(bif g43 then some t26 else some (.tuple [])).bind fun t43=>
(qa2 false t41).bind fun g44=>(bif g44 then qa4 E0 .eql 5 false true t43 (.int .u8 95)else some (.tuple [])).bind fun t44=>
(qay t41 (some (.bool true)) (some t44)).bind fun t45=>
(qa2 false t45).bind fun g47=>(bif g47 then some v3 else some (.tuple [])).bind fun t47=>
(qa2 false t45).bind fun g48=>(bif g48 then qa4 E0 .gtr 3 false true t47 (.int .i64 0)else some (.tuple [])).bind fun t48=>
(qa2 false t45).bind fun g49=>(bif g49 then some t48 else some (.tuple [])).bind fun t49=>
(qa2 true t49).bind fun g50=>(bif g50 then some t26 else some (.tuple [])).bind fun t50=>
(qa2 true t49).bind fun g51=>(bif g51 then qa4 E0 .geq 5 false true t50 (.int .u8 48)else some (.tuple [])).bind fun t51=>
(qa2 false t45).bind fun g52=>(bif g52 then qay t49 (some t51) (some (.bool false))else some (.tuple [])).bind fun t52=>
(qa2 false t45).bind fun g53=>(bif g53 then some t52 else some (.tuple [])).bind fun t53=>
(qa2 true t53).bind fun g54=>(bif g54 then some t26 else some (.tuple [])).bind fun t54=>
(qa2 true t53).bind fun g55=>(bif g55 then qa4 E0 .leq 5 false true t54 (.int .u8 57)else some (.tuple [])).bind fun t55=>
(qa2 false t45).bind fun g56=>(bif g56 then qay t53 (some t55) (some (.bool false))else some (.tuple [])).bind fun t56=>
(qay t45 (some (.bool true)) (some t56)).bind fun t57=>
(unV .not t57).bind fun t58=>
ifK t58 (
some (.ret (.bool false),p22.2)) (
(qa4 E0 .add 3 false true v3 (.int .i64 1)).bind fun t61=>
L56_19 self N nk ek n v0 t61 p22.2)) (
ek 0 (fr 60 [(0,v0)]) p22.2):=by kernel_rfl
def F56 (self:EV) (N:Nat) (x0:V) (S:St):Rs:=qaq E0 self N Tryz.f56 B56 [x0] S
theorem F56_eq (self:EV) (N:Nat) (x0:V) (S:St):F56 self N x0 S =
L56_19 self N (R56_1 self N (qat E0 self Tryz.f56) qad) (exB 0 (R56_1 self N (qat E0 self Tryz.f56) qad) qad) N x0 (.int .i64 0) S:=by kernel_rfl
def C57:Code:=Tryz.f57.body.getD .skip
def B57:D:=(qak C57 [[],[],[0,3],[],[0],[],[],[],[],[0,0],[2],[]]).1
def RL57:List Nat:=cellsOf Tryz.f57.results.toList
def R57_1 (self:EV) (N:Nat) (nk:Ac->St->Rs) (ek:Nat->Ac->St->Rs) (a:Ac) (S:St):Rs:=qa7 [0] a fun a=>dr E0 self RL57 N (B57.r).r (mkK E0 self Tryz.f57 nk ek) a S
theorem R57_1_eq (self:EV) (N:Nat) (nk:Ac->St->Rs) (ek:Nat->Ac->St->Rs) ( v0:V) (S:St):R57_1 self N nk ek (fr 19 [(0,v0)]) S =
(qbr v0 S).bind fun p3=>
(qa4 E0 .eql 3 false true p3.1 (.int .i64 32)).bind fun t4=>
some (.ret t4,p3.2):=by kernel_rfl
def L57_7 (self:EV) (N:Nat) (nk:Ac->St->Rs) (ek:Nat->Ac->St->Rs) (n:Nat) ( v0 v3:V) (S:St):Rs:=qb8 [0,3] (dr E0 self RL57 N (B57.r.l.r.l.l)) (mkK E0 self Tryz.f57 nk ek) n (fr 19 [(0,v0),(3,v3)]) S
theorem L57_7_eq (self:EV) (N:Nat) (nk:Ac->St->Rs) (ek:Nat->Ac->St->Rs) (n:Nat) ( v0 v3:V) (S:St):L57_7 self N nk ek (n+1) v0 v3 S =
(qbr v0 S).bind fun p10=>
(qa4 E0 .lss 3 false false v3 p10.1).bind fun t11=>
ifK t11 (
(ixS v0 v3).bind fun t14=>
qcy (qaj E0 (B57.r.l.r.l.l.r.l.l.l).ops) p10.2 3 [[],[],[]] (self.f 60 [] (onS p10.2)) fun t15 S15=>
qcy (qaj E0 (B57.r.l.r.l.l.r.l.l.l).ops) p10.2 4 [[],[],[],S15.log] (self.f 82 [t14,t15] (onS S15)) fun t16 S16=>
(unV .not t16).bind fun t17=>
ifK t17 (
some (.ret (.bool false),(qbd p10.2 (onS S16) [[],[],[],S15.log,S16.log,[]]))) (
(qa4 E0 .add 3 false true v3 (.int .i64 1)).bind fun t20=>
L57_7 self N nk ek n v0 t20 (qbd p10.2 (onS S16) [[],[],[],S15.log,S16.log,[]]))) (
ek 0 (fr 19 [(0,v0)]) p10.2):=by kernel_rfl
def F57 (self:EV) (N:Nat) (x0:V) (S:St):Rs:=qaq E0 self N Tryz.f57 B57 [x0] S
theorem F57_eq (self:EV) (N:Nat) (x0:V) (S:St):F57 self N x0 S =
L57_7 self N (R57_1 self N (qat E0 self Tryz.f57) qad) (exB 0 (R57_1 self N (qat E0 self Tryz.f57) qad) qad) N x0 (.int .i64 0) S:=by kernel_rfl
def C82:Code:=Tryz.f82.body.getD .skip
def B82:D:=(qak C82 [[],[],[0,1,5],[],[],[],[],[],[],[0],[4],[]]).1
def RL82:List Nat:=cellsOf Tryz.f82.results.toList
def R82_1 (self:EV) (N:Nat) (nk:Ac->St->Rs) (ek:Nat->Ac->St->Rs) (a:Ac) (S:St):Rs:=qa7 [] a fun a=>dr E0 self RL82 N (B82.r).r (mkK E0 self Tryz.f82 nk ek) a S
theorem R82_1_eq (self:EV) (N:Nat) (nk:Ac->St->Rs) (ek:Nat->Ac->St->Rs) (S:St):R82_1 self N nk ek (fr 17 []) S =
some (.ret (.bool false),S):=by kernel_rfl
def L82_4 (self:EV) (N:Nat) (nk:Ac->St->Rs) (ek:Nat->Ac->St->Rs) (n:Nat) ( v0 v1 v5:V) (S:St):Rs:=qb8 [0,1,5] (dr E0 self RL82 N (B82.r.l.r.l.l)) (mkK E0 self Tryz.f82 nk ek) n (fr 17 [(0,v0),(1,v1),(5,v5)]) S
theorem L82_4_eq (self:EV) (N:Nat) (nk:Ac->St->Rs) (ek:Nat->Ac->St->Rs) (n:Nat) ( v0 v1 v5:V) (S:St):L82_4 self N nk ek (n+1) v0 v1 v5 S =
(qbr v1 S).bind fun p7=>
(qa4 E0 .lss 3 false false v5 p7.1).bind fun t8=>
ifK t8 (
(ixS v1 v5).bind fun t11=>
(qa4 E0 .eql 5 false false t11 v0).bind fun t13=>
ifK t13 (
some (.ret (.bool true),p7.2)) (
(qa4 E0 .add 3 false true v5 (.int .i64 1)).bind fun t16=>
L82_4 self N nk ek n v0 v1 t16 p7.2)) (
ek 0 (fr 17 []) p7.2):=by kernel_rfl
def F82 (self:EV) (N:Nat) (x0 x1:V) (S:St):Rs:=qaq E0 self N Tryz.f82 B82 [x0,x1] S
theorem F82_eq (self:EV) (N:Nat) (x0 x1:V) (S:St):F82 self N x0 x1 S =
L82_4 self N (R82_1 self N (qat E0 self Tryz.f82) qad) (exB 0 (R82_1 self N (qat E0 self Tryz.f82) qad) qad) N x0 x1 (.int .i64 0) S:=by kernel_rfl
def C83:Code:=Tryz.f83.body.getD .skip
def B83:D:=(qak C83 [[],[],[],[],[]]).1
def F83 (self:EV) (N:Nat) (x0:V) (S:St):Rs:=qaq E0 self N Tryz.f83 B83 [x0] S
theorem F83_eq (self:EV) (N:Nat) (x0:V) (S:St):F83 self N x0 S =
(qbr x0 S).bind fun p4=>
(qa4 E0 .lss 3 false true p4.1 (.int .i64 34)).bind fun t5=>
(qa2 false t5).bind fun g7=>(bif g7 then some x0 else some (.tuple [])).bind fun t7=>
(qa2 false t5).bind fun g8=>(bif g8 then qb6 E0 9 t7 none (some (.int .i64 32)) none p4.2 else some (.tuple [],p4.2)).bind fun p8=>
(qa2 false t5).bind fun g9=>qaf (bif g9 then self.f 57 [p8.1] p8.2 else some (.ret (.tuple []),p8.2)) fun t9 S9=>
(qa2 false t5).bind fun g10=>(bif g10 then unV .not t9 else some (.tuple [])).bind fun t10=>
(qay t5 (some (.bool true)) (some t10)).bind fun t11=>
(qa2 false t11).bind fun g13=>(bif g13 then some x0 else some (.tuple [])).bind fun t13=>
(qa2 false t11).bind fun g14=>(bif g14 then ixS t13 (.int .i64 32)else some (.tuple [])).bind fun t14=>
(qa2 false t11).bind fun g15=>(bif g15 then qa4 E0 .neq 5 false true t14 (.int .u8 45)else some (.tuple [])).bind fun t15=>
(qay t11 (some (.bool true)) (some t15)).bind fun t16=>
(qa2 false t16).bind fun g18=>(bif g18 then some x0 else some (.tuple [])).bind fun t18=>
(qa2 false t16).bind fun g19=>(bif g19 then qb6 E0 9 t18 (some (.int .i64 33)) none none S9 else some (.tuple [],S9)).bind fun p19=>
(qa2 false t16).bind fun g20=>qaf (bif g20 then self.f 54 [p19.1] p19.2 else some (.ret (.tuple []),p19.2)) fun t20 S20=>
(qa2 false t16).bind fun g21=>(bif g21 then qa4 E0 .neq 27 false true t20 (.int .i64 0)else some (.tuple [])).bind fun t21=>
(qay t16 (some (.bool true)) (some t21)).bind fun t22=>
ifK t22 (
some (.ret (.tuple [(sv []),(sv []),(.int .i64 4)]),S20)) (
(qb6 E0 9 x0 none (some (.int .i64 32)) none (onS S20)).bind fun p27=>
(qb6 E0 9 x0 (some (.int .i64 33)) none none (onS p27.2)).bind fun p29=>
qgb [(1,[3])] S20 [[],p27.2.log,[],p29.2.log,[],[],[]] (onS p29.2) fun S33=>
some (.ret (.tuple [p27.1,p29.1,(.int .i64 0)]),S33)):=by kernel_rfl
def C60:Code:=Tryz.f60.body.getD .skip
def B60:D:=(qak C60 [[],[]]).1
def F60 (self:EV) (N:Nat) (S:St):Rs:=qaq E0 self N Tryz.f60 B60 [] S
theorem F60_eq (self:EV) (N:Nat) (S:St):F60 self N S =
some (.ret (sv [48,49,50,51,52,53,54,55,56,57,97,98,99,100,102,103,104,105,106,107,108,109,110,112,113,114,115,118,119,120,121,122]),S):=by kernel_rfl
def C59:Code:=Tryz.f59.body.getD .skip
def B59:D:=(qak C59 [[],[]]).1
def F59 (self:EV) (N:Nat) (x0 x1:V) (S:St):Rs:=qaq E0 self N Tryz.f59 B59 [x0,x1] S
theorem F59_eq (self:EV) (N:Nat) (x0 x1:V) (S:St):F59 self N x0 x1 S =
(qa4 E0 .quo 3 false true x1 (.int .i64 8)).bind fun t3=>
(ixS x0 t3).bind fun t4=>
(cvI .i64 t4 S).bind fun p5=>
(qa4 E0 .rem 3 false true x1 (.int .i64 8)).bind fun t7=>
(qa4 E0 .sub 3 true false (.int .i64 7) t7).bind fun t8=>
(qa4 E0 .shr 3 false false p5.1 t8).bind fun t9=>
(qa4 E0 .and 3 false true t9 (.int .i64 1)).bind fun t10=>
some (.ret t10,p5.2):=by kernel_rfl
def C25:Code:=Tryz.f25.body.getD .skip
def B25:D:=(qak C25 [[],[],[],[],[3,4,5],[],[4],[],[],[],[3,4,5,6,7],[],[3,4,5,6],[],[],[0,3,4,5,6],[3,4,5],[0,3,4,5],[3,4,5],[0,4],[2],[]]).1
def RL25:List Nat:=cellsOf Tryz.f25.results.toList
def R25_5 (self:EV) (N:Nat) (nk:Ac->St->Rs) (ek:Nat->Ac->St->Rs) (a:Ac) (S:St):Rs:=qa7 [4] a fun a=>dr E0 self RL25 N (B25.r.r.r).r (mkK E0 self Tryz.f25 nk ek) a S
theorem R25_5_eq (self:EV) (N:Nat) (nk:Ac->St->Rs) (ek:Nat->Ac->St->Rs) ( v4:V) (S:St):R25_5 self N nk ek (fr 35 [(4,v4)]) S =
some (.ret v4,S):=by kernel_rfl
def qm3 (self:EV) (N:Nat) (nk:Ac->St->Rs) (ek:Nat->Ac->St->Rs) (n:Nat):Ac->St->Rs:=fun a S=>qa7 [3,4,5] a fun a=>qb8 [3,4,5] (dr E0 self RL25 N (B25.r.r.r.l.r.l.l)) (mkK E0 self Tryz.f25 nk ek) n a S
def L25_9 (self:EV) (N:Nat) (nk:Ac->St->Rs) (ek:Nat->Ac->St->Rs) (n:Nat) ( v3 v4 v5:V) (S:St):Rs:=qb8 [3,4,5] (dr E0 self RL25 N (B25.r.r.r.l.r.l.l)) (mkK E0 self Tryz.f25 nk ek) n (fr 35 [(3,v3),(4,v4),(5,v5)]) S
def qgl (self:EV) (N:Nat) (nk:Ac->St->Rs) (ek:Nat->Ac->St->Rs) (a:Ac) (S:St):Rs:=qa7 [3,4,5] a fun a=>dr E0 self RL25 N (B25.r.r.r.l.r.l.l.r).r (mkK E0 self Tryz.f25 nk ek) a S
theorem R25_12_eq (self:EV) (N:Nat) (nk:Ac->St->Rs) (ek:Nat->Ac->St->Rs) ( v3 v4 v5:V) (S:St):qgl self N nk ek (fr 35 [(3,v3),(4,v4),(5,v5)]) S =
(qa4 E0 .add 3 false true v5 (.int .i64 1)).bind fun t14=>
nk (fr 35 [(3,v3),(4,v4),(5,t14)]) S:=by kernel_rfl
def R25_17 (self:EV) (N:Nat) (nk:Ac->St->Rs) (ek:Nat->Ac->St->Rs) (a:Ac) (S:St):Rs:=qa7 [3,4,5,6] a fun a=>dr E0 self RL25 N (B25.r.r.r.l.r.l.l.r.l.l.r).r (mkK E0 self Tryz.f25 nk ek) a S
theorem R25_17_eq (self:EV) (N:Nat) (nk:Ac->St->Rs) (ek:Nat->Ac->St->Rs) ( v3 v4 v5 v6:V) (S:St):R25_17 self N nk ek (fr 35 [(3,v3),(4,v4),(5,v5),(6,v6)]) S =
qaf (self.f 60 [] S) fun t19 S19=>
(qa4 E0 .add 3 false true v6 (.int .i64 1)).bind fun t22=>
(qb6 E0 9 t19 (some v6) (some t22) none S19).bind fun p23=>
(qa4 E0 .add 9 false false v4 p23.1).bind fun t24=>
nk (fr 35 [(3,v3),(4,t24),(5,v5)]) p23.2:=by kernel_rfl
def L25_27 (self:EV) (N:Nat) (nk:Ac->St->Rs) (ek:Nat->Ac->St->Rs) (n:Nat) ( v3 v4 v5 v6 v7:V) (S:St):Rs:=qb8 [3,4,5,6,7] (dr E0 self RL25 N (B25.r.r.r.l.r.l.l.r.l.l.r.l.r.l.l)) (mkK E0 self Tryz.f25 nk ek) n (fr 35 [(3,v3),(4,v4),(5,v5),(6,v6),(7,v7)]) S
theorem L25_27_eq (self:EV) (N:Nat) (nk:Ac->St->Rs) (ek:Nat->Ac->St->Rs) (n:Nat) ( v3 v4 v5 v6 v7:V) (S:St):L25_27 self N nk ek (n+1) v3 v4 v5 v6 v7 S =
(qa4 E0 .lss 3 false true v7 (.int .i64 5)).bind fun t29=>
ifK t29 (
(qa4 E0 .mul 3 true false (.int .i64 2) v6).bind fun t31=>
(qa4 E0 .mul 3 true false (.int .i64 5) v5).bind fun t34=>
(qa4 E0 .add 3 false false t34 v7).bind fun t36=>
qaf (self.f 59 [v3,t36] S) fun t37 S37=>
(qa4 E0 .add 3 false false t31 t37).bind fun t38=>
(qa4 E0 .add 3 false true v7 (.int .i64 1)).bind fun t41=>
L25_27 self N nk ek n v3 v4 v5 t38 t41 S37) (
ek 2 (fr 35 [(3,v3),(4,v4),(5,v5),(6,v6)]) S):=by kernel_rfl
theorem L25_9_eq (self:EV) (N:Nat) (nk:Ac->St->Rs) (ek:Nat->Ac->St->Rs) (n:Nat) ( v3 v4 v5:V) (S:St):L25_9 self N nk ek (n+1) v3 v4 v5 S =
(qa4 E0 .lss 3 false true v5 (.int .i64 32)).bind fun t11=>
ifK t11 (
L25_27 self N (R25_17 self N (qgl self N (qm3 self N nk ek n) ek) (exB 1 (qgl self N (qm3 self N nk ek n) ek) ek)) (exB 2 (R25_17 self N (qgl self N (qm3 self N nk ek n) ek) (exB 1 (qgl self N (qm3 self N nk ek n) ek) ek)) (exB 1 (qgl self N (qm3 self N nk ek n) ek) ek)) N v3 v4 v5 (.int .i64 0) (.int .i64 0) S) (
ek 0 (fr 35 [(4,v4)]) S):=by kernel_rfl
theorem N25_9_eq (self:EV) (N:Nat) (nk:Ac->St->Rs) (ek:Nat->Ac->St->Rs) (n:Nat) ( v3 v4 v5:V) (S:St):qm3 self N nk ek n (fr 35 [(3,v3),(4,v4),(5,v5)]) S=L25_9 self N nk ek n v3 v4 v5 S:=by kernel_rfl
def F25 (self:EV) (N:Nat) (x0:V) (S:St):Rs:=qaq E0 self N Tryz.f25 B25 [x0] S
theorem F25_eq (self:EV) (N:Nat) (x0:V) (S:St):F25 self N x0 S =
qaf (self.f 58 [x0] S) fun t2 S2=>
L25_9 self N (R25_5 self N (qat E0 self Tryz.f25) qad) (exB 0 (R25_5 self N (qat E0 self Tryz.f25) qad) qad) N t2 (sv []) (.int .i64 0) S2:=by kernel_rfl
end
noncomputable section
def C84:Code:=Tryz.f84.body.getD .skip
def B84:D:=(qak C84 [[],[],[],[0,3,4],[],[3],[],[],[],[0,3,4,5,6],[],[0,3,4,5],[],[],[0,0,3,4,5],[0,3,4],[],[0,0,3,4],[0,3,4],[0,3],[2],[]]).1
def RL84:List Nat:=cellsOf Tryz.f84.results.toList
def R84_2 (self:EV) (N:Nat) (nk:Ac->St->Rs) (ek:Nat->Ac->St->Rs) (a:Ac) (S:St):Rs:=qa7 [3] a fun a=>dr E0 self RL84 N (B84.r.r).r (mkK E0 self Tryz.f84 nk ek) a S
theorem R84_2_eq (self:EV) (N:Nat) (nk:Ac->St->Rs) (ek:Nat->Ac->St->Rs) ( v3:V) (S:St):R84_2 self N nk ek (fr 35 [(3,v3)]) S =
some (.ret v3,S):=by kernel_rfl
def N84_6 (self:EV) (N:Nat) (nk:Ac->St->Rs) (ek:Nat->Ac->St->Rs) (n:Nat):Ac->St->Rs:=fun a S=>qa7 [0,3,4] a fun a=>qb8 [0,3,4] (dr E0 self RL84 N (B84.r.r.l.r.l.l)) (mkK E0 self Tryz.f84 nk ek) n a S
def L84_6 (self:EV) (N:Nat) (nk:Ac->St->Rs) (ek:Nat->Ac->St->Rs) (n:Nat) ( v0 v3 v4:V) (S:St):Rs:=qb8 [0,3,4] (dr E0 self RL84 N (B84.r.r.l.r.l.l)) (mkK E0 self Tryz.f84 nk ek) n (fr 35 [(0,v0),(3,v3),(4,v4)]) S
def qir (self:EV) (N:Nat) (nk:Ac->St->Rs) (ek:Nat->Ac->St->Rs) (a:Ac) (S:St):Rs:=qa7 [0,3,4] a fun a=>dr E0 self RL84 N (B84.r.r.l.r.l.l.r).r (mkK E0 self Tryz.f84 nk ek) a S
theorem R84_11_eq (self:EV) (N:Nat) (nk:Ac->St->Rs) (ek:Nat->Ac->St->Rs) ( v0 v3 v4:V) (S:St):qir self N nk ek (fr 35 [(0,v0),(3,v3),(4,v4)]) S =
(qa4 E0 .add 108 false true v4 (.int .u64 1)).bind fun t13=>
nk (fr 35 [(0,v0),(3,v3),(4,t13)]) S:=by kernel_rfl
def R84_16 (self:EV) (N:Nat) (nk:Ac->St->Rs) (ek:Nat->Ac->St->Rs) (a:Ac) (S:St):Rs:=qa7 [0,3,4,5] a fun a=>dr E0 self RL84 N (B84.r.r.l.r.l.l.r.l.l.r).r (mkK E0 self Tryz.f84 nk ek) a S
theorem R84_16_eq (self:EV) (N:Nat) (nk:Ac->St->Rs) (ek:Nat->Ac->St->Rs) ( v0 v3 v4 v5:V) (S:St):R84_16 self N nk ek (fr 35 [(0,v0),(3,v3),(4,v4),(5,v5)]) S =
ifK v5 (
(bsP 108 1 1 (Ev.one (.int .u64 0)) [(0,v4)] S).bind fun p20=>
(apP 108 1 8 v3 p20.1 p20.2).bind fun p21=>
nk (fr 35 [(0,v0),(3,p21.1),(4,v4)]) p21.2) (
nk (fr 35 [(0,v0),(3,v3),(4,v4)]) S):=by kernel_rfl
def L84_24 (self:EV) (N:Nat) (nk:Ac->St->Rs) (ek:Nat->Ac->St->Rs) (n:Nat) ( v0 v3 v4 v5 v6:V) (S:St):Rs:=qb8 [0,3,4,5,6] (dr E0 self RL84 N (B84.r.r.l.r.l.l.r.l.l.r.l.r.l.l)) (mkK E0 self Tryz.f84 nk ek) n (fr 35 [(0,v0),(3,v3),(4,v4),(5,v5),(6,v6)]) S
theorem L84_24_eq (self:EV) (N:Nat) (nk:Ac->St->Rs) (ek:Nat->Ac->St->Rs) (n:Nat) ( v0 v3 v4 v5 v6:V) (S:St):L84_24 self N nk ek (n+1) v0 v3 v4 v5 v6 S =
(lnS v3 S).bind fun p27=>
(qa4 E0 .lss 3 false false v6 p27.1).bind fun t28=>
ifK t28 (
(qa2 true v5).bind fun g31=>(bif g31 then some v4 else some (.tuple [])).bind fun t31=>
(qa2 true v5).bind fun g32=>(bif g32 then some v3 else some (.tuple [])).bind fun t32=>
(qa2 true v5).bind fun g33=>(bif g33 then some v6 else some (.tuple [])).bind fun t33=>
(qa2 true v5).bind fun g34=>(bif g34 then ixP 1 t32 t33 else some (.tuple [])).bind fun t34=>
(qa2 true v5).bind fun g35=>(bif g35 then ld1 t34 p27.2 else some (.tuple [],p27.2)).bind fun p35=>
(qa2 true v5).bind fun g36=>(bif g36 then qa4 E0 .rem 108 false false t31 p35.1 else some (.tuple [])).bind fun t36=>
(qa2 true v5).bind fun g37=>(bif g37 then qa4 E0 .neq 108 false true t36 (.int .u64 0)else some (.tuple [])).bind fun t37=>
(qay v5 (some t37) (some (.bool false))).bind fun t38=>
(qa4 E0 .add 3 false true v6 (.int .i64 1)).bind fun t41=>
L84_24 self N nk ek n v0 v3 v4 t38 t41 p35.2) (
ek 2 (fr 35 [(0,v0),(3,v3),(4,v4),(5,v5)]) p27.2):=by kernel_rfl
theorem L84_6_eq (self:EV) (N:Nat) (nk:Ac->St->Rs) (ek:Nat->Ac->St->Rs) (n:Nat) ( v0 v3 v4:V) (S:St):L84_6 self N nk ek (n+1) v0 v3 v4 S =
(lnS v3 S).bind fun p8=>
(qa4 E0 .lss 3 false false p8.1 v0).bind fun t10=>
ifK t10 (
L84_24 self N (R84_16 self N (qir self N (N84_6 self N nk ek n) ek) (exB 1 (qir self N (N84_6 self N nk ek n) ek) ek)) (exB 2 (R84_16 self N (qir self N (N84_6 self N nk ek n) ek) (exB 1 (qir self N (N84_6 self N nk ek n) ek) ek)) (exB 1 (qir self N (N84_6 self N nk ek n) ek) ek)) N v0 v3 v4 (.bool true) (.int .i64 0) p8.2) (
ek 0 (fr 35 [(3,v3)]) p8.2):=by kernel_rfl
theorem N84_6_eq (self:EV) (N:Nat) (nk:Ac->St->Rs) (ek:Nat->Ac->St->Rs) (n:Nat) ( v0 v3 v4:V) (S:St):N84_6 self N nk ek n (fr 35 [(0,v0),(3,v3),(4,v4)]) S=L84_6 self N nk ek n v0 v3 v4 S:=by kernel_rfl
def F84 (self:EV) (N:Nat) (x0:V) (S:St):Rs:=qaq E0 self N Tryz.f84 B84 [x0] S
theorem F84_eq (self:EV) (N:Nat) (x0:V) (S:St):F84 self N x0 S =
L84_6 self N (R84_2 self N (qat E0 self Tryz.f84) qad) (exB 0 (R84_2 self N (qat E0 self Tryz.f84) qad) qad) N x0 .nilslice (.int .u64 2) S:=by kernel_rfl
def C85:Code:=Tryz.f85.body.getD .skip
def B85:D:=(qak C85 [[],[],[0,3,4],[],[3],[],[],[],[0,3],[2],[]]).1
def RL85:List Nat:=cellsOf Tryz.f85.results.toList
def R85_3 (self:EV) (N:Nat) (nk:Ac->St->Rs) (ek:Nat->Ac->St->Rs) (a:Ac) (S:St):Rs:=qa7 [3] a fun a=>dr E0 self RL85 N (B85.r.r).r (mkK E0 self Tryz.f85 nk ek) a S
theorem R85_3_eq (self:EV) (N:Nat) (nk:Ac->St->Rs) (ek:Nat->Ac->St->Rs) ( v3:V) (S:St):R85_3 self N nk ek (fr 21 [(3,v3)]) S =
(cvI .u32 v3 S).bind fun p5=>
some (.ret p5.1,p5.2):=by kernel_rfl
def L85_7 (self:EV) (N:Nat) (nk:Ac->St->Rs) (ek:Nat->Ac->St->Rs) (n:Nat) ( v0 v3 v4:V) (S:St):Rs:=qb8 [0,3,4] (dr E0 self RL85 N (B85.r.r.l.l.l)) (mkK E0 self Tryz.f85 nk ek) n (fr 21 [(0,v0),(3,v3),(4,v4)]) S
theorem L85_7_eq (self:EV) (N:Nat) (nk:Ac->St->Rs) (ek:Nat->Ac->St->Rs) (n:Nat) ( v0 v3 v4:V) (S:St):L85_7 self N nk ek (n+1) v0 v3 v4 S =
(qa4 E0 .sub 108 false false v4 v3).bind fun t10=>
(qa4 E0 .gtr 108 false true t10 (.int .u64 1)).bind fun t11=>
ifK t11 (
(qa4 E0 .add 108 false false v3 v4).bind fun t14=>
(qa4 E0 .quo 108 false true t14 (.int .u64 2)).bind fun t15=>
qaf (self.f 104 [t15,v0] S) fun t19 S19=>
ifK t19 (
L85_7 self N nk ek n v0 v3 t15 S19) (
L85_7 self N nk ek n v0 t15 v4 S19)) (
ek 0 (fr 21 [(3,v3)]) S):=by kernel_rfl
def F85 (self:EV) (N:Nat) (x0:V) (S:St):Rs:=qaq E0 self N Tryz.f85 B85 [x0] S
theorem F85_eq (self:EV) (N:Nat) (x0:V) (S:St):F85 self N x0 S =
L85_7 self N (R85_3 self N (qat E0 self Tryz.f85) qad) (exB 0 (R85_3 self N (qat E0 self Tryz.f85) qad) qad) N x0 (.int .u64 0) (.int .u64 68719476736) S:=by kernel_rfl
def C86:Code:=Tryz.f86.body.getD .skip
def B86:D:=(qak C86 [[],[],[0,3,4],[],[3],[],[],[],[],[0,3],[2],[]]).1
def RL86:List Nat:=cellsOf Tryz.f86.results.toList
def R86_3 (self:EV) (N:Nat) (nk:Ac->St->Rs) (ek:Nat->Ac->St->Rs) (a:Ac) (S:St):Rs:=qa7 [3] a fun a=>dr E0 self RL86 N (B86.r.r).r (mkK E0 self Tryz.f86 nk ek) a S
theorem R86_3_eq (self:EV) (N:Nat) (nk:Ac->St->Rs) (ek:Nat->Ac->St->Rs) ( v3:V) (S:St):R86_3 self N nk ek (fr 38 [(3,v3)]) S =
(cvI .u32 v3 S).bind fun p5=>
some (.ret p5.1,p5.2):=by kernel_rfl
def L86_7 (self:EV) (N:Nat) (nk:Ac->St->Rs) (ek:Nat->Ac->St->Rs) (n:Nat) ( v0 v3 v4:V) (S:St):Rs:=qb8 [0,3,4] (dr E0 self RL86 N (B86.r.r.l.l.l)) (mkK E0 self Tryz.f86 nk ek) n (fr 38 [(0,v0),(3,v3),(4,v4)]) S
theorem L86_7_eq (self:EV) (N:Nat) (nk:Ac->St->Rs) (ek:Nat->Ac->St->Rs) (n:Nat) ( v0 v3 v4:V) (S:St):L86_7 self N nk ek (n+1) v0 v3 v4 S =
(qa4 E0 .sub 108 false false v4 v3).bind fun t10=>
(qa4 E0 .gtr 108 false true t10 (.int .u64 1)).bind fun t11=>
ifK t11 (
(qa4 E0 .add 108 false false v3 v4).bind fun t14=>
(qa4 E0 .quo 108 false true t14 (.int .u64 2)).bind fun t15=>
qaf (self.f 105 [t15,t15] S) fun t19 S19=>
(qab t19 0).bind fun t21=>
(qab t19 1).bind fun t22=>
(qa4 E0 .gtr 108 false false t21 v0).bind fun t27=>
(qa2 false t27).bind fun g29=>(bif g29 then some t21 else some (.tuple [])).bind fun t29=>
(qa2 false t27).bind fun g30=>(bif g30 then some v0 else some (.tuple [])).bind fun t30=>
(qa2 false t27).bind fun g31=>(bif g31 then qa4 E0 .eql 108 false false t29 t30 else some (.tuple [])).bind fun t31=>
(qa2 false t27).bind fun g32=>(bif g32 then some t31 else some (.tuple [])).bind fun t32=>
(qa2 true t32).bind fun g33=>(bif g33 then some t22 else some (.tuple [])).bind fun t33=>
(qa2 true t32).bind fun g34=>(bif g34 then qa4 E0 .gtr 108 false true t33 (.int .u64 0)else some (.tuple [])).bind fun t34=>
(qa2 false t27).bind fun g35=>(bif g35 then qay t32 (some t34) (some (.bool false))else some (.tuple [])).bind fun t35=>
(qay t27 (some (.bool true)) (some t35)).bind fun t36=>
ifK t36 (
L86_7 self N nk ek n v0 v3 t15 S19) (
L86_7 self N nk ek n v0 t15 v4 S19)) (
ek 0 (fr 38 [(3,v3)]) S):=by kernel_rfl
def F86 (self:EV) (N:Nat) (x0:V) (S:St):Rs:=qaq E0 self N Tryz.f86 B86 [x0] S
theorem F86_eq (self:EV) (N:Nat) (x0:V) (S:St):F86 self N x0 S =
L86_7 self N (R86_3 self N (qat E0 self Tryz.f86) qad) (exB 0 (R86_3 self N (qat E0 self Tryz.f86) qad) qad) N x0 (.int .u64 0) (.int .u64 68719476736) S:=by kernel_rfl
def C104:Code:=Tryz.f104.body.getD .skip
def B104:D:=(qak C104 [[],[],[],[],[],[],[],[0,1,8,9,11,12],[4],[],[],[],[],[],[]]).1
def F104 (self:EV) (N:Nat) (x0 x1:V) (S:St):Rs:=qaq E0 self N Tryz.f104 B104 [x0,x1] S
theorem F104_eq (self:EV) (N:Nat) (x0 x1:V) (S:St):F104 self N x0 x1 S =
qaf (self.f 105 [x0,x0] S) fun t3 S3=>
(qab t3 0).bind fun t5=>
(qab t3 1).bind fun t6=>
qaf (self.f 105 [t6,x0] S3) fun t11 S11=>
(qab t11 0).bind fun t13=>
(qab t11 1).bind fun t14=>
qaf (self.f 105 [t5,x0] S11) fun t19 S19=>
(qab t19 0).bind fun t21=>
(qab t19 1).bind fun t22=>
(qa4 E0 .add 108 false false t13 t22).bind fun t27=>
(qa4 E0 .lss 108 false false t27 t13).bind fun t32=>
ifK t32 (
(qa4 E0 .add 108 false false t21 (.int .u64 1)).bind fun t36=>
(qa4 E0 .gtr 108 false true t36 (.int .u64 0)).bind fun t39=>
ifK t39 (
some (.ret (.bool true),S19)) (
(qa4 E0 .shl 108 false true x1 (.int .u64 32)).bind fun t42=>
(qa4 E0 .gtr 108 false false t27 t42).bind fun t46=>
(qa2 false t46).bind fun g48=>(bif g48 then some t27 else some (.tuple [])).bind fun t48=>
(qa2 false t46).bind fun g49=>(bif g49 then some t42 else some (.tuple [])).bind fun t49=>
(qa2 false t46).bind fun g50=>(bif g50 then qa4 E0 .eql 108 false false t48 t49 else some (.tuple [])).bind fun t50=>
(qa2 false t46).bind fun g51=>(bif g51 then some t50 else some (.tuple [])).bind fun t51=>
(qa2 true t51).bind fun g52=>(bif g52 then some t14 else some (.tuple [])).bind fun t52=>
(qa2 true t51).bind fun g53=>(bif g53 then qa4 E0 .gtr 108 false true t52 (.int .u64 0)else some (.tuple [])).bind fun t53=>
(qa2 false t46).bind fun g54=>(bif g54 then qay t51 (some t53) (some (.bool false))else some (.tuple [])).bind fun t54=>
(qay t46 (some (.bool true)) (some t54)).bind fun t55=>
some (.ret t55,S19))) (
(qa4 E0 .add 108 false false t21 (.int .u64 0)).bind fun t59=>
(qa4 E0 .gtr 108 false true t59 (.int .u64 0)).bind fun t62=>
ifK t62 (
some (.ret (.bool true),S19)) (
(qa4 E0 .shl 108 false true x1 (.int .u64 32)).bind fun t65=>
(qa4 E0 .gtr 108 false false t27 t65).bind fun t69=>
(qa2 false t69).bind fun g71=>(bif g71 then some t27 else some (.tuple [])).bind fun t71=>
(qa2 false t69).bind fun g72=>(bif g72 then some t65 else some (.tuple [])).bind fun t72=>
(qa2 false t69).bind fun g73=>(bif g73 then qa4 E0 .eql 108 false false t71 t72 else some (.tuple [])).bind fun t73=>
(qa2 false t69).bind fun g74=>(bif g74 then some t73 else some (.tuple [])).bind fun t74=>
(qa2 true t74).bind fun g75=>(bif g75 then some t14 else some (.tuple [])).bind fun t75=>
(qa2 true t74).bind fun g76=>(bif g76 then qa4 E0 .gtr 108 false true t75 (.int .u64 0)else some (.tuple [])).bind fun t76=>
(qa2 false t69).bind fun g77=>(bif g77 then qay t74 (some t76) (some (.bool false))else some (.tuple [])).bind fun t77=>
(qay t69 (some (.bool true)) (some t77)).bind fun t78=>
some (.ret t78,S19))):=by kernel_rfl
def C105:Code:=Tryz.f105.body.getD .skip
def B105:D:=(qak C105 [[],[],[],[],[],[],[],[]]).1
def F105 (self:EV) (N:Nat) (x0 x1:V) (S:St):Rs:=qaq E0 self N Tryz.f105 B105 [x0,x1] S
theorem F105_eq (self:EV) (N:Nat) (x0 x1:V) (S:St):F105 self N x0 x1 S =
(qa4 E0 .and 108 false true x0 (.int .u64 4294967295)).bind fun t3=>
(qa4 E0 .shr 108 false true x0 (.int .u64 32)).bind fun t5=>
(qa4 E0 .and 108 false true x1 (.int .u64 4294967295)).bind fun t9=>
(qa4 E0 .shr 108 false true x1 (.int .u64 32)).bind fun t11=>
(qa4 E0 .mul 108 false false t3 t9).bind fun t16=>
(qa4 E0 .mul 108 false false t3 t11).bind fun t20=>
(qa4 E0 .mul 108 false false t5 t9).bind fun t24=>
(qa4 E0 .shr 108 false true t16 (.int .u64 32)).bind fun t27=>
(qa4 E0 .and 108 false true t20 (.int .u64 4294967295)).bind fun t29=>
(qa4 E0 .add 108 false false t27 t29).bind fun t30=>
(qa4 E0 .and 108 false true t24 (.int .u64 4294967295)).bind fun t32=>
(qa4 E0 .add 108 false false t30 t32).bind fun t33=>
(qa4 E0 .mul 108 false false t5 t11).bind fun t37=>
(qa4 E0 .shr 108 false true t20 (.int .u64 32)).bind fun t39=>
(qa4 E0 .add 108 false false t37 t39).bind fun t40=>
(qa4 E0 .shr 108 false true t24 (.int .u64 32)).bind fun t42=>
(qa4 E0 .add 108 false false t40 t42).bind fun t43=>
(qa4 E0 .shr 108 false true t33 (.int .u64 32)).bind fun t45=>
(qa4 E0 .add 108 false false t43 t45).bind fun t46=>
(qa4 E0 .shl 108 false true t33 (.int .u64 32)).bind fun t48=>
(qa4 E0 .and 108 false true t16 (.int .u64 4294967295)).bind fun t50=>
(qa4 E0 .or 108 false false t48 t50).bind fun t51=>
some (.ret (.tuple [t46,t51]),S):=by kernel_rfl
def C106:Code:=Tryz.f106.body.getD .skip
def B106:D:=(qak C106 [[],[]]).1
def F106 (self:EV) (N:Nat) (x0 x1:V) (S:St):Rs:=qaq E0 self N Tryz.f106 B106 [x0,x1] S
theorem F106_eq (self:EV) (N:Nat) (x0 x1:V) (S:St):F106 self N x0 x1 S =
(qa4 E0 .shr 86 false false x0 x1).bind fun t3=>
(qa4 E0 .sub 3 true false (.int .i64 32) x1).bind fun t6=>
(qa4 E0 .shl 86 false false x0 t6).bind fun t7=>
(qa4 E0 .or 86 false false t3 t7).bind fun t8=>
some (.ret t8,(qbd S (onS S) [[],[],[],[],[],[],[],[],[]])):=by kernel_rfl
end
end Go.Proofs.YtpgegoeghaplkaaGreatDoor.W
end
