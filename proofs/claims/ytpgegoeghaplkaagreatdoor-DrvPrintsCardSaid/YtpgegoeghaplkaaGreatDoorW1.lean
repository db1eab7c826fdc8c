/-
  WHAT THE FUNCTIONS COME TO: each is read by the evaluator,printed,and told as a function of data,part 1 of 15 (no condition).
-/
import Derived.Test.YtpgegoeghaplkaaGreatDoorEv4
import Derived.Test.YtpgegoeghaplkaaGreatDoorProg
import Derived.KernelRfl
noncomputable section
namespace Go.Proofs.YtpgegoeghaplkaaGreatDoor.W
open Go.Proofs.YtpgegoeghaplkaaGreatDoor.Ev
set_option maxRecDepth 100000
noncomputable section
def E0:Env:=envOf Tryz.prog [7,8,24,25,40,41,44,45,52,53,57,58,87,88,89,127,128,142,143,144,145,149] [(80,4),(103,105),(120,3),(121,1)] []
def C33:Code:=Tryz.f33.body.getD .skip
def B33:D:=(qak C33 [[]]).1
def F33 (self:EV) (N:Nat) (x0 x1 x2:V) (S:St):Rs:=qaq E0 self N Tryz.f33 B33 [x0,x1,x2] S
theorem F33_eq (self:EV) (N:Nat) (x0 x1 x2:V) (S:St):F33 self N x0 x1 x2 S =
(unV .not x1).bind fun t1=>
ifK t1 (
(qbn x0).bind fun t4=>
(faP 4 false 1 t4).bind fun t5=>
(ld1 t5 S).bind fun p6=>
(qfj E0 53 [(0,x2),(1,p6.1)]).bind fun t7=>
qaf (ql3 (.iface 53 t7) p6.2) fun t9 S9=>
some (.ret (.tuple []),S9)) (
some (.ret (.tuple []),S)):=by kernel_rfl
def C44:Code:=Tryz.f44.body.getD .skip
def B44:D:=(qak C44 [[],[],[]]).1
def F44 (self:EV) (N:Nat) (x0:V) (S:St):Rs:=qaq E0 self N Tryz.f44 B44 [x0] S
theorem F44_eq (self:EV) (N:Nat) (x0:V) (S:St):F44 self N x0 S =
qaf (self.f 12 [x0] S) fun t2 S2=>
(qab t2 0).bind fun t4=>
(qab t2 1).bind fun t5=>
(qab t2 2).bind fun t6=>
(qa4 E0 .eql 27 false true t6 (.int .i64 0)).bind fun t11=>
some (.ret t11,S2):=by kernel_rfl
def C46:Code:=Tryz.f46.body.getD .skip
def B46:D:=(qak C46 [[],[],[0,3],[],[],[],[],[],[],[0],[2],[]]).1
def RL46:List Nat:=cellsOf Tryz.f46.results.toList
def R46_1 (self:EV) (N:Nat) (nk:Ac->St->Rs) (ek:Nat->Ac->St->Rs) (a:Ac) (S:St):Rs:=qa7 [] a fun a=>dr E0 self RL46 N (B46.r).r (mkK E0 self Tryz.f46 nk ek) a S
theorem R46_1_eq (self:EV) (N:Nat) (nk:Ac->St->Rs) (ek:Nat->Ac->St->Rs) (S:St):R46_1 self N nk ek (fr 20 []) S =
some (.ret (.bool true),S):=by kernel_rfl
def L46_4 (self:EV) (N:Nat) (nk:Ac->St->Rs) (ek:Nat->Ac->St->Rs) (n:Nat) ( v0 v3:V) (S:St):Rs:=qb8 [0,3] (dr E0 self RL46 N (B46.r.l.r.l.l)) (mkK E0 self Tryz.f46 nk ek) n (fr 20 [(0,v0),(3,v3)]) S
theorem L46_4_eq (self:EV) (N:Nat) (nk:Ac->St->Rs) (ek:Nat->Ac->St->Rs) (n:Nat) ( v0 v3:V) (S:St):L46_4 self N nk ek (n+1) v0 v3 S =
(lnS v0 S).bind fun p7=>
(qa4 E0 .lss 3 false false v3 p7.1).bind fun t8=>
ifK t8 (
(qa4 E0 .sub 3 false true v3 (.int .i64 1)).bind fun t11=>
(ixP 1 v0 t11).bind fun t12=>
(ld1 t12 (onS p7.2)).bind fun p13=>
(ixP 1 v0 v3).bind fun t16=>
(ld1 t16 (onS p13.2)).bind fun p17=>
(qa4 E0 .geq 9 false false p13.1 p17.1).bind fun t18=>
qgb [(4,[8])] p7.2 [[],[],[],[],p13.2.log,[],[],[],p17.2.log,[]] (onS p17.2) fun S19=>
ifK t18 (
some (.ret (.bool false),S19)) (
(qa4 E0 .add 3 false true v3 (.int .i64 1)).bind fun t22=>
L46_4 self N nk ek n v0 t22 S19)) (
ek 0 (fr 20 []) p7.2):=by kernel_rfl
def F46 (self:EV) (N:Nat) (x0:V) (S:St):Rs:=qaq E0 self N Tryz.f46 B46 [x0] S
theorem F46_eq (self:EV) (N:Nat) (x0:V) (S:St):F46 self N x0 S =
L46_4 self N (R46_1 self N (qat E0 self Tryz.f46) qad) (exB 0 (R46_1 self N (qat E0 self Tryz.f46) qad) qad) N x0 (.int .i64 1) S:=by kernel_rfl
def C71:Code:=Tryz.f71.body.getD .skip
def B71:D:=(qak C71 [[],[],[0,7,8,9],[],[],[],[],[],[],[],[0],[4],[]]).1
def RL71:List Nat:=cellsOf Tryz.f71.results.toList
def R71_1 (self:EV) (N:Nat) (nk:Ac->St->Rs) (ek:Nat->Ac->St->Rs) (a:Ac) (S:St):Rs:=qa7 [] a fun a=>dr E0 self RL71 N (B71.r).r (mkK E0 self Tryz.f71 nk ek) a S
theorem R71_1_eq (self:EV) (N:Nat) (nk:Ac->St->Rs) (ek:Nat->Ac->St->Rs) (S:St):R71_1 self N nk ek (fr 17 []) S =
some (.ret (.bool false),S):=by kernel_rfl
def L71_6 (self:EV) (N:Nat) (nk:Ac->St->Rs) (ek:Nat->Ac->St->Rs) (n:Nat) ( v0 v7 v8 v9:V) (S:St):Rs:=qb8 [0,7,8,9] (dr E0 self RL71 N (B71.r.l.r.l.l)) (mkK E0 self Tryz.f71 nk ek) n (fr 17 [(0,v0),(7,v7),(8,v8),(9,v9)]) S
theorem L71_6_eq (self:EV) (N:Nat) (nk:Ac->St->Rs) (ek:Nat->Ac->St->Rs) (n:Nat) ( v0 v7 v8 v9:V) (S:St):L71_6 self N nk ek (n+1) v0 v7 v8 v9 S =
(qa4 E0 .lss 3 false false v9 v8).bind fun t7=>
ifK t7 (
(ixP 1 v7 v9).bind fun t8=>
(ld1 t8 S).bind fun p9=>
qaf (qc8 E0 self p9.1 [v0] p9.2) fun t13 S13=>
ifK t13 (
some (.ret (.bool true),S13)) (
(qa4 E0 .add 3 false true v9 (.int .i64 1)).bind fun t15=>
L71_6 self N nk ek n v0 v7 v8 t15 S13)) (
ek 0 (fr 17 []) S):=by kernel_rfl
def F71 (self:EV) (N:Nat) (x0 x1:V) (S:St):Rs:=qaq E0 self N Tryz.f71 B71 [x0,x1] S
theorem F71_eq (self:EV) (N:Nat) (x0 x1:V) (S:St):F71 self N x0 x1 S =
(lnS x1 S).bind fun p4=>
L71_6 self N (R71_1 self N (qat E0 self Tryz.f71) qad) (exB 0 (R71_1 self N (qat E0 self Tryz.f71) qad) qad) N x0 x1 p4.1 (.int .i64 0) p4.2:=by kernel_rfl
def C12:Code:=Tryz.f12.body.getD .skip
def B12:D:=(qak C12 [[],[],[],[],[],[],[],[],[]]).1
def F12 (self:EV) (N:Nat) (x0:V) (S:St):Rs:=qaq E0 self N Tryz.f12 B12 [x0] S
theorem F12_eq (self:EV) (N:Nat) (x0:V) (S:St):F12 self N x0 S =
(qbr x0 S).bind fun p4=>
(qa4 E0 .leq 3 false true p4.1 (.int .i64 32)).bind fun t5=>
(qa2 false t5).bind fun g7=>(bif g7 then some x0 else some (.tuple [])).bind fun t7=>
(qa2 false t5).bind fun g8=>(bif g8 then ixS t7 (.int .i64 32)else some (.tuple [])).bind fun t8=>
(qa2 false t5).bind fun g9=>(bif g9 then qa4 E0 .neq 5 false true t8 (.int .u8 45)else some (.tuple [])).bind fun t9=>
(qay t5 (some (.bool true)) (some t9)).bind fun t10=>
ifK t10 (
some (.ret (.tuple [(sv []),(sv []),(.int .i64 4)]),p4.2)) (
(qb6 E0 9 x0 none (some (.int .i64 32)) none (onS p4.2)).bind fun p15=>
(qb6 E0 9 x0 (some (.int .i64 33)) none none (onS p15.2)).bind fun p17=>
qgb [(1,[3])] p4.2 [[],p15.2.log,[],p17.2.log,[],[]] (onS p17.2) fun S20=>
qaf (self.f 34 [p15.1] S20) fun t22 S22=>
(unV .not t22).bind fun t23=>
(qa2 false t23).bind fun g25=>(bif g25 then some p17.1 else some (.tuple [])).bind fun t25=>
(qa2 false t23).bind fun g26=>qaf (bif g26 then self.f 35 [t25] S22 else some (.ret (.tuple []),S22)) fun t26 S26=>
(qa2 false t23).bind fun g27=>(bif g27 then qa4 E0 .neq 27 false true t26 (.int .i64 0)else some (.tuple [])).bind fun t27=>
(qay t23 (some (.bool true)) (some t27)).bind fun t28=>
ifK t28 (
some (.ret (.tuple [(sv []),(sv []),(.int .i64 4)]),S26)) (
some (.ret (.tuple [p15.1,p17.1,(.int .i64 0)]),S26))):=by kernel_rfl
def C34:Code:=Tryz.f34.body.getD .skip
def B34:D:=(qak C34 [[],[],[],[0,3,9,10],[],[0],[],[],[],[],[],[],[0,0],[2],[]]).1
def RL34:List Nat:=cellsOf Tryz.f34.results.toList
def R34_3 (self:EV) (N:Nat) (nk:Ac->St->Rs) (ek:Nat->Ac->St->Rs) (a:Ac) (S:St):Rs:=qa7 [0] a fun a=>dr E0 self RL34 N (B34.r.r).r (mkK E0 self Tryz.f34 nk ek) a S
theorem R34_3_eq (self:EV) (N:Nat) (nk:Ac->St->Rs) (ek:Nat->Ac->St->Rs) ( v0:V) (S:St):R34_3 self N nk ek (fr 27 [(0,v0)]) S =
(qbr v0 S).bind fun p5=>
(qa4 E0 .eql 3 false true p5.1 (.int .i64 32)).bind fun t6=>
some (.ret t6,p5.2):=by kernel_rfl
def L34_11 (self:EV) (N:Nat) (nk:Ac->St->Rs) (ek:Nat->Ac->St->Rs) (n:Nat) ( v0 v3 v9 v10:V) (S:St):Rs:=qb8 [0,3,9,10] (dr E0 self RL34 N (B34.r.r.l.r.l.l)) (mkK E0 self Tryz.f34 nk ek) n (fr 27 [(0,v0),(3,v3),(9,v9),(10,v10)]) S
theorem L34_11_eq (self:EV) (N:Nat) (nk:Ac->St->Rs) (ek:Nat->Ac->St->Rs) (n:Nat) ( v0 v3 v9 v10:V) (S:St):L34_11 self N nk ek (n+1) v0 v3 v9 v10 S =
(qa4 E0 .lss 3 false false v10 v9).bind fun t12=>
ifK t12 (
(ixS v0 v10).bind fun t18=>
(qe0 E0 80 v3 t18 true S).bind fun p19=>
(qab p19.1 0).bind fun t21=>
(qab p19.1 1).bind fun t22=>
(unV .not t22).bind fun t26=>
ifK t26 (
some (.ret (.bool false),p19.2)) (
(qa4 E0 .add 3 false true v10 (.int .i64 1)).bind fun t28=>
L34_11 self N nk ek n v0 v3 v9 t28 p19.2)) (
ek 0 (fr 27 [(0,v0)]) S):=by kernel_rfl
def F34 (self:EV) (N:Nat) (x0:V) (S:St):Rs:=qaq E0 self N Tryz.f34 B34 [x0] S
theorem F34_eq (self:EV) (N:Nat) (x0:V) (S:St):F34 self N x0 S =
qaf (self.f 65 [] S) fun t1 S1=>
(qbr x0 S1).bind fun p9=>
L34_11 self N (R34_3 self N (qat E0 self Tryz.f34) qad) (exB 0 (R34_3 self N (qat E0 self Tryz.f34) qad) qad) N x0 t1 p9.1 (.int .i64 0) p9.2:=by kernel_rfl
def C65:Code:=Tryz.f65.body.getD .skip
def B65:D:=(qak C65 [[],[],[],[1,4],[],[1],[],[],[],[0,1],[0],[]]).1
def RL65:List Nat:=cellsOf Tryz.f65.results.toList
def R65_3 (self:EV) (N:Nat) (nk:Ac->St->Rs) (ek:Nat->Ac->St->Rs) (a:Ac) (S:St):Rs:=qa7 [1] a fun a=>dr E0 self RL65 N (B65.r.r).r (mkK E0 self Tryz.f65 nk ek) a S
theorem R65_3_eq (self:EV) (N:Nat) (nk:Ac->St->Rs) (ek:Nat->Ac->St->Rs) ( v1:V) (S:St):R65_3 self N nk ek (fr 13 [(1,v1)]) S =
some (.ret v1,S):=by kernel_rfl
def L65_7 (self:EV) (N:Nat) (nk:Ac->St->Rs) (ek:Nat->Ac->St->Rs) (n:Nat) ( v1 v4:V) (S:St):Rs:=qb8 [1,4] (dr E0 self RL65 N (B65.r.r.l.r.l.l)) (mkK E0 self Tryz.f65 nk ek) n (fr 13 [(1,v1),(4,v4)]) S
theorem L65_7_eq (self:EV) (N:Nat) (nk:Ac->St->Rs) (ek:Nat->Ac->St->Rs) (n:Nat) ( v1 v4:V) (S:St):L65_7 self N nk ek (n+1) v1 v4 S =
(qa4 E0 .lss 3 false true v4 (.int .i64 32)).bind fun t8=>
ifK t8 (
(ixS (sv [48,49,50,51,52,53,54,55,56,57,97,98,99,100,102,103,104,105,106,107,108,109,110,112,113,114,115,118,119,120,121,122]) v4).bind fun t13=>
(vu (qco E0 80 v1 t13 v4 S)).bind fun p15=>
(qa4 E0 .add 3 false true v4 (.int .i64 1)).bind fun t16=>
L65_7 self N nk ek n v1 t16 p15.2) (
ek 0 (fr 13 [(1,v1)]) S):=by kernel_rfl
def F65 (self:EV) (N:Nat) (S:St):Rs:=qaq E0 self N Tryz.f65 B65 [] S
theorem F65_eq (self:EV) (N:Nat) (S:St):F65 self N S =
(qlo E0 80 none S).bind fun p1=>
L65_7 self N (R65_3 self N (qat E0 self Tryz.f65) qad) (exB 0 (R65_3 self N (qat E0 self Tryz.f65) qad) qad) N p1.1 (.int .i64 0) p1.2:=by kernel_rfl
end
noncomputable section
def C35:Code:=Tryz.f35.body.getD .skip
def B35:D:=(qak C35 [[],[],[],[],[],[],[],[],[],[0,3,4,5,6,12,13],[],[0],[],[],[],[],[],[0,0],[2],[],[],[],[]]).1
def RL35:List Nat:=cellsOf Tryz.f35.results.toList
def R35_9 (self:EV) (N:Nat) (nk:Ac->St->Rs) (ek:Nat->Ac->St->Rs) (a:Ac) (S:St):Rs:=qa7 [0] a fun a=>dr E0 self RL35 N (B35.r.r.r.r.r.r).r (mkK E0 self Tryz.f35 nk ek) a S
theorem R35_9_eq (self:EV) (N:Nat) (nk:Ac->St->Rs) (ek:Nat->Ac->St->Rs) ( v0:V) (S:St):R35_9 self N nk ek (fr 34 [(0,v0)]) S =
(qa4 E0 .eql 9 false true v0 (sv [])).bind fun t11=>
(qa2 false t11).bind fun g13=>(bif g13 then some v0 else some (.tuple [])).bind fun t13=>
(qa2 false t11).bind fun g14=>(bif g14 then ixS t13 (.int .i64 0)else some (.tuple [])).bind fun t14=>
(qa2 false t11).bind fun g15=>(bif g15 then qa4 E0 .eql 5 false true t14 (.int .u8 46)else some (.tuple [])).bind fun t15=>
(qay t11 (some (.bool true)) (some t15)).bind fun t16=>
ifK t16 (
some (.ret (.int .i64 2),S)) (
some (.ret (.int .i64 0),S)):=by kernel_rfl
def L35_22 (self:EV) (N:Nat) (nk:Ac->St->Rs) (ek:Nat->Ac->St->Rs) (n:Nat) ( v0 v3 v4 v5 v6 v12 v13:V) (S:St):Rs:=qb8 [0,3,4,5,6,12,13] (dr E0 self RL35 N (B35.r.r.r.r.r.r.l.r.l.l)) (mkK E0 self Tryz.f35 nk ek) n (fr 34 [(0,v0),(3,v3),(4,v4),(5,v5),(6,v6),(12,v12),(13,v13)]) S
theorem L35_22_eq (self:EV) (N:Nat) (nk:Ac->St->Rs) (ek:Nat->Ac->St->Rs) (n:Nat) ( v0 v3 v4 v5 v6 v12 v13:V) (S:St):L35_22 self N nk ek (n+1) v0 v3 v4 v5 v6 v12 v13 S =
(qa4 E0 .lss 3 false false v13 v12).bind fun t23=>
ifK t23 (
(ixS v0 v13).bind fun t28=>
(bsP 83 1 4 (Ev.one .nilfn) [(0,v3),(1,v4),(2,v5),(3,v6)] S).bind fun p33=>
qaf (self.f 71 [t28,p33.1] p33.2) fun t34 S34=>
(unV .not t34).bind fun t35=>
ifK t35 (
some (.ret (.int .i64 2),S34)) (
(qa4 E0 .add 3 false true v13 (.int .i64 1)).bind fun t37=>
L35_22 self N nk ek n v0 v3 v4 v5 v6 v12 t37 S34)) (
ek 0 (fr 34 [(0,v0)]) S):=by kernel_rfl
def F35 (self:EV) (N:Nat) (x0:V) (S:St):Rs:=qaq E0 self N Tryz.f35 B35 [x0] S
theorem F35_eq (self:EV) (N:Nat) (x0:V) (S:St):F35 self N x0 S =
(qbr x0 S).bind fun p2=>
(qa4 E0 .gtr 3 false true p2.1 (.int .i64 20)).bind fun t3=>
ifK t3 (
some (.ret (.int .i64 3),p2.2)) (
(qbr x0 p2.2).bind fun p20=>
L35_22 self N (R35_9 self N (qat E0 self Tryz.f35) qad) (exB 0 (R35_9 self N (qat E0 self Tryz.f35) qad) qad) N x0 (.fn (.func 66) [] []) (.fn (.func 67) [] []) (.fn (.func 68) [] []) (.fn (.func 69) [] []) p20.1 (.int .i64 0) p20.2):=by kernel_rfl
def C66:Code:=Tryz.f66.body.getD .skip
def B66:D:=(qak C66 [[],[]]).1
def F66 (self:EV) (N:Nat) (x0:V) (S:St):Rs:=qaq E0 self N Tryz.f66 B66 [x0] S
theorem F66_eq (self:EV) (N:Nat) (x0:V) (S:St):F66 self N x0 S =
(qa4 E0 .geq 5 false true x0 (.int .u8 97)).bind fun t2=>
(qa2 true t2).bind fun g4=>(bif g4 then some x0 else some (.tuple [])).bind fun t4=>
(qa2 true t2).bind fun g5=>(bif g5 then qa4 E0 .leq 5 false true t4 (.int .u8 122)else some (.tuple [])).bind fun t5=>
(qay t2 (some t5) (some (.bool false))).bind fun t6=>
some (.ret t6,S):=by kernel_rfl
def C67:Code:=Tryz.f67.body.getD .skip
def B67:D:=(qak C67 [[],[]]).1
def F67 (self:EV) (N:Nat) (x0:V) (S:St):Rs:=qaq E0 self N Tryz.f67 B67 [x0] S
theorem F67_eq (self:EV) (N:Nat) (x0:V) (S:St):F67 self N x0 S =
(qa4 E0 .geq 5 false true x0 (.int .u8 65)).bind fun t2=>
(qa2 true t2).bind fun g4=>(bif g4 then some x0 else some (.tuple [])).bind fun t4=>
(qa2 true t2).bind fun g5=>(bif g5 then qa4 E0 .leq 5 false true t4 (.int .u8 90)else some (.tuple [])).bind fun t5=>
(qay t2 (some t5) (some (.bool false))).bind fun t6=>
some (.ret t6,S):=by kernel_rfl
def C68:Code:=Tryz.f68.body.getD .skip
def B68:D:=(qak C68 [[],[]]).1
def F68 (self:EV) (N:Nat) (x0:V) (S:St):Rs:=qaq E0 self N Tryz.f68 B68 [x0] S
theorem F68_eq (self:EV) (N:Nat) (x0:V) (S:St):F68 self N x0 S =
(qa4 E0 .geq 5 false true x0 (.int .u8 48)).bind fun t2=>
(qa2 true t2).bind fun g4=>(bif g4 then some x0 else some (.tuple [])).bind fun t4=>
(qa2 true t2).bind fun g5=>(bif g5 then qa4 E0 .leq 5 false true t4 (.int .u8 57)else some (.tuple [])).bind fun t5=>
(qay t2 (some t5) (some (.bool false))).bind fun t6=>
some (.ret t6,S):=by kernel_rfl
def C69:Code:=Tryz.f69.body.getD .skip
def B69:D:=(qak C69 [[],[]]).1
def F69 (self:EV) (N:Nat) (x0:V) (S:St):Rs:=qaq E0 self N Tryz.f69 B69 [x0] S
theorem F69_eq (self:EV) (N:Nat) (x0:V) (S:St):F69 self N x0 S =
qaf (self.f 70 [(sv [43,45,46,95]),x0] S) fun t2 S2=>
(qa4 E0 .geq 3 false true t2 (.int .i64 0)).bind fun t3=>
some (.ret t3,S2):=by kernel_rfl
def C70:Code:=Tryz.f70.body.getD .skip
def B70:D:=(qak C70 [[],[]]).1
def F70 (self:EV) (N:Nat) (x0 x1:V) (S:St):Rs:=qaq E0 self N Tryz.f70 B70 [x0,x1] S
theorem F70_eq (self:EV) (N:Nat) (x0 x1:V) (S:St):F70 self N x0 x1 S =
qaf (self.f 95 [x0,x1] S) fun t3 S3=>
some (.ret t3,S3):=by kernel_rfl
def C95:Code:=Tryz.f95.body.getD .skip
def B95:D:=(qak C95 [[],[]]).1
def F95 (self:EV) (N:Nat) (x0 x1:V) (S:St):Rs:=qaq E0 self N Tryz.f95 B95 [x0,x1] S
theorem F95_eq (self:EV) (N:Nat) (x0 x1:V) (S:St):F95 self N x0 x1 S =
qaf (qc8 E0 self (.fn (.func 121) [] []) [x0,x1] S) fun t3 S3=>
some (.ret t3,S3):=by kernel_rfl
end
end Go.Proofs.YtpgegoeghaplkaaGreatDoor.W

namespace Go.Proofs.YtpgegoeghaplkaaGreatDoor.W
open Go.Proofs.YtpgegoeghaplkaaGreatDoor.Ev
set_option maxRecDepth 100000
noncomputable section
def C18:Code:=Tryz.f18.body.getD .skip
def B18:D:=(qak C18 [[],[],[],[],[],[],[],[],[],[],[],[0,0,1,5],[4],[],[0,1,5,39,40,41],[],[0,1,5],[],[],[],[],[],[0,0,1,5],[4],[],[],[],[],[1,8,63,64,65],[],[8],[],[],[],[],[0,8],[4],[]]).1
def RL18:List Nat:=cellsOf Tryz.f18.results.toList
def R18_13 (self:EV) (N:Nat) (nk:Ac->St->Rs) (ek:Nat->Ac->St->Rs) (a:Ac) (S:St):Rs:=qa7 [0,1,5] a fun a=>dr E0 self RL18 N (B18.r.r.r).r (mkK E0 self Tryz.f18 nk ek) a S
def R18_14 (self:EV) (N:Nat) (nk:Ac->St->Rs) (ek:Nat->Ac->St->Rs) (a:Ac) (S:St):Rs:=qa7 [0,1,5] a fun a=>dr E0 self RL18 N (B18.r.r.r.r.l).r (mkK E0 self Tryz.f18 nk ek) a S
def R18_22 (self:EV) (N:Nat) (nk:Ac->St->Rs) (ek:Nat->Ac->St->Rs) (a:Ac) (S:St):Rs:=qa7 [8] a fun a=>dr E0 self RL18 N (B18.r.r.r.r.l.r.l.r.r.r).r (mkK E0 self Tryz.f18 nk ek) a S
theorem R18_22_eq (self:EV) (N:Nat) (nk:Ac->St->Rs) (ek:Nat->Ac->St->Rs) ( v8:V) (S:St):R18_22 self N nk ek (fr 75 [(8,v8)]) S =
qaf (self.f 20 [v8] S) fun t23 S23=>
some (.ret t23,S23):=by kernel_rfl
def L18_29 (self:EV) (N:Nat) (nk:Ac->St->Rs) (ek:Nat->Ac->St->Rs) (n:Nat) ( v1 v8 v63 v64 v65:V) (S:St):Rs:=qb8 [1,8,63,64,65] (dr E0 self RL18 N (B18.r.r.r.r.l.r.l.r.r.r.l.r.l.l)) (mkK E0 self Tryz.f18 nk ek) n (fr 75 [(1,v1),(8,v8),(63,v63),(64,v64),(65,v65)]) S
theorem L18_29_eq (self:EV) (N:Nat) (nk:Ac->St->Rs) (ek:Nat->Ac->St->Rs) (n:Nat) ( v1 v8 v63 v64 v65:V) (S:St):L18_29 self N nk ek (n+1) v1 v8 v63 v64 v65 S =
(qa4 E0 .lss 3 false false v65 v64).bind fun t30=>
ifK t30 (
(ixP 1 v63 v65).bind fun t31=>
(ld1 t31 S).bind fun p32=>
qaf (self.f 17 [v8,v1] p32.2) fun t35 S35=>
qaf (self.f 17 [v8,p32.1] S35) fun t37 S37=>
(qa4 E0 .add 3 false true v65 (.int .i64 1)).bind fun t38=>
L18_29 self N nk ek n v1 v8 v63 v64 t38 S37) (
ek 3 (fr 75 [(8,v8)]) S):=by kernel_rfl
theorem R18_14_eq (self:EV) (N:Nat) (nk:Ac->St->Rs) (ek:Nat->Ac->St->Rs) ( v0 v1 v5:V) (S:St):R18_14 self N nk ek (fr 75 [(0,v0),(1,v1),(5,v5)]) S =
(some (nwP 45 2 (Tr.ofListFrom .nil [.nilptr,.nilslice] 0) S)).bind fun p15=>
qaf (self.f 53 [p15.1,v5] p15.2) fun t17 S17=>
(ixP 1 v0 (.int .i64 0)).bind fun t19=>
(ld1 t19 S17).bind fun p20=>
qaf (self.f 17 [p15.1,p20.1] p20.2) fun t21 S21=>
(qb6 E0 22 v0 (some (.int .i64 1)) none none S21).bind fun p26=>
(lnS p26.1 p26.2).bind fun p27=>
L18_29 self N (R18_22 self N (fun a s=>qa7 [4] a fun a=>nk a s) ek) (exB 3 (R18_22 self N (fun a s=>qa7 [4] a fun a=>nk a s) ek) ek) N v1 p15.1 p26.1 p27.1 (.int .i64 0) p27.2:=by kernel_rfl
def L18_43 (self:EV) (N:Nat) (nk:Ac->St->Rs) (ek:Nat->Ac->St->Rs) (n:Nat) ( v0 v1 v5 v39 v40 v41:V) (S:St):Rs:=qb8 [0,1,5,39,40,41] (dr E0 self RL18 N (B18.r.r.r.r.l.l.r.l.l)) (mkK E0 self Tryz.f18 nk ek) n (fr 75 [(0,v0),(1,v1),(5,v5),(39,v39),(40,v40),(41,v41)]) S
theorem L18_43_eq (self:EV) (N:Nat) (nk:Ac->St->Rs) (ek:Nat->Ac->St->Rs) (n:Nat) ( v0 v1 v5 v39 v40 v41:V) (S:St):L18_43 self N nk ek (n+1) v0 v1 v5 v39 v40 v41 S =
(qa4 E0 .lss 3 false false v41 v40).bind fun t44=>
ifK t44 (
(ixP 1 v39 v41).bind fun t45=>
(ld1 t45 S).bind fun p46=>
(qbr p46.1 p46.2).bind fun p49=>
(qa4 E0 .sub 3 true false (.int .i64 9223372036854775807) v5).bind fun t51=>
(qa4 E0 .gtr 3 false false p49.1 t51).bind fun t52=>
ifK t52 (
qaf (ql3 (.iface 9 (sv [115,116,114,105,110,103,115,58,32,74,111,105,110,32,111,117,116,112,117,116,32,108,101,110,103,116,104,32,111,118,101,114,102,108,111,119])) p49.2) fun t54 S54=>
(qbr p46.1 S54).bind fun p57=>
(qa4 E0 .add 3 false false v5 p57.1).bind fun t58=>
(qa4 E0 .add 3 false true v41 (.int .i64 1)).bind fun t60=>
L18_43 self N nk ek n v0 v1 t58 v39 v40 t60 p57.2) (
(qbr p46.1 p49.2).bind fun p64=>
(qa4 E0 .add 3 false false v5 p64.1).bind fun t65=>
(qa4 E0 .add 3 false true v41 (.int .i64 1)).bind fun t67=>
L18_43 self N nk ek n v0 v1 t65 v39 v40 t67 p64.2)) (
ek 1 (fr 75 [(0,v0),(1,v1),(5,v5)]) S):=by kernel_rfl
theorem R18_13_eq (self:EV) (N:Nat) (nk:Ac->St->Rs) (ek:Nat->Ac->St->Rs) ( v0 v1 v5:V) (S:St):R18_13 self N nk ek (fr 75 [(0,v0),(1,v1),(5,v5)]) S =
(lnS v0 S).bind fun p41=>
L18_43 self N (R18_14 self N (fun a s=>qa7 [4] a fun a=>nk a s) ek) (exB 1 (R18_14 self N (fun a s=>qa7 [4] a fun a=>nk a s) ek) ek) N v0 v1 v5 v0 p41.1 (.int .i64 0) p41.2:=by kernel_rfl
def F18 (self:EV) (N:Nat) (x0 x1:V) (S:St):Rs:=qaq E0 self N Tryz.f18 B18 [x0,x1] S
theorem F18_eq (self:EV) (N:Nat) (x0 x1:V) (S:St):F18 self N x0 x1 S =
(lnS x0 S).bind fun p2=>
(qa4 E0 .eql 3 false true p2.1 (.int .i64 0)).bind fun t3=>
ifK t3 (
some (.ret (sv []),p2.2)) (
(qa4 E0 .eql 3 false true p2.1 (.int .i64 1)).bind fun t6=>
ifK t6 (
(ixP 1 x0 (.int .i64 0)).bind fun t9=>
(ld1 t9 p2.2).bind fun p10=>
some (.ret p10.1,p10.2)) (
(qbr x1 p2.2).bind fun p70=>
(qa4 E0 .gtr 3 false true p70.1 (.int .i64 0)).bind fun t71=>
ifK t71 (
(qbr x1 p70.2).bind fun p73=>
(lnS x0 p73.2).bind fun p75=>
(qa4 E0 .sub 3 false true p75.1 (.int .i64 1)).bind fun t76=>
(qa4 E0 .quo 3 true false (.int .i64 9223372036854775807) t76).bind fun t77=>
(qa4 E0 .geq 3 false false p73.1 t77).bind fun t78=>
ifK t78 (
qaf (ql3 (.iface 9 (sv [115,116,114,105,110,103,115,58,32,74,111,105,110,32,111,117,116,112,117,116,32,108,101,110,103,116,104,32,111,118,101,114,102,108,111,119])) p75.2) fun t80 S80=>
(qbr x1 S80).bind fun p83=>
(lnS x0 p83.2).bind fun p85=>
(qa4 E0 .sub 3 false true p85.1 (.int .i64 1)).bind fun t86=>
(qa4 E0 .mul 3 false false p83.1 t86).bind fun t87=>
(qa4 E0 .add 3 false false (.int .i64 0) t87).bind fun t88=>
R18_13 self N (qat E0 self Tryz.f18) qad (fr 75 [(0,x0),(1,x1),(5,t88)]) p85.2) (
(qbr x1 p75.2).bind fun p92=>
(lnS x0 p92.2).bind fun p94=>
(qa4 E0 .sub 3 false true p94.1 (.int .i64 1)).bind fun t95=>
(qa4 E0 .mul 3 false false p92.1 t95).bind fun t96=>
(qa4 E0 .add 3 false false (.int .i64 0) t96).bind fun t97=>
R18_13 self N (qat E0 self Tryz.f18) qad (fr 75 [(0,x0),(1,x1),(5,t97)]) p94.2)) (
R18_13 self N (qat E0 self Tryz.f18) qad (fr 75 [(0,x0),(1,x1),(5,(.int .i64 0))]) p70.2))):=by kernel_rfl
def C17:Code:=Tryz.f17.body.getD .skip
def B17:D:=(qak C17 [[],[],[],[]]).1
def F17 (self:EV) (N:Nat) (x0 x1:V) (S:St):Rs:=qaq E0 self N Tryz.f17 B17 [x0,x1] S
theorem F17_eq (self:EV) (N:Nat) (x0 x1:V) (S:St):F17 self N x0 x1 S =
qaf (self.f 52 [x0] S) fun t3 S3=>
(qbn x0).bind fun t6=>
(faP 1 false 1 t6).bind fun t7=>
(ld1 t7 S3).bind fun p8=>
(apP 5 1 1 p8.1 x1 p8.2).bind fun p10=>
(qbn x0).bind fun t11=>
(faP 1 false 1 t11).bind fun t12=>
(stP 1 t12 p10.1 p10.2).bind fun p13=>
(qbr x1 p13.2).bind fun p15=>
some (.ret (.tuple [p15.1,.niliface]),p15.2):=by kernel_rfl
def C53:Code:=Tryz.f53.body.getD .skip
def B53:D:=(qak C53 [[],[],[0,0,1],[],[]]).1
def RL53:List Nat:=cellsOf Tryz.f53.results.toList
def R53_2 (self:EV) (N:Nat) (nk:Ac->St->Rs) (ek:Nat->Ac->St->Rs) (a:Ac) (S:St):Rs:=qa7 [0,1] a fun a=>dr E0 self RL53 N (B53.r).r (mkK E0 self Tryz.f53 nk ek) a S
theorem R53_2_eq (self:EV) (N:Nat) (nk:Ac->St->Rs) (ek:Nat->Ac->St->Rs) ( v0 v1:V) (S:St):R53_2 self N nk ek (fr 25 [(0,v0),(1,v1)]) S =
(qbn v0).bind fun t4=>
(faP 1 false 1 t4).bind fun t5=>
(ld1 t5 (onS S)).bind fun p6=>
(capP p6.1 (onS p6.2)).bind fun p7=>
(qbn v0).bind fun t9=>
(faP 1 false 1 t9).bind fun t10=>
(ld1 t10 (onS p7.2)).bind fun p11=>
(lnS p11.1 (onS p11.2)).bind fun p12=>
(qa4 E0 .sub 3 false false p7.1 p12.1).bind fun t13=>
(qa4 E0 .lss 3 false false t13 v1).bind fun t15=>
qgb [(3,[8,9]),(4,[8,9])] S [[],[],[],p6.2.log,p7.2.log,[],[],[],p11.2.log,p12.2.log,[],[],[]] (onS p12.2) fun S16=>
ifK t15 (
qaf (self.f 81 [v0,v1] S16) fun t19 S19=>
nk (fr 25 []) S19) (
nk (fr 25 []) S16):=by kernel_rfl
def F53 (self:EV) (N:Nat) (x0 x1:V) (S:St):Rs:=qaq E0 self N Tryz.f53 B53 [x0,x1] S
theorem F53_eq (self:EV) (N:Nat) (x0 x1:V) (S:St):F53 self N x0 x1 S =
qaf (self.f 52 [x0] S) fun t1 S1=>
(qa4 E0 .lss 3 false true x1 (.int .i64 0)).bind fun t21=>
ifK t21 (
qaf (ql3 (.iface 9 (sv [115,116,114,105,110,103,115,46,66,117,105,108,100,101,114,46,71,114,111,119,58,32,110,101,103,97,116,105,118,101,32,99,111,117,110,116])) S1) fun t23 S23=>
R53_2 self N (qat E0 self Tryz.f53) qad (fr 25 [(0,x0),(1,x1)]) S23) (
R53_2 self N (qat E0 self Tryz.f53) qad (fr 25 [(0,x0),(1,x1)]) S1):=by kernel_rfl
def C37:Code:=Tryz.f37.body.getD .skip
def B37:D:=(qak C37 [[],[],[],[]]).1
def F37 (self:EV) (N:Nat) (x0 x1:V) (S:St):Rs:=qaq E0 self N Tryz.f37 B37 [x0,x1] S
theorem F37_eq (self:EV) (N:Nat) (x0 x1:V) (S:St):F37 self N x0 x1 S =
qaf (self.f 52 [x0] S) fun t2 S2=>
(qbn x0).bind fun t5=>
(faP 1 false 1 t5).bind fun t6=>
(ld1 t6 S2).bind fun p7=>
(bsP 5 1 1 (Ev.one (.int .u8 0)) [(0,x1)] p7.2).bind fun p9=>
(apP 5 1 1 p7.1 p9.1 p9.2).bind fun p10=>
(qbn x0).bind fun t11=>
(faP 1 false 1 t11).bind fun t12=>
(stP 1 t12 p10.1 p10.2).bind fun p13=>
some (.ret .niliface,p13.2):=by kernel_rfl
def C81:Code:=Tryz.f81.body.getD .skip
def B81:D:=(qak C81 [[],[]]).1
def F81 (self:EV) (N:Nat) (x0 x1:V) (S:St):Rs:=qaq E0 self N Tryz.f81 B81 [x0,x1] S
theorem F81_eq (self:EV) (N:Nat) (x0 x1:V) (S:St):F81 self N x0 x1 S =
(qbn x0).bind fun t1=>
(faP 1 false 1 t1).bind fun t2=>
(ld1 t2 (onS S)).bind fun p3=>
(capP p3.1 (onS p3.2)).bind fun p4=>
(qa4 E0 .mul 3 true false (.int .i64 2) p4.1).bind fun t5=>
(qa4 E0 .add 3 false false t5 x1).bind fun t7=>
qcy (qaj E0 (B81.l).ops) S 8 [[],[],[],p3.2.log,p4.2.log,[],[],[]] (qc8 E0 self (.fn (.func 103) [] []) [t7] (onS p4.2)) fun t8 S8=>
(qbn x0).bind fun t10=>
(faP 1 false 1 t10).bind fun t11=>
(ld1 t11 (onS S8)).bind fun p12=>
(lnS p12.1 (onS p12.2)).bind fun p13=>
(qb6 E0 43 t8 none (some p13.1) none (onS p13.2)).bind fun p14=>
qgb [(3,[12,13]),(4,[12,13]),(8,[12,13])] S [[],[],[],p3.2.log,p4.2.log,[],[],[],S8.log,[],[],[],p12.2.log,p13.2.log,p14.2.log,[]] (onS p14.2) fun S16=>
(qbn x0).bind fun t19=>
(faP 1 false 1 t19).bind fun t20=>
(ld1 t20 S16).bind fun p21=>
(cpP 1 p14.1 p21.1 p21.2).bind fun p22=>
(qbn x0).bind fun t25=>
(faP 1 false 1 t25).bind fun t26=>
(stP 1 t26 p14.1 p22.2).bind fun p27=>
some (.ret (.tuple []),p27.2):=by kernel_rfl
def C19:Code:=Tryz.f19.body.getD .skip
def B19:D:=(qak C19 [[],[],[],[],[],[],[0,3,8,9],[],[3],[],[],[],[],[0,3],[2],[]]).1
def RL19:List Nat:=cellsOf Tryz.f19.results.toList
def R19_5 (self:EV) (N:Nat) (nk:Ac->St->Rs) (ek:Nat->Ac->St->Rs) (a:Ac) (S:St):Rs:=qa7 [3] a fun a=>dr E0 self RL19 N (B19.r.r.r).r (mkK E0 self Tryz.f19 nk ek) a S
theorem R19_5_eq (self:EV) (N:Nat) (nk:Ac->St->Rs) (ek:Nat->Ac->St->Rs) ( v3:V) (S:St):R19_5 self N nk ek (fr 26 [(3,v3)]) S =
qaf (self.f 20 [v3] S) fun t6 S6=>
some (.ret t6,S6):=by kernel_rfl
def L19_11 (self:EV) (N:Nat) (nk:Ac->St->Rs) (ek:Nat->Ac->St->Rs) (n:Nat) ( v0 v3 v8 v9:V) (S:St):Rs:=qb8 [0,3,8,9] (dr E0 self RL19 N (B19.r.r.r.l.r.l.l)) (mkK E0 self Tryz.f19 nk ek) n (fr 26 [(0,v0),(3,v3),(8,v8),(9,v9)]) S
theorem L19_11_eq (self:EV) (N:Nat) (nk:Ac->St->Rs) (ek:Nat->Ac->St->Rs) (n:Nat) ( v0 v3 v8 v9:V) (S:St):L19_11 self N nk ek (n+1) v0 v3 v8 v9 S =
(qa4 E0 .lss 3 false false v9 v8).bind fun t12=>
ifK t12 (
(ixS v0 v9).bind fun t17=>
(qa4 E0 .shr 5 false true t17 (.int .u64 4)).bind fun t18=>
(ixS (sv [48,49,50,51,52,53,54,55,56,57,97,98,99,100,101,102]) t18).bind fun t19=>
qaf (self.f 37 [v3,t19] S) fun t20 S20=>
(ixS v0 v9).bind fun t23=>
(qa4 E0 .and 5 false true t23 (.int .u8 15)).bind fun t24=>
(ixS (sv [48,49,50,51,52,53,54,55,56,57,97,98,99,100,101,102]) t24).bind fun t25=>
qaf (self.f 37 [v3,t25] S20) fun t26 S26=>
(qa4 E0 .add 3 false true v9 (.int .i64 1)).bind fun t27=>
L19_11 self N nk ek n v0 v3 v8 t27 S26) (
ek 0 (fr 26 [(3,v3)]) S):=by kernel_rfl
def F19 (self:EV) (N:Nat) (x0:V) (S:St):Rs:=qaq E0 self N Tryz.f19 B19 [x0] S
theorem F19_eq (self:EV) (N:Nat) (x0:V) (S:St):F19 self N x0 S =
(qa4 E0 .eql 9 false true x0 (sv [])).bind fun t2=>
ifK t2 (
some (.ret (sv [45]),S)) (
(some (nwP 45 2 (Tr.ofListFrom .nil [.nilptr,.nilslice] 0) S)).bind fun p4=>
(qbr x0 p4.2).bind fun p9=>
L19_11 self N (R19_5 self N (qat E0 self Tryz.f19) qad) (exB 0 (R19_5 self N (qat E0 self Tryz.f19) qad) qad) N x0 p4.1 p9.1 (.int .i64 0) p9.2):=by kernel_rfl
end
end Go.Proofs.YtpgegoeghaplkaaGreatDoor.W
namespace Go.Proofs.YtpgegoeghaplkaaGreatDoor.W
open Go.Proofs.YtpgegoeghaplkaaGreatDoor.Ev
abbrev Bs:=List UInt8
structure DD where
 nm:Bs
 ins:List Bs
 env:List (Bs×Bs)
 scr:Bs
def qmv:List Bs->Bs
 | []=>[]
 | [w]=>w
 | w::l=>w++32::qmv l
def hexL:Bs:=[48,49,50,51,52,53,54,55,56,57,97,98,99,100,101,102]
def hexC (n:Nat):UInt8:=hexL.getD n 0
def ixH (c:UInt8):Nat:=(hexL.findIdx? (fun x=>x==c)).getD 0
def isX (c:UInt8):Bool:=hexL.contains c
def hexD (v:Bs):Bs:=if v=[]then [45]else v.flatMap fun c=>[hexC (c.toNat/16),hexC (c.toNat%16)]
def qjk:Bs->Bs
 | a::b::s=>UInt8.ofNat (ixH a*16+ixH b)::qjk s
 | _=>[]
def valD (s:Bs):Option Bs:=if s=[45]then some []else if s≠[]/\s.length%2=0/\s.all isX=true then some (qjk s)else none
theorem isX_ix:∀c:UInt8,isX c=true->ixH c<16/\hexC (ixH c)=c:=by
 intro c h;unfold isX hexL at h;simp only[List.contains_cons,Bool.or_eq_true,beq_iff_eq,List.contains_nil,Bool.false_eq_true,or_false]at h;rcases h with h|h|h|h|h|h|h|h|h|h|h|h|h|h|h|h<;>subst h<;>exact⟨by decide,by decide⟩
theorem pairs_hex:∀(n:Nat) (s:Bs),s.length<=n->s.length%2=0->s.all isX=true->(qjk s).flatMap (fun c=>[hexC (c.toNat/16),hexC (c.toNat%16)])=s/\(qjk s).length*2=s.length
 | 0,s,hn,_,_=>by
  have:s=[]:=List.length_eq_zero_iff.1 (by omega);subst this;exact⟨rfl,rfl⟩
 | n+1,[],_,_,_=>⟨rfl,rfl⟩
 | n+1,[a],_,h2,_=>by simp at h2
 | n+1,a::b::s,hn,h2,ha=>by
  rw[List.all_cons,List.all_cons,bA,bA]at ha;obtain⟨a1,a2⟩:=isX_ix a ha.1;obtain⟨b1,b2⟩:=isX_ix b ha.2.1;obtain⟨i1,i2⟩:=pairs_hex n s (by simp at hn; omega) (by simp at h2; omega) ha.2.2;rw[qjk];have hn:(UInt8.ofNat (ixH a*16+ixH b)).toNat=ixH a*16+ixH b:=by rw[UInt8.toNat_ofNat']; omega
  refine⟨?_,by simp only[List.length_cons]; omega⟩;rw[List.flatMap_cons,i1,hn,show(ixH a*16+ixH b)/16=ixH a by omega,show(ixH a*16+ixH b)%16=ixH b by omega,a2,b2];rfl
def ltB (a b:Bs):Bool:=decide (a<b)
def qik:List Bs->Bool
 | a::b::l=>ltB a b&&qik (b::l)
 | _=>true
def wDrv:Bs:=[100,114,118]
def wIn:Bs:=[105,110]
def wEnv:Bs:=[101,110,118]
def wRun:Bs:=[114,117,110]
section
variable (chk isPath variable_:Bs->Bool)
def inL (p:Bs):Bs:=wIn++32::p++[10]
def envL (p:Bs×Bs):Bs:=wEnv++32::p.1++32::hexD p.2++[10]
def preD (t:Nat) (d:DD):Bs:=(if t=0 then []else wDrv++32::d.nm++[10])++d.ins.flatMap inL++d.env.flatMap envL++(if t=4 then wRun++[10]else [])
def qje (d:DD):Bool:=chk d.nm&&decide (d.ins.length<=8/\d.env.length<=16)&&d.ins.all isPath&&(qik d.ins&&qik (d.env.map Prod.fst))&&d.env.all (fun v=>variable_ v.1&&decide (v.2.length<=200))&&decide (d.scr.length<=4000)
def prtD (d:DD):Bs:=preD 4 d++d.scr
variable {chk isPath variable_}
end
end Go.Proofs.YtpgegoeghaplkaaGreatDoor.W
end
