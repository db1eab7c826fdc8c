/-
  WHAT THE FUNCTIONS COME TO: each is read by the evaluator,printed,and told as a function of data,part 1 of 9 (no condition).
-/
import Derived.Test.YtpgegoeghaplkaaDoorEv4
import Derived.Test.YtpgegoeghaplkaaDoorProg
import Derived.KernelRfl
namespace Go.Proofs.YtpgegoeghaplkaaDoor.W
open Go.Proofs.YtpgegoeghaplkaaDoor.Ev
set_option maxRecDepth 100000
noncomputable section
noncomputable def E0:Env:=envOf Tryd.prog [7,8,24,25,35,36,40,41,49,50,54,55,94,95,114,115,116,117,121] [(61,4),(78,3),(80,105),(81,1)] []
noncomputable def C14:Code:=Tryd.f14.body.getD .skip
noncomputable def B14:D:=(qas C14 [[]]).1
noncomputable def F14 (self:EV) (N:Nat) (x0 x1 x2:V) (S:St):Rs:=qaz E0 self N Tryd.f14 B14 [x0,x1,x2] S
theorem F14_eq (self:EV) (N:Nat) (x0 x1 x2:V) (S:St):F14 self N x0 x1 x2 S =
(unV .not x1).bind fun t1=>
ifK t1 (
(qae x0).bind fun t4=>
(faP 4 false 1 t4).bind fun t5=>
(ld1 t5 S).bind fun p6=>
(qdz E0 36 [(0,x2),(1,p6.1)]).bind fun t7=>
qaa (qhm (.iface 36 t7) p6.2) fun t9 S9=>
some (.ret (.tuple []),S9)) (
some (.ret (.tuple []),S)):=by kernel_rfl
noncomputable def C21:Code:=Tryd.f21.body.getD .skip
noncomputable def B21:D:=(qas C21 []).1
noncomputable def F21 (self:EV) (N:Nat) (x0 x1 x2 x3:V) (S:St):Rs:=qaz E0 self N Tryd.f21 B21 [x0,x1,x2,x3] S
theorem F21_eq (self:EV) (N:Nat) (x0 x1 x2 x3:V) (S:St):F21 self N x0 x1 x2 x3 S =
(qae x0).bind fun t3=>
(faP 5 false 1 t3).bind fun t4=>
(ld1 t4 S).bind fun p5=>
qaa (self.f 43 [x3,p5.1] p5.2) fun t6 S6=>
(qa3 true t6).bind fun g8=>(bif g8 then some x1 else some (.tuple [])).bind fun t8=>
(qa3 true t6).bind fun g9=>(bif g9 then lnS t8 S6 else some (.tuple [],S6)).bind fun p9=>
(qa3 true t6).bind fun g10=>(bif g10 then some x2 else some (.tuple [])).bind fun t10=>
(qa3 true t6).bind fun g11=>(bif g11 then qa8 E0 .eql 3 false false p9.1 t10 else some (.tuple [])).bind fun t11=>
(qbp t6 (some t11) (some (.bool false))).bind fun t12=>
qaa (self.f 14 [x0,t12,(.int .i64 4)] p9.2) fun t13 S13=>
some (.ret (.tuple []),S13):=by kernel_rfl
noncomputable def C23:Code:=Tryd.f23.body.getD .skip
noncomputable def B23:D:=(qas C23 [[],[],[]]).1
noncomputable def F23 (self:EV) (N:Nat) (x0:V) (S:St):Rs:=qaz E0 self N Tryd.f23 B23 [x0] S
theorem F23_eq (self:EV) (N:Nat) (x0:V) (S:St):F23 self N x0 S =
qaa (self.f 50 [x0] S) fun t2 S2=>
(qag t2 0).bind fun t4=>
(qag t2 1).bind fun t5=>
(qag t2 2).bind fun t6=>
(qa8 E0 .eql 31 false true t6 (.int .i64 0)).bind fun t11=>
some (.ret t11,S2):=by kernel_rfl
noncomputable def C24:Code:=Tryd.f24.body.getD .skip
noncomputable def B24:D:=(qas C24 [[],[],[0,3],[],[],[],[],[],[],[0],[2],[]]).1
noncomputable def RL24:List Nat:=cellsOf Tryd.f24.results.toList
noncomputable def R24_1 (self:EV) (N:Nat) (nk:Ac->St->Rs) (ek:Nat->Ac->St->Rs) (a:Ac) (S:St):Rs:=qba [] a fun a=>dr E0 self RL24 N (B24.r).r (mkK E0 self Tryd.f24 nk ek) a S
theorem R24_1_eq (self:EV) (N:Nat) (nk:Ac->St->Rs) (ek:Nat->Ac->St->Rs) (S:St):R24_1 self N nk ek (fr 20 []) S =
some (.ret (.bool true),S):=by kernel_rfl
noncomputable def L24_4 (self:EV) (N:Nat) (nk:Ac->St->Rs) (ek:Nat->Ac->St->Rs) (n:Nat) ( v0 v3:V) (S:St):Rs:=qdl [0,3] (dr E0 self RL24 N (B24.r.l.r.l.l)) (mkK E0 self Tryd.f24 nk ek) n (fr 20 [(0,v0),(3,v3)]) S
theorem L24_4_eq (self:EV) (N:Nat) (nk:Ac->St->Rs) (ek:Nat->Ac->St->Rs) (n:Nat) ( v0 v3:V) (S:St):L24_4 self N nk ek (n+1) v0 v3 S =
(lnS v0 S).bind fun p7=>
(qa8 E0 .lss 3 false false v3 p7.1).bind fun t8=>
ifK t8 (
(qa8 E0 .sub 3 false true v3 (.int .i64 1)).bind fun t11=>
(ixP 1 v0 t11).bind fun t12=>
(ld1 t12 (onS p7.2)).bind fun p13=>
(ixP 1 v0 v3).bind fun t16=>
(ld1 t16 (onS p13.2)).bind fun p17=>
(qa8 E0 .geq 9 false false p13.1 p17.1).bind fun t18=>
endP [(4,[8])] p7.2 [[],[],[],[],p13.2.log,[],[],[],p17.2.log,[]] (onS p17.2) fun S19=>
ifK t18 (
some (.ret (.bool false),S19)) (
(qa8 E0 .add 3 false true v3 (.int .i64 1)).bind fun t22=>
L24_4 self N nk ek n v0 t22 S19)) (
ek 0 (fr 20 []) p7.2):=by kernel_rfl
noncomputable def F24 (self:EV) (N:Nat) (x0:V) (S:St):Rs:=qaz E0 self N Tryd.f24 B24 [x0] S
theorem F24_eq (self:EV) (N:Nat) (x0:V) (S:St):F24 self N x0 S =
L24_4 self N (R24_1 self N (qbw E0 self Tryd.f24) qb2) (exB 0 (R24_1 self N (qbw E0 self Tryd.f24) qb2) qb2) N x0 (.int .i64 1) S:=by kernel_rfl
noncomputable def C49:Code:=Tryd.f49.body.getD .skip
noncomputable def B49:D:=(qas C49 [[],[],[0,7,8,9],[],[],[],[],[],[],[],[0],[4],[]]).1
noncomputable def RL49:List Nat:=cellsOf Tryd.f49.results.toList
noncomputable def R49_1 (self:EV) (N:Nat) (nk:Ac->St->Rs) (ek:Nat->Ac->St->Rs) (a:Ac) (S:St):Rs:=qba [] a fun a=>dr E0 self RL49 N (B49.r).r (mkK E0 self Tryd.f49 nk ek) a S
theorem R49_1_eq (self:EV) (N:Nat) (nk:Ac->St->Rs) (ek:Nat->Ac->St->Rs) (S:St):R49_1 self N nk ek (fr 17 []) S =
some (.ret (.bool false),S):=by kernel_rfl
noncomputable def L49_6 (self:EV) (N:Nat) (nk:Ac->St->Rs) (ek:Nat->Ac->St->Rs) (n:Nat) ( v0 v7 v8 v9:V) (S:St):Rs:=qdl [0,7,8,9] (dr E0 self RL49 N (B49.r.l.r.l.l)) (mkK E0 self Tryd.f49 nk ek) n (fr 17 [(0,v0),(7,v7),(8,v8),(9,v9)]) S
theorem L49_6_eq (self:EV) (N:Nat) (nk:Ac->St->Rs) (ek:Nat->Ac->St->Rs) (n:Nat) ( v0 v7 v8 v9:V) (S:St):L49_6 self N nk ek (n+1) v0 v7 v8 v9 S =
(qa8 E0 .lss 3 false false v9 v8).bind fun t7=>
ifK t7 (
(ixP 1 v7 v9).bind fun t8=>
(ld1 t8 S).bind fun p9=>
qaa (qch E0 self p9.1 [v0] p9.2) fun t13 S13=>
ifK t13 (
some (.ret (.bool true),S13)) (
(qa8 E0 .add 3 false true v9 (.int .i64 1)).bind fun t15=>
L49_6 self N nk ek n v0 v7 v8 t15 S13)) (
ek 0 (fr 17 []) S):=by kernel_rfl
noncomputable def F49 (self:EV) (N:Nat) (x0 x1:V) (S:St):Rs:=qaz E0 self N Tryd.f49 B49 [x0,x1] S
theorem F49_eq (self:EV) (N:Nat) (x0 x1:V) (S:St):F49 self N x0 x1 S =
(lnS x1 S).bind fun p4=>
L49_6 self N (R49_1 self N (qbw E0 self Tryd.f49) qb2) (exB 0 (R49_1 self N (qbw E0 self Tryd.f49) qb2) qb2) N x0 x1 p4.1 (.int .i64 0) p4.2:=by kernel_rfl
noncomputable def C50:Code:=Tryd.f50.body.getD .skip
noncomputable def B50:D:=(qas C50 [[],[],[],[],[],[],[],[],[]]).1
noncomputable def F50 (self:EV) (N:Nat) (x0:V) (S:St):Rs:=qaz E0 self N Tryd.f50 B50 [x0] S
theorem F50_eq (self:EV) (N:Nat) (x0:V) (S:St):F50 self N x0 S =
(qbv x0 S).bind fun p4=>
(qa8 E0 .leq 3 false true p4.1 (.int .i64 32)).bind fun t5=>
(qa3 false t5).bind fun g7=>(bif g7 then some x0 else some (.tuple [])).bind fun t7=>
(qa3 false t5).bind fun g8=>(bif g8 then ixS t7 (.int .i64 32)else some (.tuple [])).bind fun t8=>
(qa3 false t5).bind fun g9=>(bif g9 then qa8 E0 .neq 5 false true t8 (.int .u8 45)else some (.tuple [])).bind fun t9=>
(qbp t5 (some (.bool true)) (some t9)).bind fun t10=>
ifK t10 (
some (.ret (.tuple [(sv []),(sv []),(.int .i64 4)]),p4.2)) (
(qbf E0 9 x0 none (some (.int .i64 32)) none (onS p4.2)).bind fun p15=>
(qbf E0 9 x0 (some (.int .i64 33)) none none (onS p15.2)).bind fun p17=>
endP [(1,[3])] p4.2 [[],p15.2.log,[],p17.2.log,[],[]] (onS p17.2) fun S20=>
qaa (self.f 65 [p15.1] S20) fun t22 S22=>
(unV .not t22).bind fun t23=>
(qa3 false t23).bind fun g25=>(bif g25 then some p17.1 else some (.tuple [])).bind fun t25=>
(qa3 false t23).bind fun g26=>qaa (bif g26 then self.f 22 [t25] S22 else some (.ret (.tuple []),S22)) fun t26 S26=>
(qa3 false t23).bind fun g27=>(bif g27 then qa8 E0 .neq 31 false true t26 (.int .i64 0)else some (.tuple [])).bind fun t27=>
(qbp t23 (some (.bool true)) (some t27)).bind fun t28=>
ifK t28 (
some (.ret (.tuple [(sv []),(sv []),(.int .i64 4)]),S26)) (
some (.ret (.tuple [p15.1,p17.1,(.int .i64 0)]),S26))):=by kernel_rfl
noncomputable def C65:Code:=Tryd.f65.body.getD .skip
noncomputable def B65:D:=(qas C65 [[],[],[],[0,3,9,10],[],[0],[],[],[],[],[],[],[0,0],[2],[]]).1
noncomputable def RL65:List Nat:=cellsOf Tryd.f65.results.toList
noncomputable def R65_3 (self:EV) (N:Nat) (nk:Ac->St->Rs) (ek:Nat->Ac->St->Rs) (a:Ac) (S:St):Rs:=qba [0] a fun a=>dr E0 self RL65 N (B65.r.r).r (mkK E0 self Tryd.f65 nk ek) a S
theorem R65_3_eq (self:EV) (N:Nat) (nk:Ac->St->Rs) (ek:Nat->Ac->St->Rs) ( v0:V) (S:St):R65_3 self N nk ek (fr 27 [(0,v0)]) S =
(qbv v0 S).bind fun p5=>
(qa8 E0 .eql 3 false true p5.1 (.int .i64 32)).bind fun t6=>
some (.ret t6,p5.2):=by kernel_rfl
noncomputable def L65_11 (self:EV) (N:Nat) (nk:Ac->St->Rs) (ek:Nat->Ac->St->Rs) (n:Nat) ( v0 v3 v9 v10:V) (S:St):Rs:=qdl [0,3,9,10] (dr E0 self RL65 N (B65.r.r.l.r.l.l)) (mkK E0 self Tryd.f65 nk ek) n (fr 27 [(0,v0),(3,v3),(9,v9),(10,v10)]) S
theorem L65_11_eq (self:EV) (N:Nat) (nk:Ac->St->Rs) (ek:Nat->Ac->St->Rs) (n:Nat) ( v0 v3 v9 v10:V) (S:St):L65_11 self N nk ek (n+1) v0 v3 v9 v10 S =
(qa8 E0 .lss 3 false false v10 v9).bind fun t12=>
ifK t12 (
(ixS v0 v10).bind fun t18=>
(qci E0 106 v3 t18 true S).bind fun p19=>
(qag p19.1 0).bind fun t21=>
(qag p19.1 1).bind fun t22=>
(unV .not t22).bind fun t26=>
ifK t26 (
some (.ret (.bool false),p19.2)) (
(qa8 E0 .add 3 false true v10 (.int .i64 1)).bind fun t28=>
L65_11 self N nk ek n v0 v3 v9 t28 p19.2)) (
ek 0 (fr 27 [(0,v0)]) S):=by kernel_rfl
noncomputable def F65 (self:EV) (N:Nat) (x0:V) (S:St):Rs:=qaz E0 self N Tryd.f65 B65 [x0] S
theorem F65_eq (self:EV) (N:Nat) (x0:V) (S:St):F65 self N x0 S =
qaa (self.f 82 [] S) fun t1 S1=>
(qbv x0 S1).bind fun p9=>
L65_11 self N (R65_3 self N (qbw E0 self Tryd.f65) qb2) (exB 0 (R65_3 self N (qbw E0 self Tryd.f65) qb2) qb2) N x0 t1 p9.1 (.int .i64 0) p9.2:=by kernel_rfl
noncomputable def C82:Code:=Tryd.f82.body.getD .skip
noncomputable def B82:D:=(qas C82 [[],[],[],[1,4],[],[1],[],[],[],[0,1],[0],[]]).1
noncomputable def RL82:List Nat:=cellsOf Tryd.f82.results.toList
noncomputable def R82_3 (self:EV) (N:Nat) (nk:Ac->St->Rs) (ek:Nat->Ac->St->Rs) (a:Ac) (S:St):Rs:=qba [1] a fun a=>dr E0 self RL82 N (B82.r.r).r (mkK E0 self Tryd.f82 nk ek) a S
theorem R82_3_eq (self:EV) (N:Nat) (nk:Ac->St->Rs) (ek:Nat->Ac->St->Rs) ( v1:V) (S:St):R82_3 self N nk ek (fr 13 [(1,v1)]) S =
some (.ret v1,S):=by kernel_rfl
noncomputable def L82_7 (self:EV) (N:Nat) (nk:Ac->St->Rs) (ek:Nat->Ac->St->Rs) (n:Nat) ( v1 v4:V) (S:St):Rs:=qdl [1,4] (dr E0 self RL82 N (B82.r.r.l.r.l.l)) (mkK E0 self Tryd.f82 nk ek) n (fr 13 [(1,v1),(4,v4)]) S
theorem L82_7_eq (self:EV) (N:Nat) (nk:Ac->St->Rs) (ek:Nat->Ac->St->Rs) (n:Nat) ( v1 v4:V) (S:St):L82_7 self N nk ek (n+1) v1 v4 S =
(qa8 E0 .lss 3 false true v4 (.int .i64 32)).bind fun t8=>
ifK t8 (
(ixS (sv [48,49,50,51,52,53,54,55,56,57,97,98,99,100,102,103,104,105,106,107,108,109,110,112,113,114,115,118,119,120,121,122]) v4).bind fun t13=>
(vu (qb3 E0 106 v1 t13 v4 S)).bind fun p15=>
(qa8 E0 .add 3 false true v4 (.int .i64 1)).bind fun t16=>
L82_7 self N nk ek n v1 t16 p15.2) (
ek 0 (fr 13 [(1,v1)]) S):=by kernel_rfl
noncomputable def F82 (self:EV) (N:Nat) (S:St):Rs:=qaz E0 self N Tryd.f82 B82 [] S
theorem F82_eq (self:EV) (N:Nat) (S:St):F82 self N S =
(qh3 E0 106 none S).bind fun p1=>
L82_7 self N (R82_3 self N (qbw E0 self Tryd.f82) qb2) (exB 0 (R82_3 self N (qbw E0 self Tryd.f82) qb2) qb2) N p1.1 (.int .i64 0) p1.2:=by kernel_rfl
noncomputable def C43:Code:=Tryd.f43.body.getD .skip
noncomputable def B43:D:=(qas C43 [[],[]]).1
noncomputable def F43 (self:EV) (N:Nat) (x0 x1:V) (S:St):Rs:=qaz E0 self N Tryd.f43 B43 [x0,x1] S
theorem F43_eq (self:EV) (N:Nat) (x0 x1:V) (S:St):F43 self N x0 x1 S =
qaa (self.f 63 [x0,x1] S) fun t3 S3=>
(qa8 E0 .geq 3 false true t3 (.int .i64 0)).bind fun t4=>
some (.ret t4,S3):=by kernel_rfl
noncomputable def C63:Code:=Tryd.f63.body.getD .skip
noncomputable def B63:D:=(qas C63 [[],[],[0,1,7,8],[],[],[],[],[],[],[],[0],[4],[]]).1
noncomputable def RL63:List Nat:=cellsOf Tryd.f63.results.toList
noncomputable def R63_1 (self:EV) (N:Nat) (nk:Ac->St->Rs) (ek:Nat->Ac->St->Rs) (a:Ac) (S:St):Rs:=qba [] a fun a=>dr E0 self RL63 N (B63.r).r (mkK E0 self Tryd.f63 nk ek) a S
theorem R63_1_eq (self:EV) (N:Nat) (nk:Ac->St->Rs) (ek:Nat->Ac->St->Rs) (S:St):R63_1 self N nk ek (fr 19 []) S =
some (.ret (.int .i64 (-1)),S):=by kernel_rfl
noncomputable def L63_6 (self:EV) (N:Nat) (nk:Ac->St->Rs) (ek:Nat->Ac->St->Rs) (n:Nat) ( v0 v1 v7 v8:V) (S:St):Rs:=qdl [0,1,7,8] (dr E0 self RL63 N (B63.r.l.r.l.l)) (mkK E0 self Tryd.f63 nk ek) n (fr 19 [(0,v0),(1,v1),(7,v7),(8,v8)]) S
theorem L63_6_eq (self:EV) (N:Nat) (nk:Ac->St->Rs) (ek:Nat->Ac->St->Rs) (n:Nat) ( v0 v1 v7 v8:V) (S:St):L63_6 self N nk ek (n+1) v0 v1 v7 v8 S =
(qa8 E0 .lss 3 false false v8 v7).bind fun t7=>
ifK t7 (
(ixP 1 v0 v8).bind fun t13=>
(ld1 t13 S).bind fun p14=>
(qa8 E0 .eql 9 false false v1 p14.1).bind fun t15=>
ifK t15 (
some (.ret v8,p14.2)) (
(qa8 E0 .add 3 false true v8 (.int .i64 1)).bind fun t18=>
L63_6 self N nk ek n v0 v1 v7 t18 p14.2)) (
ek 0 (fr 19 []) S):=by kernel_rfl
noncomputable def F63 (self:EV) (N:Nat) (x0 x1:V) (S:St):Rs:=qaz E0 self N Tryd.f63 B63 [x0,x1] S
theorem F63_eq (self:EV) (N:Nat) (x0 x1:V) (S:St):F63 self N x0 x1 S =
(lnS x0 S).bind fun p4=>
L63_6 self N (R63_1 self N (qbw E0 self Tryd.f63) qb2) (exB 0 (R63_1 self N (qbw E0 self Tryd.f63) qb2) qb2) N x0 x1 p4.1 (.int .i64 0) p4.2:=by kernel_rfl
end
noncomputable section
noncomputable def C22:Code:=Tryd.f22.body.getD .skip
noncomputable def B22:D:=(qas C22 [[],[],[],[],[],[],[],[],[],[0,3,4,5,6,12,13],[],[0],[],[],[],[],[],[0,0],[2],[],[],[],[]]).1
noncomputable def RL22:List Nat:=cellsOf Tryd.f22.results.toList
noncomputable def R22_9 (self:EV) (N:Nat) (nk:Ac->St->Rs) (ek:Nat->Ac->St->Rs) (a:Ac) (S:St):Rs:=qba [0] a fun a=>dr E0 self RL22 N (B22.r.r.r.r.r.r).r (mkK E0 self Tryd.f22 nk ek) a S
theorem R22_9_eq (self:EV) (N:Nat) (nk:Ac->St->Rs) (ek:Nat->Ac->St->Rs) ( v0:V) (S:St):R22_9 self N nk ek (fr 34 [(0,v0)]) S =
(qa8 E0 .eql 9 false true v0 (sv [])).bind fun t11=>
(qa3 false t11).bind fun g13=>(bif g13 then some v0 else some (.tuple [])).bind fun t13=>
(qa3 false t11).bind fun g14=>(bif g14 then ixS t13 (.int .i64 0)else some (.tuple [])).bind fun t14=>
(qa3 false t11).bind fun g15=>(bif g15 then qa8 E0 .eql 5 false true t14 (.int .u8 46)else some (.tuple [])).bind fun t15=>
(qbp t11 (some (.bool true)) (some t15)).bind fun t16=>
ifK t16 (
some (.ret (.int .i64 2),S)) (
some (.ret (.int .i64 0),S)):=by kernel_rfl
noncomputable def L22_22 (self:EV) (N:Nat) (nk:Ac->St->Rs) (ek:Nat->Ac->St->Rs) (n:Nat) ( v0 v3 v4 v5 v6 v12 v13:V) (S:St):Rs:=qdl [0,3,4,5,6,12,13] (dr E0 self RL22 N (B22.r.r.r.r.r.r.l.r.l.l)) (mkK E0 self Tryd.f22 nk ek) n (fr 34 [(0,v0),(3,v3),(4,v4),(5,v5),(6,v6),(12,v12),(13,v13)]) S
theorem L22_22_eq (self:EV) (N:Nat) (nk:Ac->St->Rs) (ek:Nat->Ac->St->Rs) (n:Nat) ( v0 v3 v4 v5 v6 v12 v13:V) (S:St):L22_22 self N nk ek (n+1) v0 v3 v4 v5 v6 v12 v13 S =
(qa8 E0 .lss 3 false false v13 v12).bind fun t23=>
ifK t23 (
(ixS v0 v13).bind fun t28=>
(bsP 76 1 4 (Ev.one .nilfn) [(0,v3),(1,v4),(2,v5),(3,v6)] S).bind fun p33=>
qaa (self.f 49 [t28,p33.1] p33.2) fun t34 S34=>
(unV .not t34).bind fun t35=>
ifK t35 (
some (.ret (.int .i64 2),S34)) (
(qa8 E0 .add 3 false true v13 (.int .i64 1)).bind fun t37=>
L22_22 self N nk ek n v0 v3 v4 v5 v6 v12 t37 S34)) (
ek 0 (fr 34 [(0,v0)]) S):=by kernel_rfl
noncomputable def F22 (self:EV) (N:Nat) (x0:V) (S:St):Rs:=qaz E0 self N Tryd.f22 B22 [x0] S
theorem F22_eq (self:EV) (N:Nat) (x0:V) (S:St):F22 self N x0 S =
(qbv x0 S).bind fun p2=>
(qa8 E0 .gtr 3 false true p2.1 (.int .i64 20)).bind fun t3=>
ifK t3 (
some (.ret (.int .i64 3),p2.2)) (
(qbv x0 p2.2).bind fun p20=>
L22_22 self N (R22_9 self N (qbw E0 self Tryd.f22) qb2) (exB 0 (R22_9 self N (qbw E0 self Tryd.f22) qb2) qb2) N x0 (.fn (.func 44) [] []) (.fn (.func 45) [] []) (.fn (.func 46) [] []) (.fn (.func 47) [] []) p20.1 (.int .i64 0) p20.2):=by kernel_rfl
noncomputable def C44:Code:=Tryd.f44.body.getD .skip
noncomputable def B44:D:=(qas C44 [[],[]]).1
noncomputable def F44 (self:EV) (N:Nat) (x0:V) (S:St):Rs:=qaz E0 self N Tryd.f44 B44 [x0] S
theorem F44_eq (self:EV) (N:Nat) (x0:V) (S:St):F44 self N x0 S =
(qa8 E0 .geq 5 false true x0 (.int .u8 97)).bind fun t2=>
(qa3 true t2).bind fun g4=>(bif g4 then some x0 else some (.tuple [])).bind fun t4=>
(qa3 true t2).bind fun g5=>(bif g5 then qa8 E0 .leq 5 false true t4 (.int .u8 122)else some (.tuple [])).bind fun t5=>
(qbp t2 (some t5) (some (.bool false))).bind fun t6=>
some (.ret t6,S):=by kernel_rfl
noncomputable def C45:Code:=Tryd.f45.body.getD .skip
noncomputable def B45:D:=(qas C45 [[],[]]).1
noncomputable def F45 (self:EV) (N:Nat) (x0:V) (S:St):Rs:=qaz E0 self N Tryd.f45 B45 [x0] S
theorem F45_eq (self:EV) (N:Nat) (x0:V) (S:St):F45 self N x0 S =
(qa8 E0 .geq 5 false true x0 (.int .u8 65)).bind fun t2=>
(qa3 true t2).bind fun g4=>(bif g4 then some x0 else some (.tuple [])).bind fun t4=>
(qa3 true t2).bind fun g5=>(bif g5 then qa8 E0 .leq 5 false true t4 (.int .u8 90)else some (.tuple [])).bind fun t5=>
(qbp t2 (some t5) (some (.bool false))).bind fun t6=>
some (.ret t6,S):=by kernel_rfl
noncomputable def C46:Code:=Tryd.f46.body.getD .skip
noncomputable def B46:D:=(qas C46 [[],[]]).1
noncomputable def F46 (self:EV) (N:Nat) (x0:V) (S:St):Rs:=qaz E0 self N Tryd.f46 B46 [x0] S
theorem F46_eq (self:EV) (N:Nat) (x0:V) (S:St):F46 self N x0 S =
(qa8 E0 .geq 5 false true x0 (.int .u8 48)).bind fun t2=>
(qa3 true t2).bind fun g4=>(bif g4 then some x0 else some (.tuple [])).bind fun t4=>
(qa3 true t2).bind fun g5=>(bif g5 then qa8 E0 .leq 5 false true t4 (.int .u8 57)else some (.tuple [])).bind fun t5=>
(qbp t2 (some t5) (some (.bool false))).bind fun t6=>
some (.ret t6,S):=by kernel_rfl
noncomputable def C47:Code:=Tryd.f47.body.getD .skip
noncomputable def B47:D:=(qas C47 [[],[]]).1
noncomputable def F47 (self:EV) (N:Nat) (x0:V) (S:St):Rs:=qaz E0 self N Tryd.f47 B47 [x0] S
theorem F47_eq (self:EV) (N:Nat) (x0:V) (S:St):F47 self N x0 S =
qaa (self.f 48 [(sv [43,45,46,95]),x0] S) fun t2 S2=>
(qa8 E0 .geq 3 false true t2 (.int .i64 0)).bind fun t3=>
some (.ret t3,S2):=by kernel_rfl
noncomputable def C48:Code:=Tryd.f48.body.getD .skip
noncomputable def B48:D:=(qas C48 [[],[]]).1
noncomputable def F48 (self:EV) (N:Nat) (x0 x1:V) (S:St):Rs:=qaz E0 self N Tryd.f48 B48 [x0,x1] S
theorem F48_eq (self:EV) (N:Nat) (x0 x1:V) (S:St):F48 self N x0 x1 S =
qaa (self.f 64 [x0,x1] S) fun t3 S3=>
some (.ret t3,S3):=by kernel_rfl
noncomputable def C64:Code:=Tryd.f64.body.getD .skip
noncomputable def B64:D:=(qas C64 [[],[]]).1
noncomputable def F64 (self:EV) (N:Nat) (x0 x1:V) (S:St):Rs:=qaz E0 self N Tryd.f64 B64 [x0,x1] S
theorem F64_eq (self:EV) (N:Nat) (x0 x1:V) (S:St):F64 self N x0 x1 S =
qaa (qch E0 self (.fn (.func 81) [] []) [x0,x1] S) fun t3 S3=>
some (.ret t3,S3):=by kernel_rfl
end
noncomputable section
noncomputable def C12:Code:=Tryd.f12.body.getD .skip
noncomputable def B12:D:=(qas C12 [[],[]]).1
noncomputable def F12 (self:EV) (N:Nat) (x0 x1:V) (S:St):Rs:=qaz E0 self N Tryd.f12 B12 [x0,x1] S
theorem F12_eq (self:EV) (N:Nat) (x0 x1:V) (S:St):F12 self N x0 x1 S =
qaa (self.f 27 [x0,x1] S) fun t5 S5=>
(qag t5 0).bind fun t6=>
(qag t5 1).bind fun t7=>
(qag t5 2).bind fun t8=>
some (.ret (.tuple [t6,t7,t8]),S5):=by kernel_rfl
noncomputable def C27:Code:=Tryd.f27.body.getD .skip
noncomputable def B27:D:=(qas C27 [[],[],[],[],[],[]]).1
noncomputable def F27 (self:EV) (N:Nat) (x0 x1:V) (S:St):Rs:=qaz E0 self N Tryd.f27 B27 [x0,x1] S
theorem F27_eq (self:EV) (N:Nat) (x0 x1:V) (S:St):F27 self N x0 x1 S =
qaa (self.f 53 [x0,x1] S) fun t5 S5=>
(qa8 E0 .geq 3 false true t5 (.int .i64 0)).bind fun t8=>
ifK t8 (
(qbf E0 9 x0 none (some t5) none (onS S5)).bind fun p11=>
(qbv x1 (onS p11.2)).bind fun p15=>
(qa8 E0 .add 3 false false t5 p15.1).bind fun t16=>
(qbf E0 9 x0 (some t16) none none (onS p15.2)).bind fun p17=>
endP [(2,[6,8])] S5 [[],[],p11.2.log,[],[],[],p15.2.log,[],p17.2.log,[],[],[]] (onS p17.2) fun S21=>
some (.ret (.tuple [p11.1,p17.1,(.bool true)]),S21)) (
some (.ret (.tuple [x0,(sv []),(.bool false)]),S5)):=by kernel_rfl
noncomputable def C53:Code:=Tryd.f53.body.getD .skip
noncomputable def B53:D:=(qas C53 [[],[],[],[],[],[],[],[],[],[],[],[],[],[],[],[],[0,1,5,6,7,8,9,10],[],[],[],[],[],[],[],[],[0,0,1,5,6,7,8,9,10],[0,1,5,6,7,8,9,10],[],[],[],[],[],[],[],[],[],[],[],[],[],[],[],[],[],[0],[4],[]]).1
noncomputable def F53 (self:EV) (N:Nat) (x0 x1:V) (S:St):Rs:=qaz E0 self N Tryd.f53 B53 [x0,x1] S
theorem F53_eq (self:EV) (N:Nat) (x0 x1:V) (S:St):F53 self N x0 x1 S =
(qbv x1 S).bind fun p2=>
(qa8 E0 .eql 3 false true p2.1 (.int .i64 0)).bind fun t5=>
(qa3 false t5).bind fun g7=>(bif g7 then some x1 else some (.tuple [])).bind fun t7=>
(qa3 false t5).bind fun g8=>(bif g8 then some x0 else some (.tuple [])).bind fun t8=>
(qa3 false t5).bind fun g9=>(bif g9 then qa8 E0 .eql 9 false false t7 t8 else some (.tuple [])).bind fun t9=>
(qbp t5 (some (.bool true)) (some t9)).bind fun t10=>
ifK t10 (
some (.ret (.int .i64 0),p2.2)) (
(qa8 E0 .eql 3 false true p2.1 (.int .i64 1)).bind fun t14=>
ifK t14 (
(ixS x1 (.int .i64 0)).bind fun t18=>
qaa (self.f 64 [x0,t18] p2.2) fun t19 S19=>
some (.ret t19,S19)) (
(qbv x0 p2.2).bind fun p23=>
(qa8 E0 .geq 3 false false p2.1 p23.1).bind fun t24=>
ifK t24 (
some (.ret (.int .i64 (-1)),p23.2)) (
none))):=by kernel_rfl
noncomputable def C13:Code:=Tryd.f13.body.getD .skip
noncomputable def B13:D:=(qas C13 [[],[]]).1
noncomputable def F13 (self:EV) (N:Nat) (x0 x1:V) (S:St):Rs:=qaz E0 self N Tryd.f13 B13 [x0,x1] S
theorem F13_eq (self:EV) (N:Nat) (x0 x1:V) (S:St):F13 self N x0 x1 S =
qaa (self.f 28 [x0,x1,(.int .i64 0),(.int .i64 (-1))] S) fun t3 S3=>
some (.ret t3,S3):=by kernel_rfl
noncomputable def C28:Code:=Tryd.f28.body.getD .skip
noncomputable def B28:D:=(qas C28 [[],[],[],[],[],[],[],[],[0,0,1,2,3],[8],[],[],[],[],[0,1,2,3,9,10],[],[0,9,10],[],[],[],[0,9,10],[],[],[],[0,0,9,10],[8],[],[]]).1
noncomputable def RL28:List Nat:=cellsOf Tryd.f28.results.toList
noncomputable def R28_24 (self:EV) (N:Nat) (nk:Ac->St->Rs) (ek:Nat->Ac->St->Rs) (a:Ac) (S:St):Rs:=qba [0,9,10] a fun a=>dr E0 self RL28 N (B28.r.r.r.r.l.r.r.r.r).r (mkK E0 self Tryd.f28 nk ek) a S
theorem R28_24_eq (self:EV) (N:Nat) (nk:Ac->St->Rs) (ek:Nat->Ac->St->Rs) ( v0 v9 v10:V) (S:St):R28_24 self N nk ek (fr 66 [(0,v0),(9,v9),(10,v10)]) S =
(ixP 1 v9 v10).bind fun t28=>
(stP 1 t28 v0 S).bind fun p29=>
(qa8 E0 .add 3 false true v10 (.int .i64 1)).bind fun t32=>
(qbf E0 22 v9 none (some t32) none p29.2).bind fun p33=>
some (.ret p33.1,p33.2):=by kernel_rfl
noncomputable def L28_35 (self:EV) (N:Nat) (nk:Ac->St->Rs) (ek:Nat->Ac->St->Rs) (n:Nat) ( v0 v1 v2 v3 v9 v10:V) (S:St):Rs:=qdl [0,1,2,3,9,10] (dr E0 self RL28 N (B28.r.r.r.r.l.r.r.r.r.l.l.l)) (mkK E0 self Tryd.f28 nk ek) n (fr 66 [(0,v0),(1,v1),(2,v2),(3,v3),(9,v9),(10,v10)]) S
theorem L28_35_eq (self:EV) (N:Nat) (nk:Ac->St->Rs) (ek:Nat->Ac->St->Rs) (n:Nat) ( v0 v1 v2 v3 v9 v10:V) (S:St):L28_35 self N nk ek (n+1) v0 v1 v2 v3 v9 v10 S =
(qa8 E0 .lss 3 false false v10 v3).bind fun t38=>
ifK t38 (
qaa (self.f 56 [v0,v1] S) fun t41 S41=>
(qa8 E0 .lss 3 false true t41 (.int .i64 0)).bind fun t44=>
ifK t44 (
ek 0 (fr 66 [(0,v0),(9,v9),(10,v10)]) S41) (
(qa8 E0 .add 3 false false t41 v2).bind fun t50=>
(qbf E0 9 v0 none (some t50) none S41).bind fun p51=>
(ixP 1 v9 v10).bind fun t52=>
(stP 1 t52 p51.1 p51.2).bind fun p53=>
(qbv v1 p53.2).bind fun p57=>
(qa8 E0 .add 3 false false t41 p57.1).bind fun t58=>
(qbf E0 9 v0 (some t58) none none p57.2).bind fun p59=>
(qa8 E0 .add 3 false true v10 (.int .i64 1)).bind fun t62=>
L28_35 self N nk ek n p59.1 v1 v2 v3 v9 t62 p59.2)) (
ek 0 (fr 66 [(0,v0),(9,v9),(10,v10)]) S):=by kernel_rfl
noncomputable def F28 (self:EV) (N:Nat) (x0 x1 x2 x3:V) (S:St):Rs:=qaz E0 self N Tryd.f28 B28 [x0,x1,x2,x3] S
theorem F28_one (self:EV) (N:Nat) (x0 x2:V) (S:St):F28 self N x0 (sv [32]) x2 (.int .i64 (-1)) S =
qaa (self.f 55 [x0,sv [32]] S) fun t68 S68=>
(qa8 E0 .add 3 false true t68 (.int .i64 1)).bind fun t69=>
(qbv x0 S68).bind fun p13=>
(qa8 E0 .add 3 false true p13.1 (.int .i64 1)).bind fun t14=>
(foldK minV t69 [t14] p13.2).bind fun p15=>
(qcx E0 22 p15.1 p15.1 p15.2).bind fun p18=>
(qa8 E0 .sub 3 false true p15.1 (.int .i64 1)).bind fun t21=>
L28_35 self N (R28_24 self N (fun a s=>qba [8] a fun a=>(qbw E0 self Tryd.f28) a s) qb2) (exB 0 (R28_24 self N (fun a s=>qba [8] a fun a=>(qbw E0 self Tryd.f28) a s) qb2) qb2) N x0 (sv [32]) x2 t21 p18.1 (.int .i64 0) p18.2:=by kernel_rfl
noncomputable def C55:Code:=Tryd.f55.body.getD .skip
noncomputable def B55:D:=(qas C55 [[],[],[],[],[],[],[],[],[0,1,5],[],[],[],[],[]]).1
noncomputable def RL55:List Nat:=cellsOf Tryd.f55.results.toList
noncomputable def L55_17 (self:EV) (N:Nat) (nk:Ac->St->Rs) (ek:Nat->Ac->St->Rs) (n:Nat) ( v0 v1 v5:V) (S:St):Rs:=qdl [0,1,5] (dr E0 self RL55 N (B55.r.r.r.r.l.l)) (mkK E0 self Tryd.f55 nk ek) n (fr 34 [(0,v0),(1,v1),(5,v5)]) S
noncomputable def F55 (self:EV) (N:Nat) (x0 x1:V) (S:St):Rs:=qaz E0 self N Tryd.f55 B55 [x0,x1] S
theorem F55_eq (self:EV) (N:Nat) (x0 x1:V) (S:St):F55 self N x0 x1 S =
(qbv x1 S).bind fun p2=>
(qa8 E0 .eql 3 false true p2.1 (.int .i64 0)).bind fun t3=>
ifK t3 (
qaa (self.f 76 [x0] p2.2) fun t5 S5=>
(qa8 E0 .add 3 false true t5 (.int .i64 1)).bind fun t6=>
some (.ret t6,S5)) (
(qbv x1 p2.2).bind fun p9=>
(qa8 E0 .eql 3 false true p9.1 (.int .i64 1)).bind fun t10=>
ifK t10 (
(ixS x1 (.int .i64 0)).bind fun t13=>
qaa (qch E0 self (.fn (.func 78) [] []) [x0,t13] p9.2) fun t14 S14=>
some (.ret t14,S14)) (
L55_17 self N (qbw E0 self Tryd.f55) (exB 0 (qbw E0 self Tryd.f55) qb2) N x0 x1 (.int .i64 0) p9.2)):=by kernel_rfl
noncomputable def C56:Code:=Tryd.f56.body.getD .skip
noncomputable def B56:D:=(qas C56 [[],[]]).1
noncomputable def F56 (self:EV) (N:Nat) (x0 x1:V) (S:St):Rs:=qaz E0 self N Tryd.f56 B56 [x0,x1] S
theorem F56_eq (self:EV) (N:Nat) (x0 x1:V) (S:St):F56 self N x0 x1 S =
qaa (self.f 53 [x0,x1] S) fun t3 S3=>
some (.ret t3,S3):=by kernel_rfl
end
noncomputable section
noncomputable def C18:Code:=Tryd.f18.body.getD .skip
noncomputable def B18:D:=(qas C18 [[],[],[],[],[],[],[],[],[],[],[],[0,0,1,5],[4],[],[0,1,5,39,40,41],[],[0,1,5],[],[],[],[],[],[0,0,1,5],[4],[],[],[],[],[1,8,63,64,65],[],[8],[],[],[],[],[0,8],[4],[]]).1
noncomputable def RL18:List Nat:=cellsOf Tryd.f18.results.toList
noncomputable def R18_13 (self:EV) (N:Nat) (nk:Ac->St->Rs) (ek:Nat->Ac->St->Rs) (a:Ac) (S:St):Rs:=qba [0,1,5] a fun a=>dr E0 self RL18 N (B18.r.r.r).r (mkK E0 self Tryd.f18 nk ek) a S
noncomputable def R18_14 (self:EV) (N:Nat) (nk:Ac->St->Rs) (ek:Nat->Ac->St->Rs) (a:Ac) (S:St):Rs:=qba [0,1,5] a fun a=>dr E0 self RL18 N (B18.r.r.r.r.l).r (mkK E0 self Tryd.f18 nk ek) a S
noncomputable def R18_22 (self:EV) (N:Nat) (nk:Ac->St->Rs) (ek:Nat->Ac->St->Rs) (a:Ac) (S:St):Rs:=qba [8] a fun a=>dr E0 self RL18 N (B18.r.r.r.r.l.r.l.r.r.r).r (mkK E0 self Tryd.f18 nk ek) a S
theorem R18_22_eq (self:EV) (N:Nat) (nk:Ac->St->Rs) (ek:Nat->Ac->St->Rs) ( v8:V) (S:St):R18_22 self N nk ek (fr 75 [(8,v8)]) S =
qaa (self.f 20 [v8] S) fun t23 S23=>
some (.ret t23,S23):=by kernel_rfl
noncomputable def L18_29 (self:EV) (N:Nat) (nk:Ac->St->Rs) (ek:Nat->Ac->St->Rs) (n:Nat) ( v1 v8 v63 v64 v65:V) (S:St):Rs:=qdl [1,8,63,64,65] (dr E0 self RL18 N (B18.r.r.r.r.l.r.l.r.r.r.l.r.l.l)) (mkK E0 self Tryd.f18 nk ek) n (fr 75 [(1,v1),(8,v8),(63,v63),(64,v64),(65,v65)]) S
theorem L18_29_eq (self:EV) (N:Nat) (nk:Ac->St->Rs) (ek:Nat->Ac->St->Rs) (n:Nat) ( v1 v8 v63 v64 v65:V) (S:St):L18_29 self N nk ek (n+1) v1 v8 v63 v64 v65 S =
(qa8 E0 .lss 3 false false v65 v64).bind fun t30=>
ifK t30 (
(ixP 1 v63 v65).bind fun t31=>
(ld1 t31 S).bind fun p32=>
qaa (self.f 17 [v8,v1] p32.2) fun t35 S35=>
qaa (self.f 17 [v8,p32.1] S35) fun t37 S37=>
(qa8 E0 .add 3 false true v65 (.int .i64 1)).bind fun t38=>
L18_29 self N nk ek n v1 v8 v63 v64 t38 S37) (
ek 3 (fr 75 [(8,v8)]) S):=by kernel_rfl
theorem R18_14_eq (self:EV) (N:Nat) (nk:Ac->St->Rs) (ek:Nat->Ac->St->Rs) ( v0 v1 v5:V) (S:St):R18_14 self N nk ek (fr 75 [(0,v0),(1,v1),(5,v5)]) S =
(some (nwP 55 2 (Tr.ofListFrom .nil [.nilptr,.nilslice] 0) S)).bind fun p15=>
qaa (self.f 41 [p15.1,v5] p15.2) fun t17 S17=>
(ixP 1 v0 (.int .i64 0)).bind fun t19=>
(ld1 t19 S17).bind fun p20=>
qaa (self.f 17 [p15.1,p20.1] p20.2) fun t21 S21=>
(qbf E0 22 v0 (some (.int .i64 1)) none none S21).bind fun p26=>
(lnS p26.1 p26.2).bind fun p27=>
L18_29 self N (R18_22 self N (fun a s=>qba [4] a fun a=>nk a s) ek) (exB 3 (R18_22 self N (fun a s=>qba [4] a fun a=>nk a s) ek) ek) N v1 p15.1 p26.1 p27.1 (.int .i64 0) p27.2:=by kernel_rfl
noncomputable def L18_43 (self:EV) (N:Nat) (nk:Ac->St->Rs) (ek:Nat->Ac->St->Rs) (n:Nat) ( v0 v1 v5 v39 v40 v41:V) (S:St):Rs:=qdl [0,1,5,39,40,41] (dr E0 self RL18 N (B18.r.r.r.r.l.l.r.l.l)) (mkK E0 self Tryd.f18 nk ek) n (fr 75 [(0,v0),(1,v1),(5,v5),(39,v39),(40,v40),(41,v41)]) S
theorem L18_43_eq (self:EV) (N:Nat) (nk:Ac->St->Rs) (ek:Nat->Ac->St->Rs) (n:Nat) ( v0 v1 v5 v39 v40 v41:V) (S:St):L18_43 self N nk ek (n+1) v0 v1 v5 v39 v40 v41 S =
(qa8 E0 .lss 3 false false v41 v40).bind fun t44=>
ifK t44 (
(ixP 1 v39 v41).bind fun t45=>
(ld1 t45 S).bind fun p46=>
(qbv p46.1 p46.2).bind fun p49=>
(qa8 E0 .sub 3 true false (.int .i64 9223372036854775807) v5).bind fun t51=>
(qa8 E0 .gtr 3 false false p49.1 t51).bind fun t52=>
ifK t52 (
qaa (qhm (.iface 9 (sv [115,116,114,105,110,103,115,58,32,74,111,105,110,32,111,117,116,112,117,116,32,108,101,110,103,116,104,32,111,118,101,114,102,108,111,119])) p49.2) fun t54 S54=>
(qbv p46.1 S54).bind fun p57=>
(qa8 E0 .add 3 false false v5 p57.1).bind fun t58=>
(qa8 E0 .add 3 false true v41 (.int .i64 1)).bind fun t60=>
L18_43 self N nk ek n v0 v1 t58 v39 v40 t60 p57.2) (
(qbv p46.1 p49.2).bind fun p64=>
(qa8 E0 .add 3 false false v5 p64.1).bind fun t65=>
(qa8 E0 .add 3 false true v41 (.int .i64 1)).bind fun t67=>
L18_43 self N nk ek n v0 v1 t65 v39 v40 t67 p64.2)) (
ek 1 (fr 75 [(0,v0),(1,v1),(5,v5)]) S):=by kernel_rfl
theorem R18_13_eq (self:EV) (N:Nat) (nk:Ac->St->Rs) (ek:Nat->Ac->St->Rs) ( v0 v1 v5:V) (S:St):R18_13 self N nk ek (fr 75 [(0,v0),(1,v1),(5,v5)]) S =
(lnS v0 S).bind fun p41=>
L18_43 self N (R18_14 self N (fun a s=>qba [4] a fun a=>nk a s) ek) (exB 1 (R18_14 self N (fun a s=>qba [4] a fun a=>nk a s) ek) ek) N v0 v1 v5 v0 p41.1 (.int .i64 0) p41.2:=by kernel_rfl
noncomputable def F18 (self:EV) (N:Nat) (x0 x1:V) (S:St):Rs:=qaz E0 self N Tryd.f18 B18 [x0,x1] S
theorem F18_eq (self:EV) (N:Nat) (x0 x1:V) (S:St):F18 self N x0 x1 S =
(lnS x0 S).bind fun p2=>
(qa8 E0 .eql 3 false true p2.1 (.int .i64 0)).bind fun t3=>
ifK t3 (
some (.ret (sv []),p2.2)) (
(qa8 E0 .eql 3 false true p2.1 (.int .i64 1)).bind fun t6=>
ifK t6 (
(ixP 1 x0 (.int .i64 0)).bind fun t9=>
(ld1 t9 p2.2).bind fun p10=>
some (.ret p10.1,p10.2)) (
(qbv x1 p2.2).bind fun p70=>
(qa8 E0 .gtr 3 false true p70.1 (.int .i64 0)).bind fun t71=>
ifK t71 (
(qbv x1 p70.2).bind fun p73=>
(lnS x0 p73.2).bind fun p75=>
(qa8 E0 .sub 3 false true p75.1 (.int .i64 1)).bind fun t76=>
(qa8 E0 .quo 3 true false (.int .i64 9223372036854775807) t76).bind fun t77=>
(qa8 E0 .geq 3 false false p73.1 t77).bind fun t78=>
ifK t78 (
qaa (qhm (.iface 9 (sv [115,116,114,105,110,103,115,58,32,74,111,105,110,32,111,117,116,112,117,116,32,108,101,110,103,116,104,32,111,118,101,114,102,108,111,119])) p75.2) fun t80 S80=>
(qbv x1 S80).bind fun p83=>
(lnS x0 p83.2).bind fun p85=>
(qa8 E0 .sub 3 false true p85.1 (.int .i64 1)).bind fun t86=>
(qa8 E0 .mul 3 false false p83.1 t86).bind fun t87=>
(qa8 E0 .add 3 false false (.int .i64 0) t87).bind fun t88=>
R18_13 self N (qbw E0 self Tryd.f18) qb2 (fr 75 [(0,x0),(1,x1),(5,t88)]) p85.2) (
(qbv x1 p75.2).bind fun p92=>
(lnS x0 p92.2).bind fun p94=>
(qa8 E0 .sub 3 false true p94.1 (.int .i64 1)).bind fun t95=>
(qa8 E0 .mul 3 false false p92.1 t95).bind fun t96=>
(qa8 E0 .add 3 false false (.int .i64 0) t96).bind fun t97=>
R18_13 self N (qbw E0 self Tryd.f18) qb2 (fr 75 [(0,x0),(1,x1),(5,t97)]) p94.2)) (
R18_13 self N (qbw E0 self Tryd.f18) qb2 (fr 75 [(0,x0),(1,x1),(5,(.int .i64 0))]) p70.2))):=by kernel_rfl
noncomputable def C17:Code:=Tryd.f17.body.getD .skip
noncomputable def B17:D:=(qas C17 [[],[],[],[]]).1
noncomputable def F17 (self:EV) (N:Nat) (x0 x1:V) (S:St):Rs:=qaz E0 self N Tryd.f17 B17 [x0,x1] S
theorem F17_eq (self:EV) (N:Nat) (x0 x1:V) (S:St):F17 self N x0 x1 S =
qaa (self.f 40 [x0] S) fun t3 S3=>
(qae x0).bind fun t6=>
(faP 1 false 1 t6).bind fun t7=>
(ld1 t7 S3).bind fun p8=>
(apP 5 1 1 p8.1 x1 p8.2).bind fun p10=>
(qae x0).bind fun t11=>
(faP 1 false 1 t11).bind fun t12=>
(stP 1 t12 p10.1 p10.2).bind fun p13=>
(qbv x1 p13.2).bind fun p15=>
some (.ret (.tuple [p15.1,.niliface]),p15.2):=by kernel_rfl
noncomputable def C41:Code:=Tryd.f41.body.getD .skip
noncomputable def B41:D:=(qas C41 [[],[],[0,0,1],[],[]]).1
noncomputable def RL41:List Nat:=cellsOf Tryd.f41.results.toList
noncomputable def R41_2 (self:EV) (N:Nat) (nk:Ac->St->Rs) (ek:Nat->Ac->St->Rs) (a:Ac) (S:St):Rs:=qba [0,1] a fun a=>dr E0 self RL41 N (B41.r).r (mkK E0 self Tryd.f41 nk ek) a S
theorem R41_2_eq (self:EV) (N:Nat) (nk:Ac->St->Rs) (ek:Nat->Ac->St->Rs) ( v0 v1:V) (S:St):R41_2 self N nk ek (fr 25 [(0,v0),(1,v1)]) S =
(qae v0).bind fun t4=>
(faP 1 false 1 t4).bind fun t5=>
(ld1 t5 (onS S)).bind fun p6=>
(capP p6.1 (onS p6.2)).bind fun p7=>
(qae v0).bind fun t9=>
(faP 1 false 1 t9).bind fun t10=>
(ld1 t10 (onS p7.2)).bind fun p11=>
(lnS p11.1 (onS p11.2)).bind fun p12=>
(qa8 E0 .sub 3 false false p7.1 p12.1).bind fun t13=>
(qa8 E0 .lss 3 false false t13 v1).bind fun t15=>
endP [(3,[8,9]),(4,[8,9])] S [[],[],[],p6.2.log,p7.2.log,[],[],[],p11.2.log,p12.2.log,[],[],[]] (onS p12.2) fun S16=>
ifK t15 (
qaa (self.f 62 [v0,v1] S16) fun t19 S19=>
nk (fr 25 []) S19) (
nk (fr 25 []) S16):=by kernel_rfl
noncomputable def F41 (self:EV) (N:Nat) (x0 x1:V) (S:St):Rs:=qaz E0 self N Tryd.f41 B41 [x0,x1] S
theorem F41_eq (self:EV) (N:Nat) (x0 x1:V) (S:St):F41 self N x0 x1 S =
qaa (self.f 40 [x0] S) fun t1 S1=>
(qa8 E0 .lss 3 false true x1 (.int .i64 0)).bind fun t21=>
ifK t21 (
qaa (qhm (.iface 9 (sv [115,116,114,105,110,103,115,46,66,117,105,108,100,101,114,46,71,114,111,119,58,32,110,101,103,97,116,105,118,101,32,99,111,117,110,116])) S1) fun t23 S23=>
R41_2 self N (qbw E0 self Tryd.f41) qb2 (fr 25 [(0,x0),(1,x1)]) S23) (
R41_2 self N (qbw E0 self Tryd.f41) qb2 (fr 25 [(0,x0),(1,x1)]) S1):=by kernel_rfl
noncomputable def C42:Code:=Tryd.f42.body.getD .skip
noncomputable def B42:D:=(qas C42 [[],[],[],[]]).1
noncomputable def F42 (self:EV) (N:Nat) (x0 x1:V) (S:St):Rs:=qaz E0 self N Tryd.f42 B42 [x0,x1] S
theorem F42_eq (self:EV) (N:Nat) (x0 x1:V) (S:St):F42 self N x0 x1 S =
qaa (self.f 40 [x0] S) fun t2 S2=>
(qae x0).bind fun t5=>
(faP 1 false 1 t5).bind fun t6=>
(ld1 t6 S2).bind fun p7=>
(bsP 5 1 1 (Ev.one (.int .u8 0)) [(0,x1)] p7.2).bind fun p9=>
(apP 5 1 1 p7.1 p9.1 p9.2).bind fun p10=>
(qae x0).bind fun t11=>
(faP 1 false 1 t11).bind fun t12=>
(stP 1 t12 p10.1 p10.2).bind fun p13=>
some (.ret .niliface,p13.2):=by kernel_rfl
noncomputable def C62:Code:=Tryd.f62.body.getD .skip
noncomputable def B62:D:=(qas C62 [[],[]]).1
noncomputable def F62 (self:EV) (N:Nat) (x0 x1:V) (S:St):Rs:=qaz E0 self N Tryd.f62 B62 [x0,x1] S
theorem F62_eq (self:EV) (N:Nat) (x0 x1:V) (S:St):F62 self N x0 x1 S =
(qae x0).bind fun t1=>
(faP 1 false 1 t1).bind fun t2=>
(ld1 t2 (onS S)).bind fun p3=>
(capP p3.1 (onS p3.2)).bind fun p4=>
(qa8 E0 .mul 3 true false (.int .i64 2) p4.1).bind fun t5=>
(qa8 E0 .add 3 false false t5 x1).bind fun t7=>
qg0 (qan E0 (B62.l).ops) S 8 [[],[],[],p3.2.log,p4.2.log,[],[],[]] (qch E0 self (.fn (.func 80) [] []) [t7] (onS p4.2)) fun t8 S8=>
(qae x0).bind fun t10=>
(faP 1 false 1 t10).bind fun t11=>
(ld1 t11 (onS S8)).bind fun p12=>
(lnS p12.1 (onS p12.2)).bind fun p13=>
(qbf E0 53 t8 none (some p13.1) none (onS p13.2)).bind fun p14=>
endP [(3,[12,13]),(4,[12,13]),(8,[12,13])] S [[],[],[],p3.2.log,p4.2.log,[],[],[],S8.log,[],[],[],p12.2.log,p13.2.log,p14.2.log,[]] (onS p14.2) fun S16=>
(qae x0).bind fun t19=>
(faP 1 false 1 t19).bind fun t20=>
(ld1 t20 S16).bind fun p21=>
(cpP 1 p14.1 p21.1 p21.2).bind fun p22=>
(qae x0).bind fun t25=>
(faP 1 false 1 t25).bind fun t26=>
(stP 1 t26 p14.1 p22.2).bind fun p27=>
some (.ret (.tuple []),p27.2):=by kernel_rfl
noncomputable def C19:Code:=Tryd.f19.body.getD .skip
noncomputable def B19:D:=(qas C19 [[],[],[],[],[],[],[0,3,8,9],[],[3],[],[],[],[],[0,3],[2],[]]).1
noncomputable def RL19:List Nat:=cellsOf Tryd.f19.results.toList
noncomputable def R19_5 (self:EV) (N:Nat) (nk:Ac->St->Rs) (ek:Nat->Ac->St->Rs) (a:Ac) (S:St):Rs:=qba [3] a fun a=>dr E0 self RL19 N (B19.r.r.r).r (mkK E0 self Tryd.f19 nk ek) a S
theorem R19_5_eq (self:EV) (N:Nat) (nk:Ac->St->Rs) (ek:Nat->Ac->St->Rs) ( v3:V) (S:St):R19_5 self N nk ek (fr 26 [(3,v3)]) S =
qaa (self.f 20 [v3] S) fun t6 S6=>
some (.ret t6,S6):=by kernel_rfl
noncomputable def L19_11 (self:EV) (N:Nat) (nk:Ac->St->Rs) (ek:Nat->Ac->St->Rs) (n:Nat) ( v0 v3 v8 v9:V) (S:St):Rs:=qdl [0,3,8,9] (dr E0 self RL19 N (B19.r.r.r.l.r.l.l)) (mkK E0 self Tryd.f19 nk ek) n (fr 26 [(0,v0),(3,v3),(8,v8),(9,v9)]) S
theorem L19_11_eq (self:EV) (N:Nat) (nk:Ac->St->Rs) (ek:Nat->Ac->St->Rs) (n:Nat) ( v0 v3 v8 v9:V) (S:St):L19_11 self N nk ek (n+1) v0 v3 v8 v9 S =
(qa8 E0 .lss 3 false false v9 v8).bind fun t12=>
ifK t12 (
(ixS v0 v9).bind fun t17=>
(qa8 E0 .shr 5 false true t17 (.int .u64 4)).bind fun t18=>
(ixS (sv [48,49,50,51,52,53,54,55,56,57,97,98,99,100,101,102]) t18).bind fun t19=>
qaa (self.f 42 [v3,t19] S) fun t20 S20=>
(ixS v0 v9).bind fun t23=>
(qa8 E0 .and 5 false true t23 (.int .u8 15)).bind fun t24=>
(ixS (sv [48,49,50,51,52,53,54,55,56,57,97,98,99,100,101,102]) t24).bind fun t25=>
qaa (self.f 42 [v3,t25] S20) fun t26 S26=>
(qa8 E0 .add 3 false true v9 (.int .i64 1)).bind fun t27=>
L19_11 self N nk ek n v0 v3 v8 t27 S26) (
ek 0 (fr 26 [(3,v3)]) S):=by kernel_rfl
noncomputable def F19 (self:EV) (N:Nat) (x0:V) (S:St):Rs:=qaz E0 self N Tryd.f19 B19 [x0] S
theorem F19_eq (self:EV) (N:Nat) (x0:V) (S:St):F19 self N x0 S =
(qa8 E0 .eql 9 false true x0 (sv [])).bind fun t2=>
ifK t2 (
some (.ret (sv [45]),S)) (
(some (nwP 55 2 (Tr.ofListFrom .nil [.nilptr,.nilslice] 0) S)).bind fun p4=>
(qbv x0 p4.2).bind fun p9=>
L19_11 self N (R19_5 self N (qbw E0 self Tryd.f19) qb2) (exB 0 (R19_5 self N (qbw E0 self Tryd.f19) qb2) qb2) N x0 p4.1 p9.1 (.int .i64 0) p9.2):=by kernel_rfl
end
end Go.Proofs.YtpgegoeghaplkaaDoor.W
