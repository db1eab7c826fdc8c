/-
  WHAT THE FUNCTIONS COME TO: each is read by the evaluator,printed,and told as a function of data,part 12 of 15 (no condition).
-/
import Derived.Test.YtpgegoeghaplkaaGreatDoorW11
import Derived.Test.YtpgegoeghaplkaaGreatDoorProg
import Derived.KernelRfl
noncomputable section
namespace Go.Proofs.YtpgegoeghaplkaaGreatDoor.W
open Go.Proofs.YtpgegoeghaplkaaGreatDoor.Ev
set_option maxRecDepth 100000
noncomputable section
def C58:Code:=Tryz.f58.body.getD .skip
def B58:D:=(qak C58 [[],[],[],[],[],[0,3,4,5,6],[],[0,4,5],[],[],[],[],[0,0,4,5],[2],[],[],[4,5,7,8],[],[4],[],[],[0,4],[2],[],[],[4,9,10],[],[9],[],[],[0,9],[2],[]]).1
def RL58:List Nat:=cellsOf Tryz.f58.results.toList
def R58_5 (self:EV) (N:Nat) (nk:Ac->St->Rs) (ek:Nat->Ac->St->Rs) (a:Ac) (S:St):Rs:=qa7 [0,4,5] a fun a=>dr E0 self RL58 N (B58.r.r.r.r).r (mkK E0 self Tryz.f58 nk ek) a S
def R58_9 (self:EV) (N:Nat) (nk:Ac->St->Rs) (ek:Nat->Ac->St->Rs) (a:Ac) (S:St):Rs:=qa7 [4] a fun a=>dr E0 self RL58 N (B58.r.r.r.r.r.l.r).r (mkK E0 self Tryz.f58 nk ek) a S
def R58_12 (self:EV) (N:Nat) (nk:Ac->St->Rs) (ek:Nat->Ac->St->Rs) (a:Ac) (S:St):Rs:=qa7 [9] a fun a=>dr E0 self RL58 N (B58.r.r.r.r.r.l.r.r.l.r).r (mkK E0 self Tryz.f58 nk ek) a S
theorem R58_12_eq (self:EV) (N:Nat) (nk:Ac->St->Rs) (ek:Nat->Ac->St->Rs) ( v9:V) (S:St):R58_12 self N nk ek (fr 77 [(9,v9)]) S =
(qbe E0 43 9 v9 S).bind fun p14=>
some (.ret p14.1,p14.2):=by kernel_rfl
def L58_17 (self:EV) (N:Nat) (nk:Ac->St->Rs) (ek:Nat->Ac->St->Rs) (n:Nat) ( v4 v9 v10:V) (S:St):Rs:=qb8 [4,9,10] (dr E0 self RL58 N (B58.r.r.r.r.r.l.r.r.l.r.l.r.l.l)) (mkK E0 self Tryz.f58 nk ek) n (fr 77 [(4,v4),(9,v9),(10,v10)]) S
theorem L58_17_eq (self:EV) (N:Nat) (nk:Ac->St->Rs) (ek:Nat->Ac->St->Rs) (n:Nat) ( v4 v9 v10:V) (S:St):L58_17 self N nk ek (n+1) v4 v9 v10 S =
(qa4 E0 .lss 3 false true v10 (.int .i64 8)).bind fun t19=>
ifK t19 (
(ixA 8 1 false 1 v4 v10).bind fun t22=>
(ld1 t22 (onS S)).bind fun p23=>
(qa4 E0 .shr 86 false true p23.1 (.int .u64 24)).bind fun t24=>
(cvI .u8 t24 (onS p23.2)).bind fun p25=>
(ixA 8 1 false 1 v4 v10).bind fun t27=>
(ld1 t27 (onS p25.2)).bind fun p28=>
(qa4 E0 .shr 86 false true p28.1 (.int .u64 16)).bind fun t29=>
(cvI .u8 t29 (onS p28.2)).bind fun p30=>
(ixA 8 1 false 1 v4 v10).bind fun t32=>
(ld1 t32 (onS p30.2)).bind fun p33=>
(qa4 E0 .shr 86 false true p33.1 (.int .u64 8)).bind fun t34=>
(cvI .u8 t34 (onS p33.2)).bind fun p35=>
(ixA 8 1 false 1 v4 v10).bind fun t37=>
(ld1 t37 (onS p35.2)).bind fun p38=>
(cvI .u8 p38.1 (onS p38.2)).bind fun p39=>
(bsP 5 1 4 (Ev.one (.int .u8 0)) [(0,p25.1),(1,p30.1),(2,p35.1),(3,p39.1)] (onS p39.2)).bind fun p40=>
(apP 5 1 1 v9 p40.1 (onS p40.2)).bind fun p41=>
qgb [(3,[8,10,13,15,18,19]),(5,[8,10,13,15,18,19]),(8,[13,15,18,19]),(10,[13,15,18,19]),(13,[18,19]),(15,[18,19])] S [[],[],[],p23.2.log,[],p25.2.log,[],[],p28.2.log,[],p30.2.log,[],[],p33.2.log,[],p35.2.log,[],[],p38.2.log,p39.2.log,p40.2.log,p41.2.log,[]] (onS p41.2) fun S43=>
(qa4 E0 .add 3 false true v10 (.int .i64 1)).bind fun t45=>
L58_17 self N nk ek n v4 p41.1 t45 S43) (
ek 4 (fr 77 [(9,v9)]) S):=by kernel_rfl
theorem R58_9_eq (self:EV) (N:Nat) (nk:Ac->St->Rs) (ek:Nat->Ac->St->Rs) ( v4:V) (S:St):R58_9 self N nk ek (fr 77 [(4,v4)]) S =
(qe1 E0 43 (.int .i64 0) (.int .i64 32) S).bind fun p10=>
L58_17 self N (R58_12 self N (fun a s=>qa7 [2] a fun a=>nk a s) ek) (exB 4 (R58_12 self N (fun a s=>qa7 [2] a fun a=>nk a s) ek) ek) N v4 p10.1 (.int .i64 0) p10.2:=by kernel_rfl
def L58_48 (self:EV) (N:Nat) (nk:Ac->St->Rs) (ek:Nat->Ac->St->Rs) (n:Nat) ( v4 v5 v7 v8:V) (S:St):Rs:=qb8 [4,5,7,8] (dr E0 self RL58 N (B58.r.r.r.r.r.l.r.l.r.l.l)) (mkK E0 self Tryz.f58 nk ek) n (fr 77 [(4,v4),(5,v5),(7,v7),(8,v8)]) S
theorem L58_48_eq (self:EV) (N:Nat) (nk:Ac->St->Rs) (ek:Nat->Ac->St->Rs) (n:Nat) ( v4 v5 v7 v8:V) (S:St):L58_48 self N nk ek (n+1) v4 v5 v7 v8 S =
(qbr v7 S).bind fun p51=>
(qa4 E0 .lss 3 false false v8 p51.1).bind fun t52=>
ifK t52 (
(ldA 8 v4 (onS p51.2)).bind fun p53=>
(qa4 E0 .add 3 false true v8 (.int .i64 64)).bind fun t57=>
(qb6 E0 9 v7 (some v8) (some t57) none (onS p53.2)).bind fun p58=>
(ldA 64 v5 (onS p58.2)).bind fun p59=>
qcy (qaj E0 (B58.r.r.r.r.r.l.r.l.r.l.l.r.l.l).ops) p51.2 7 [p53.2.log,[],[],[],[],p58.2.log,p59.2.log] (self.f 88 [p53.1,p58.1,p59.1] (onS p59.2)) fun t60 S60=>
(stP 8 v4 t60 (onS S60)).bind fun p61=>
qgb [(0,[5,6]),(5,[6])] p51.2 [p53.2.log,[],[],[],[],p58.2.log,p59.2.log,S60.log,p61.2.log] p61.2 fun S62=>
(qa4 E0 .add 3 false true v8 (.int .i64 64)).bind fun t64=>
L58_48 self N nk ek n v4 v5 v7 t64 S62) (
ek 2 (fr 77 [(4,v4)]) p51.2):=by kernel_rfl
theorem R58_5_eq (self:EV) (N:Nat) (nk:Ac->St->Rs) (ek:Nat->Ac->St->Rs) ( v0 v4 v5:V) (S:St):R58_5 self N nk ek (fr 77 [(0,v0),(4,v4),(5,v5)]) S =
qaf (self.f 87 [v0] S) fun t7 S7=>
L58_48 self N (R58_9 self N (fun a s=>qa7 [2] a fun a=>nk a s) ek) (exB 2 (R58_9 self N (fun a s=>qa7 [2] a fun a=>nk a s) ek) ek) N v4 v5 t7 (.int .i64 0) S7:=by kernel_rfl
def L58_67 (self:EV) (N:Nat) (nk:Ac->St->Rs) (ek:Nat->Ac->St->Rs) (n:Nat) ( v0 v3 v4 v5 v6:V) (S:St):Rs:=qb8 [0,3,4,5,6] (dr E0 self RL58 N (B58.r.r.r.r.l.r.l.l)) (mkK E0 self Tryz.f58 nk ek) n (fr 77 [(0,v0),(3,v3),(4,v4),(5,v5),(6,v6)]) S
theorem L58_67_eq (self:EV) (N:Nat) (nk:Ac->St->Rs) (ek:Nat->Ac->St->Rs) (n:Nat) ( v0 v3 v4 v5 v6:V) (S:St):L58_67 self N nk ek (n+1) v0 v3 v4 v5 v6 S =
(qa4 E0 .lss 3 false true v6 (.int .i64 64)).bind fun t69=>
ifK t69 (
(ixP 1 v3 v6).bind fun t73=>
(ld1 t73 S).bind fun p74=>
qaf (self.f 85 [p74.1] p74.2) fun t75 S75=>
(ixA 64 1 false 1 v5 v6).bind fun t76=>
(stP 1 t76 t75 S75).bind fun p77=>
(qa4 E0 .lss 3 false true v6 (.int .i64 8)).bind fun t79=>
ifK t79 (
(ixP 1 v3 v6).bind fun t83=>
(ld1 t83 p77.2).bind fun p84=>
qaf (self.f 86 [p84.1] p84.2) fun t85 S85=>
(ixA 8 1 false 1 v4 v6).bind fun t86=>
(stP 1 t86 t85 S85).bind fun p87=>
(qa4 E0 .add 3 false true v6 (.int .i64 1)).bind fun t89=>
L58_67 self N nk ek n v0 v3 v4 v5 t89 p87.2) (
(qa4 E0 .add 3 false true v6 (.int .i64 1)).bind fun t92=>
L58_67 self N nk ek n v0 v3 v4 v5 t92 p77.2)) (
ek 0 (fr 77 [(0,v0),(4,v4),(5,v5)]) S):=by kernel_rfl
def F58 (self:EV) (N:Nat) (x0:V) (S:St):Rs:=qaq E0 self N Tryz.f58 B58 [x0] S
theorem F58_eq (self:EV) (N:Nat) (x0:V) (S:St):F58 self N x0 S =
qaf (self.f 84 [(.int .i64 64)] S) fun t1 S1=>
(some (nwP 87 8 (Tr.ofListFrom .nil [(.int .u32 0),(.int .u32 0),(.int .u32 0),(.int .u32 0),(.int .u32 0),(.int .u32 0),(.int .u32 0),(.int .u32 0)] 0) S1)).bind fun p3=>
(some (nwP 89 64 (Tr.ofListFrom .nil z64q 0) p3.2)).bind fun p4=>
L58_67 self N (R58_5 self N (qat E0 self Tryz.f58) qad) (exB 0 (R58_5 self N (qat E0 self Tryz.f58) qad) qad) N x0 t1 p3.1 p4.1 (.int .i64 0) p4.2:=by kernel_rfl
def C87:Code:=Tryz.f87.body.getD .skip
def B87:D:=(qak C87 [[],[],[],[0,3],[],[0,3],[],[0,0,3],[2],[],[0,3,4],[],[0],[],[],[0,0],[2],[]]).1
def RL87:List Nat:=cellsOf Tryz.f87.results.toList
def R87_9 (self:EV) (N:Nat) (nk:Ac->St->Rs) (ek:Nat->Ac->St->Rs) (a:Ac) (S:St):Rs:=qa7 [0,3] a fun a=>dr E0 self RL87 N (B87.r.r.r).r (mkK E0 self Tryz.f87 nk ek) a S
def R87_10 (self:EV) (N:Nat) (nk:Ac->St->Rs) (ek:Nat->Ac->St->Rs) (a:Ac) (S:St):Rs:=qa7 [0] a fun a=>dr E0 self RL87 N (B87.r.r.r.r.l).r (mkK E0 self Tryz.f87 nk ek) a S
theorem R87_10_eq (self:EV) (N:Nat) (nk:Ac->St->Rs) (ek:Nat->Ac->St->Rs) ( v0:V) (S:St):R87_10 self N nk ek (fr 31 [(0,v0)]) S =
some (.ret v0,S):=by kernel_rfl
def L87_14 (self:EV) (N:Nat) (nk:Ac->St->Rs) (ek:Nat->Ac->St->Rs) (n:Nat) ( v0 v3 v4:V) (S:St):Rs:=qb8 [0,3,4] (dr E0 self RL87 N (B87.r.r.r.r.l.l.r.l.l)) (mkK E0 self Tryz.f87 nk ek) n (fr 31 [(0,v0),(3,v3),(4,v4)]) S
theorem L87_14_eq (self:EV) (N:Nat) (nk:Ac->St->Rs) (ek:Nat->Ac->St->Rs) (n:Nat) ( v0 v3 v4:V) (S:St):L87_14 self N nk ek (n+1) v0 v3 v4 S =
(qa4 E0 .geq 3 false true v4 (.int .i64 0)).bind fun t16=>
ifK t16 (
(qa4 E0 .mul 3 true false (.int .i64 8) v4).bind fun t20=>
(qa4 E0 .shr 108 false false v3 t20).bind fun t21=>
(cvI .u8 t21 S).bind fun p22=>
(bsP 5 1 1 (Ev.one (.int .u8 0)) [(0,p22.1)] p22.2).bind fun p23=>
(qbe E0 43 9 p23.1 p23.2).bind fun p24=>
(qa4 E0 .add 9 false false v0 p24.1).bind fun t25=>
(qa4 E0 .sub 3 false true v4 (.int .i64 1)).bind fun t28=>
L87_14 self N nk ek n t25 v3 t28 p24.2) (
ek 2 (fr 31 [(0,v0)]) S):=by kernel_rfl
theorem R87_9_eq (self:EV) (N:Nat) (nk:Ac->St->Rs) (ek:Nat->Ac->St->Rs) ( v0 v3:V) (S:St):R87_9 self N nk ek (fr 31 [(0,v0),(3,v3)]) S =
L87_14 self N (R87_10 self N (fun a s=>qa7 [2] a fun a=>nk a s) ek) (exB 2 (R87_10 self N (fun a s=>qa7 [2] a fun a=>nk a s) ek) ek) N v0 v3 (.int .i64 7) S:=by kernel_rfl
def L87_30 (self:EV) (N:Nat) (nk:Ac->St->Rs) (ek:Nat->Ac->St->Rs) (n:Nat) ( v0 v3:V) (S:St):Rs:=qb8 [0,3] (dr E0 self RL87 N (B87.r.r.r.l.l.l)) (mkK E0 self Tryz.f87 nk ek) n (fr 31 [(0,v0),(3,v3)]) S
theorem L87_30_eq (self:EV) (N:Nat) (nk:Ac->St->Rs) (ek:Nat->Ac->St->Rs) (n:Nat) ( v0 v3:V) (S:St):L87_30 self N nk ek (n+1) v0 v3 S =
(qbr v0 S).bind fun p32=>
(qa4 E0 .rem 3 false true p32.1 (.int .i64 64)).bind fun t33=>
(qa4 E0 .neq 3 false true t33 (.int .i64 56)).bind fun t34=>
ifK t34 (
(qa4 E0 .add 9 false true v0 (sv [0])).bind fun t36=>
L87_30 self N nk ek n t36 v3 p32.2) (
ek 0 (fr 31 [(0,v0),(3,v3)]) p32.2):=by kernel_rfl
def F87 (self:EV) (N:Nat) (x0:V) (S:St):Rs:=qaq E0 self N Tryz.f87 B87 [x0] S
theorem F87_eq (self:EV) (N:Nat) (x0:V) (S:St):F87 self N x0 S =
(qbr x0 S).bind fun p2=>
(cvI .u64 p2.1 p2.2).bind fun p3=>
(qa4 E0 .mul 108 false true p3.1 (.int .u64 8)).bind fun t4=>
(qa4 E0 .add 9 false true x0 (sv [128])).bind fun t7=>
L87_30 self N (R87_9 self N (qat E0 self Tryz.f87) qad) (exB 0 (R87_9 self N (qat E0 self Tryz.f87) qad) qad) N t7 t4 p3.2:=by kernel_rfl
def C88:Code:=Tryz.f88.body.getD .skip
def B88:D:=(qak C88 [[],[],[],[1,3,5,6,7,8],[],[3,5,6,7],[],[],[],[1,3,5,6,7,8],[],[],[],[0,3,5,6,7],[6],[],[],[3,5,6,7,11,12],[],[3,6,11],[],[],[],[],[],[0,3,6,11],[6],[],[3,6,11,17],[],[3,6],[],[],[0,3,6],[6],[]]).1
def RL88:List Nat:=cellsOf Tryz.f88.results.toList
def R88_4 (self:EV) (N:Nat) (nk:Ac->St->Rs) (ek:Nat->Ac->St->Rs) (a:Ac) (S:St):Rs:=qa7 [3,5,6,7] a fun a=>dr E0 self RL88 N (B88.r.r).r (mkK E0 self Tryz.f88 nk ek) a S
def R88_8 (self:EV) (N:Nat) (nk:Ac->St->Rs) (ek:Nat->Ac->St->Rs) (a:Ac) (S:St):Rs:=qa7 [3,6,11] a fun a=>dr E0 self RL88 N (B88.r.r.r.l.r).r (mkK E0 self Tryz.f88 nk ek) a S
def R88_9 (self:EV) (N:Nat) (nk:Ac->St->Rs) (ek:Nat->Ac->St->Rs) (a:Ac) (S:St):Rs:=qa7 [3,6] a fun a=>dr E0 self RL88 N (B88.r.r.r.l.r.r.l).r (mkK E0 self Tryz.f88 nk ek) a S
theorem R88_9_eq (self:EV) (N:Nat) (nk:Ac->St->Rs) (ek:Nat->Ac->St->Rs) ( v3 v6:V) (S:St):R88_9 self N nk ek (fr 189 [(3,v3),(6,v6)]) S =
(ldA 8 v3 S).bind fun p10=>
(stP 8 v6 p10.1 p10.2).bind fun p11=>
(ldrA 8 v6 p11.2).bind fun p12=>
some (.ret p12.1,p12.2):=by kernel_rfl
def L88_14 (self:EV) (N:Nat) (nk:Ac->St->Rs) (ek:Nat->Ac->St->Rs) (n:Nat) ( v3 v6 v11 v17:V) (S:St):Rs:=qb8 [3,6,11,17] (dr E0 self RL88 N (B88.r.r.r.l.r.r.l.l.r.l.l)) (mkK E0 self Tryz.f88 nk ek) n (fr 189 [(3,v3),(6,v6),(11,v11),(17,v17)]) S
theorem L88_14_eq (self:EV) (N:Nat) (nk:Ac->St->Rs) (ek:Nat->Ac->St->Rs) (n:Nat) ( v3 v6 v11 v17:V) (S:St):L88_14 self N nk ek (n+1) v3 v6 v11 v17 S =
(qa4 E0 .lss 3 false true v17 (.int .i64 8)).bind fun t16=>
ifK t16 (
(ixA 8 1 false 1 v3 v17).bind fun t19=>
(ld1 t19 (onS S)).bind fun p20=>
(ixA 8 1 false 1 v11 v17).bind fun t22=>
(ld1 t22 (onS p20.2)).bind fun p23=>
(qa4 E0 .add 86 false false p20.1 p23.1).bind fun t24=>
(ixA 8 1 false 1 v3 v17).bind fun t25=>
(stP 1 t25 t24 (onS p23.2)).bind fun p26=>
qgb [(3,[6])] S [[],[],[],p20.2.log,[],[],p23.2.log,[],[],p26.2.log] p26.2 fun S27=>
(qa4 E0 .add 3 false true v17 (.int .i64 1)).bind fun t29=>
L88_14 self N nk ek n v3 v6 v11 t29 S27) (
ek 4 (fr 189 [(3,v3),(6,v6)]) S):=by kernel_rfl
theorem R88_8_eq (self:EV) (N:Nat) (nk:Ac->St->Rs) (ek:Nat->Ac->St->Rs) ( v3 v6 v11:V) (S:St):R88_8 self N nk ek (fr 189 [(3,v3),(6,v6),(11,v11)]) S =
L88_14 self N (R88_9 self N (fun a s=>qa7 [6] a fun a=>nk a s) ek) (exB 4 (R88_9 self N (fun a s=>qa7 [6] a fun a=>nk a s) ek) ek) N v3 v6 v11 (.int .i64 0) S:=by kernel_rfl
def L88_32 (self:EV) (N:Nat) (nk:Ac->St->Rs) (ek:Nat->Ac->St->Rs) (n:Nat) ( v3 v5 v6 v7 v11 v12:V) (S:St):Rs:=qb8 [3,5,6,7,11,12] (dr E0 self RL88 N (B88.r.r.r.l.r.l.r.l.l)) (mkK E0 self Tryz.f88 nk ek) n (fr 189 [(3,v3),(5,v5),(6,v6),(7,v7),(11,v11),(12,v12)]) S
theorem L88_32_eq (self:EV) (N:Nat) (nk:Ac->St->Rs) (ek:Nat->Ac->St->Rs) (n:Nat) ( v3 v5 v6 v7 v11 v12:V) (S:St):L88_32 self N nk ek (n+1) v3 v5 v6 v7 v11 v12 S =
(qa4 E0 .lss 3 false true v12 (.int .i64 64)).bind fun t34=>
ifK t34 (
(ixA 8 1 false 1 v11 (.int .i64 4)).bind fun t35=>
(ld1 t35 (onS S)).bind fun p36=>
(ixA 8 1 false 1 v11 (.int .i64 0)).bind fun t37=>
(ld1 t37 (onS p36.2)).bind fun p38=>
qgb [(1,[3])] S [[],p36.2.log,[],p38.2.log,[],[]] (onS p38.2) fun S41=>
(ixA 8 1 false 1 v11 (.int .i64 7)).bind fun t42=>
(ld1 t42 (onS S41)).bind fun p43=>
qcy (qaj E0 (B88.r.r.r.l.r.l.r.l.l.r.l.l.r.l).ops) S41 3 [[],p43.2.log,[]] (self.f 106 [p36.1,(.int .i64 6)] (onS p43.2)) fun t45 S45=>
qcy (qaj E0 (B88.r.r.r.l.r.l.r.l.l.r.l.l.r.l).ops) S41 5 [[],p43.2.log,[],S45.log,[]] (self.f 106 [p36.1,(.int .i64 11)] (onS S45)) fun t47 S47=>
(qa4 E0 .xor 86 false false t45 t47).bind fun t48=>
qcy (qaj E0 (B88.r.r.r.l.r.l.r.l.l.r.l.l.r.l).ops) S41 8 [[],p43.2.log,[],S45.log,[],S47.log,[],[]] (self.f 106 [p36.1,(.int .i64 25)] (onS S47)) fun t50 S50=>
(qa4 E0 .xor 86 false false t48 t50).bind fun t51=>
(qa4 E0 .add 86 false false p43.1 t51).bind fun t52=>
(ixA 8 1 false 1 v11 (.int .i64 5)).bind fun t54=>
(ld1 t54 (onS S50)).bind fun p55=>
(qa4 E0 .and 86 false false p36.1 p55.1).bind fun t56=>
(unV .xor p36.1).bind fun t58=>
(ixA 8 1 false 1 v11 (.int .i64 6)).bind fun t59=>
(ld1 t59 (onS p55.2)).bind fun p60=>
(qa4 E0 .and 86 false false t58 p60.1).bind fun t61=>
(qa4 E0 .xor 86 false false t56 t61).bind fun t62=>
(qa4 E0 .add 86 false false t52 t62).bind fun t63=>
(ixA 64 1 false 1 v5 v12).bind fun t65=>
(ld1 t65 (onS p60.2)).bind fun p66=>
(qa4 E0 .add 86 false false t63 p66.1).bind fun t67=>
(ixA 64 1 false 1 v7 v12).bind fun t69=>
(ld1 t69 (onS p66.2)).bind fun p70=>
(qa4 E0 .add 86 false false t67 p70.1).bind fun t71=>
qgb [(1,[3,5,8,13,18,24,28]),(3,[13,18,24,28]),(5,[13,18,24,28]),(8,[13,18,24,28]),(13,[18,24,28]),(18,[24,28]),(24,[28])] S41 [[],p43.2.log,[],S45.log,[],S47.log,[],[],S50.log,[],[],[],[],p55.2.log,[],[],[],[],p60.2.log,[],[],[],[],[],p66.2.log,[],[],[],p70.2.log,[],[]] (onS p70.2) fun S73=>
qcy (qaj E0 (B88.r.r.r.l.r.l.r.l.l.r.l.l.r.r.l).ops) S73 1 [[]] (self.f 106 [p38.1,(.int .i64 2)] (onS S73)) fun t75 S75=>
qcy (qaj E0 (B88.r.r.r.l.r.l.r.l.l.r.l.l.r.r.l).ops) S73 3 [[],S75.log,[]] (self.f 106 [p38.1,(.int .i64 13)] (onS S75)) fun t77 S77=>
(qa4 E0 .xor 86 false false t75 t77).bind fun t78=>
qcy (qaj E0 (B88.r.r.r.l.r.l.r.l.l.r.l.l.r.r.l).ops) S73 6 [[],S75.log,[],S77.log,[],[]] (self.f 106 [p38.1,(.int .i64 22)] (onS S77)) fun t80 S80=>
(qa4 E0 .xor 86 false false t78 t80).bind fun t81=>
(ixA 8 1 false 1 v11 (.int .i64 1)).bind fun t83=>
(ld1 t83 (onS S80)).bind fun p84=>
(qa4 E0 .and 86 false false p38.1 p84.1).bind fun t85=>
(ixA 8 1 false 1 v11 (.int .i64 2)).bind fun t87=>
(ld1 t87 (onS p84.2)).bind fun p88=>
(qa4 E0 .and 86 false false p38.1 p88.1).bind fun t89=>
(qa4 E0 .xor 86 false false t85 t89).bind fun t90=>
(ixA 8 1 false 1 v11 (.int .i64 1)).bind fun t91=>
(ld1 t91 (onS p88.2)).bind fun p92=>
(ixA 8 1 false 1 v11 (.int .i64 2)).bind fun t93=>
(ld1 t93 (onS p92.2)).bind fun p94=>
(qa4 E0 .and 86 false false p92.1 p94.1).bind fun t95=>
(qa4 E0 .xor 86 false false t90 t95).bind fun t96=>
(qa4 E0 .add 86 false false t81 t96).bind fun t97=>
qgb [(1,[10,14,18,20]),(3,[10,14,18,20]),(6,[10,14,18,20]),(10,[14,18,20]),(14,[18,20]),(18,[20])] S73 [[],S75.log,[],S77.log,[],[],S80.log,[],[],[],p84.2.log,[],[],[],p88.2.log,[],[],[],p92.2.log,[],p94.2.log,[],[],[],[]] (onS p94.2) fun S99=>
(qa4 E0 .add 86 false false t71 t97).bind fun t102=>
(ixA 8 1 false 1 v11 (.int .i64 0)).bind fun t103=>
(ld1 t103 S99).bind fun p104=>
(ixA 8 1 false 1 v11 (.int .i64 1)).bind fun t105=>
(ld1 t105 p104.2).bind fun p106=>
(ixA 8 1 false 1 v11 (.int .i64 2)).bind fun t107=>
(ld1 t107 p106.2).bind fun p108=>
(ixA 8 1 false 1 v11 (.int .i64 3)).bind fun t109=>
(ld1 t109 p108.2).bind fun p110=>
(qa4 E0 .add 86 false false p110.1 t71).bind fun t112=>
(ixA 8 1 false 1 v11 (.int .i64 4)).bind fun t113=>
(ld1 t113 p110.2).bind fun p114=>
(ixA 8 1 false 1 v11 (.int .i64 5)).bind fun t115=>
(ld1 t115 p114.2).bind fun p116=>
(ixA 8 1 false 1 v11 (.int .i64 6)).bind fun t117=>
(ld1 t117 p116.2).bind fun p118=>
(qfj E0 87 [(0,t102),(1,p104.1),(2,p106.1),(3,p108.1),(4,t112),(5,p114.1),(6,p116.1),(7,p118.1)]).bind fun t119=>
(stP 8 v11 t119 p118.2).bind fun p120=>
(qa4 E0 .add 3 false true v12 (.int .i64 1)).bind fun t122=>
L88_32 self N nk ek n v3 v5 v6 v7 v11 t122 p120.2) (
ek 2 (fr 189 [(3,v3),(6,v6),(11,v11)]) S):=by kernel_rfl
theorem R88_4_eq (self:EV) (N:Nat) (nk:Ac->St->Rs) (ek:Nat->Ac->St->Rs) ( v3 v5 v6 v7:V) (S:St):R88_4 self N nk ek (fr 189 [(3,v3),(5,v5),(6,v6),(7,v7)]) S =
(ldA 8 v3 S).bind fun p5=>
(some (nwP 87 8 (Tr.ofListFrom .nil [(.int .u32 0),(.int .u32 0),(.int .u32 0),(.int .u32 0),(.int .u32 0),(.int .u32 0),(.int .u32 0),(.int .u32 0)] 0) p5.2)).bind fun p6=>
(stP 8 p6.1 p5.1 p6.2).bind fun p7=>
L88_32 self N (R88_8 self N (fun a s=>qa7 [6] a fun a=>nk a s) ek) (exB 2 (R88_8 self N (fun a s=>qa7 [6] a fun a=>nk a s) ek) ek) N v3 v5 v6 v7 p6.1 (.int .i64 0) p7.2:=by kernel_rfl
def qfu (self:EV) (N:Nat) (nk:Ac->St->Rs) (ek:Nat->Ac->St->Rs) (n:Nat) ( v1 v3 v5 v6 v7 v8:V) (S:St):Rs:=qb8 [1,3,5,6,7,8] (dr E0 self RL88 N (B88.r.r.l.r.l.l)) (mkK E0 self Tryz.f88 nk ek) n (fr 189 [(1,v1),(3,v3),(5,v5),(6,v6),(7,v7),(8,v8)]) S
theorem qk2 (self:EV) (N:Nat) (nk:Ac->St->Rs) (ek:Nat->Ac->St->Rs) (n:Nat) ( v1 v3 v5 v6 v7 v8:V) (S:St):qfu self N nk ek (n+1) v1 v3 v5 v6 v7 v8 S =
(qa4 E0 .lss 3 false true v8 (.int .i64 64)).bind fun t127=>
ifK t127 (
(qa4 E0 .lss 3 false true v8 (.int .i64 16)).bind fun t129=>
ifK t129 (
(qa4 E0 .mul 3 true false (.int .i64 4) v8).bind fun t133=>
(ixS v1 t133).bind fun t134=>
(cvI .u32 t134 (onS S)).bind fun p135=>
(qa4 E0 .shl 86 false true p135.1 (.int .u64 24)).bind fun t136=>
(qa4 E0 .mul 3 true false (.int .i64 4) v8).bind fun t139=>
(qa4 E0 .add 3 false true t139 (.int .i64 1)).bind fun t140=>
(ixS v1 t140).bind fun t141=>
(cvI .u32 t141 (onS p135.2)).bind fun p142=>
(qa4 E0 .shl 86 false true p142.1 (.int .u64 16)).bind fun t143=>
(qa4 E0 .or 86 false false t136 t143).bind fun t144=>
(qa4 E0 .mul 3 true false (.int .i64 4) v8).bind fun t147=>
(qa4 E0 .add 3 false true t147 (.int .i64 2)).bind fun t148=>
(ixS v1 t148).bind fun t149=>
(cvI .u32 t149 (onS p142.2)).bind fun p150=>
(qa4 E0 .shl 86 false true p150.1 (.int .u64 8)).bind fun t151=>
(qa4 E0 .or 86 false false t144 t151).bind fun t152=>
(qa4 E0 .mul 3 true false (.int .i64 4) v8).bind fun t155=>
(qa4 E0 .add 3 false true t155 (.int .i64 3)).bind fun t156=>
(ixS v1 t156).bind fun t157=>
(cvI .u32 t157 (onS p150.2)).bind fun p158=>
(qa4 E0 .or 86 false false t152 p158.1).bind fun t159=>
(ixA 64 1 false 1 v7 v8).bind fun t160=>
(stP 1 t160 t159 (onS p158.2)).bind fun p161=>
qgb [(5,[12,20,28]),(12,[20,28]),(20,[28])] S [[],[],[],[],[],p135.2.log,[],[],[],[],[],[],p142.2.log,[],[],[],[],[],[],[],p150.2.log,[],[],[],[],[],[],[],p158.2.log,[],[],p161.2.log] p161.2 fun S162=>
(qa4 E0 .add 3 false true v8 (.int .i64 1)).bind fun t164=>
qfu self N nk ek n v1 v3 v5 v6 v7 t164 S162) (
(qa4 E0 .sub 3 false true v8 (.int .i64 15)).bind fun t167=>
(ixA 64 1 false 1 v7 t167).bind fun t168=>
(ld1 t168 (onS S)).bind fun p169=>
(qa4 E0 .sub 3 false true v8 (.int .i64 2)).bind fun t171=>
(ixA 64 1 false 1 v7 t171).bind fun t172=>
(ld1 t172 (onS p169.2)).bind fun p173=>
qgb [(3,[7])] S [[],[],[],p169.2.log,[],[],[],p173.2.log,[],[]] (onS p173.2) fun S176=>
(qa4 E0 .sub 3 false true v8 (.int .i64 16)).bind fun t179=>
(ixA 64 1 false 1 v7 t179).bind fun t180=>
(ld1 t180 (onS S176)).bind fun p181=>
qcy (qaj E0 (B88.r.r.l.r.l.l.r.l.l.r.r).ops) S176 6 [[],[],[],[],p181.2.log,[]] (self.f 106 [p169.1,(.int .i64 7)] (onS p181.2)) fun t183 S183=>
qcy (qaj E0 (B88.r.r.l.r.l.l.r.l.l.r.r).ops) S176 8 [[],[],[],[],p181.2.log,[],S183.log,[]] (self.f 106 [p169.1,(.int .i64 18)] (onS S183)) fun t185 S185=>
(qa4 E0 .xor 86 false false t183 t185).bind fun t186=>
(qa4 E0 .shr 86 false true p169.1 (.int .u64 3)).bind fun t188=>
(qa4 E0 .xor 86 false false t186 t188).bind fun t189=>
(qa4 E0 .add 86 false false p181.1 t189).bind fun t190=>
(qa4 E0 .sub 3 false true v8 (.int .i64 7)).bind fun t192=>
(ixA 64 1 false 1 v7 t192).bind fun t193=>
(ld1 t193 (onS S185)).bind fun p194=>
(qa4 E0 .add 86 false false t190 p194.1).bind fun t195=>
qcy (qaj E0 (B88.r.r.l.r.l.l.r.l.l.r.r).ops) S176 20 [[],[],[],[],p181.2.log,[],S183.log,[],S185.log,[],[],[],[],[],[],[],[],p194.2.log,[],[]] (self.f 106 [p173.1,(.int .i64 17)] (onS p194.2)) fun t197 S197=>
qcy (qaj E0 (B88.r.r.l.r.l.l.r.l.l.r.r).ops) S176 22 [[],[],[],[],p181.2.log,[],S183.log,[],S185.log,[],[],[],[],[],[],[],[],p194.2.log,[],[],S197.log,[]] (self.f 106 [p173.1,(.int .i64 19)] (onS S197)) fun t199 S199=>
(qa4 E0 .xor 86 false false t197 t199).bind fun t200=>
(qa4 E0 .shr 86 false true p173.1 (.int .u64 10)).bind fun t202=>
(qa4 E0 .xor 86 false false t200 t202).bind fun t203=>
(qa4 E0 .add 86 false false t195 t203).bind fun t204=>
(ixA 64 1 false 1 v7 v8).bind fun t205=>
(stP 1 t205 t204 (onS S199)).bind fun p206=>
qgb [(4,[6,8,17,20,22]),(6,[17]),(8,[17]),(17,[20,22])] S176 [[],[],[],[],p181.2.log,[],S183.log,[],S185.log,[],[],[],[],[],[],[],[],p194.2.log,[],[],S197.log,[],S199.log,[],[],[],[],[],[],p206.2.log] p206.2 fun S207=>
(qa4 E0 .add 3 false true v8 (.int .i64 1)).bind fun t209=>
qfu self N nk ek n v1 v3 v5 v6 v7 t209 S207)) (
ek 0 (fr 189 [(3,v3),(5,v5),(6,v6),(7,v7)]) S):=by kernel_rfl
def F88 (self:EV) (N:Nat) (x0 x1 x2:V) (S:St):Rs:=qaq E0 self N Tryz.f88 B88 [x0,x1,x2] S
theorem F88_eq (self:EV) (N:Nat) (x0 x1 x2:V) (S:St):F88 self N x0 x1 x2 S =
(qjy 87 x0 S).bind fun p0=>
(qjy 89 x2 p0.2).bind fun p1=>
(some (nwP 87 8 (Tr.ofListFrom .nil [(.int .u32 0),(.int .u32 0),(.int .u32 0),(.int .u32 0),(.int .u32 0),(.int .u32 0),(.int .u32 0),(.int .u32 0)] 0) p1.2)).bind fun p2=>
(some (nwP 89 64 (Tr.ofListFrom .nil z64q 0) p2.2)).bind fun p3=>
qfu self N (R88_4 self N (qat E0 self Tryz.f88) qad) (exB 0 (R88_4 self N (qat E0 self Tryz.f88) qad) qad) N x1 p0.1 p1.1 p2.1 p3.1 (.int .i64 0) p3.2:=by kernel_rfl
end
end Go.Proofs.YtpgegoeghaplkaaGreatDoor.W
namespace Go.Proofs.YtpgegoeghaplkaaGreatDoor.W
open Go.Proofs.YtpgegoeghaplkaaGreatDoor.Ev Go.RowKit
structure RefK (K:FuncId->Option KF):Prop where
 k7:K 7=none
 k9:K 9=none
 k21:K 21=none
 k22:K 22=none
 k24:K 24=none
 k54:K 54=none
 k55:K 55=none
 k56:K 56=none
 k57:K 57=none
 k82:K 82=none
 k83:K 83=none
 k60:K 60=none
 k59:K 59=none
 k25:K 25=none
 k84:K 84=none
 k85:K 85=none
 k86:K 86=none
 k104:K 104=none
 k105:K 105=none
 k106:K 106=none
 k58:K 58=none
 k87:K 87=none
 k88:K 88=none
section
variable {K:FuncId->Option KF}
theorem rv7 (h:RefK K) {n:Nat} {args:List V} {s:St} {r:En×St} (e:qaq E0 (ev E0 K n) qa1 Tryz.f7 B7 args s=some r):(ev E0 K (n+1)).f 7 args s=some r:=qa6 (c:=C7) (d:=B7) (by kernel_rfl) (by kernel_rfl) (qa3 C7 _ (by kernel_rfl)) h.k7 e
theorem rv9 (h:RefK K) {n:Nat} {args:List V} {s:St} {r:En×St} (e:qaq E0 (ev E0 K n) qa1 Tryz.f9 B9 args s=some r):(ev E0 K (n+1)).f 9 args s=some r:=qa6 (c:=C9) (d:=B9) (by kernel_rfl) (by kernel_rfl) (qa3 C9 _ (by kernel_rfl)) h.k9 e
theorem rv21 (h:RefK K) {n:Nat} {args:List V} {s:St} {r:En×St} (e:qaq E0 (ev E0 K n) qa1 Tryz.f21 B21 args s=some r):(ev E0 K (n+1)).f 21 args s=some r:=qa6 (c:=C21) (d:=B21) (by kernel_rfl) (by kernel_rfl) (qa3 C21 _ (by kernel_rfl)) h.k21 e
theorem rv22 (h:RefK K) {n:Nat} {args:List V} {s:St} {r:En×St} (e:qaq E0 (ev E0 K n) qa1 Tryz.f22 B22 args s=some r):(ev E0 K (n+1)).f 22 args s=some r:=qa6 (c:=C22) (d:=B22) (by kernel_rfl) (by kernel_rfl) (qa3 C22 _ (by kernel_rfl)) h.k22 e
theorem rv24 (h:RefK K) {n:Nat} {args:List V} {s:St} {r:En×St} (e:qaq E0 (ev E0 K n) qa1 Tryz.f24 B24 args s=some r):(ev E0 K (n+1)).f 24 args s=some r:=qa6 (c:=C24) (d:=B24) (by kernel_rfl) (by kernel_rfl) (qa3 C24 _ (by kernel_rfl)) h.k24 e
theorem rv54 (h:RefK K) {n:Nat} {args:List V} {s:St} {r:En×St} (e:qaq E0 (ev E0 K n) qa1 Tryz.f54 B54 args s=some r):(ev E0 K (n+1)).f 54 args s=some r:=qa6 (c:=C54) (d:=B54) (by kernel_rfl) (by kernel_rfl) (qa3 C54 _ (by kernel_rfl)) h.k54 e
theorem rv55 (h:RefK K) {n:Nat} {args:List V} {s:St} {r:En×St} (e:qaq E0 (ev E0 K n) qa1 Tryz.f55 B55 args s=some r):(ev E0 K (n+1)).f 55 args s=some r:=qa6 (c:=C55) (d:=B55) (by kernel_rfl) (by kernel_rfl) (qa3 C55 _ (by kernel_rfl)) h.k55 e
theorem rv56 (h:RefK K) {n:Nat} {args:List V} {s:St} {r:En×St} (e:qaq E0 (ev E0 K n) qa1 Tryz.f56 B56 args s=some r):(ev E0 K (n+1)).f 56 args s=some r:=qa6 (c:=C56) (d:=B56) (by kernel_rfl) (by kernel_rfl) (qa3 C56 _ (by kernel_rfl)) h.k56 e
theorem rv57 (h:RefK K) {n:Nat} {args:List V} {s:St} {r:En×St} (e:qaq E0 (ev E0 K n) qa1 Tryz.f57 B57 args s=some r):(ev E0 K (n+1)).f 57 args s=some r:=qa6 (c:=C57) (d:=B57) (by kernel_rfl) (by kernel_rfl) (qa3 C57 _ (by kernel_rfl)) h.k57 e
theorem rv82 (h:RefK K) {n:Nat} {args:List V} {s:St} {r:En×St} (e:qaq E0 (ev E0 K n) qa1 Tryz.f82 B82 args s=some r):(ev E0 K (n+1)).f 82 args s=some r:=qa6 (c:=C82) (d:=B82) (by kernel_rfl) (by kernel_rfl) (qa3 C82 _ (by kernel_rfl)) h.k82 e
theorem rv83 (h:RefK K) {n:Nat} {args:List V} {s:St} {r:En×St} (e:qaq E0 (ev E0 K n) qa1 Tryz.f83 B83 args s=some r):(ev E0 K (n+1)).f 83 args s=some r:=qa6 (c:=C83) (d:=B83) (by kernel_rfl) (by kernel_rfl) (qa3 C83 _ (by kernel_rfl)) h.k83 e
theorem rv60 (h:RefK K) {n:Nat} {args:List V} {s:St} {r:En×St} (e:qaq E0 (ev E0 K n) qa1 Tryz.f60 B60 args s=some r):(ev E0 K (n+1)).f 60 args s=some r:=qa6 (c:=C60) (d:=B60) (by kernel_rfl) (by kernel_rfl) (qa3 C60 _ (by kernel_rfl)) h.k60 e
theorem rv59 (h:RefK K) {n:Nat} {args:List V} {s:St} {r:En×St} (e:qaq E0 (ev E0 K n) qa1 Tryz.f59 B59 args s=some r):(ev E0 K (n+1)).f 59 args s=some r:=qa6 (c:=C59) (d:=B59) (by kernel_rfl) (by kernel_rfl) (qa3 C59 _ (by kernel_rfl)) h.k59 e
theorem rv25 (h:RefK K) {n:Nat} {args:List V} {s:St} {r:En×St} (e:qaq E0 (ev E0 K n) qa1 Tryz.f25 B25 args s=some r):(ev E0 K (n+1)).f 25 args s=some r:=qa6 (c:=C25) (d:=B25) (by kernel_rfl) (by kernel_rfl) (qa3 C25 _ (by kernel_rfl)) h.k25 e
theorem rv84 (h:RefK K) {n:Nat} {args:List V} {s:St} {r:En×St} (e:qaq E0 (ev E0 K n) qa1 Tryz.f84 B84 args s=some r):(ev E0 K (n+1)).f 84 args s=some r:=qa6 (c:=C84) (d:=B84) (by kernel_rfl) (by kernel_rfl) (qa3 C84 _ (by kernel_rfl)) h.k84 e
theorem rv85 (h:RefK K) {n:Nat} {args:List V} {s:St} {r:En×St} (e:qaq E0 (ev E0 K n) qa1 Tryz.f85 B85 args s=some r):(ev E0 K (n+1)).f 85 args s=some r:=qa6 (c:=C85) (d:=B85) (by kernel_rfl) (by kernel_rfl) (qa3 C85 _ (by kernel_rfl)) h.k85 e
theorem rv86 (h:RefK K) {n:Nat} {args:List V} {s:St} {r:En×St} (e:qaq E0 (ev E0 K n) qa1 Tryz.f86 B86 args s=some r):(ev E0 K (n+1)).f 86 args s=some r:=qa6 (c:=C86) (d:=B86) (by kernel_rfl) (by kernel_rfl) (qa3 C86 _ (by kernel_rfl)) h.k86 e
theorem rv104 (h:RefK K) {n:Nat} {args:List V} {s:St} {r:En×St} (e:qaq E0 (ev E0 K n) qa1 Tryz.f104 B104 args s=some r):(ev E0 K (n+1)).f 104 args s=some r:=qa6 (c:=C104) (d:=B104) (by kernel_rfl) (by kernel_rfl) (qa3 C104 _ (by kernel_rfl)) h.k104 e
theorem rv105 (h:RefK K) {n:Nat} {args:List V} {s:St} {r:En×St} (e:qaq E0 (ev E0 K n) qa1 Tryz.f105 B105 args s=some r):(ev E0 K (n+1)).f 105 args s=some r:=qa6 (c:=C105) (d:=B105) (by kernel_rfl) (by kernel_rfl) (qa3 C105 _ (by kernel_rfl)) h.k105 e
theorem rv106 (h:RefK K) {n:Nat} {args:List V} {s:St} {r:En×St} (e:qaq E0 (ev E0 K n) qa1 Tryz.f106 B106 args s=some r):(ev E0 K (n+1)).f 106 args s=some r:=qa6 (c:=C106) (d:=B106) (by kernel_rfl) (by kernel_rfl) (qa3 C106 _ (by kernel_rfl)) h.k106 e
theorem rv58 (h:RefK K) {n:Nat} {args:List V} {s:St} {r:En×St} (e:qaq E0 (ev E0 K n) qa1 Tryz.f58 B58 args s=some r):(ev E0 K (n+1)).f 58 args s=some r:=qa6 (c:=C58) (d:=B58) (by kernel_rfl) (by kernel_rfl) (qa3 C58 _ (by kernel_rfl)) h.k58 e
theorem rv87 (h:RefK K) {n:Nat} {args:List V} {s:St} {r:En×St} (e:qaq E0 (ev E0 K n) qa1 Tryz.f87 B87 args s=some r):(ev E0 K (n+1)).f 87 args s=some r:=qa6 (c:=C87) (d:=B87) (by kernel_rfl) (by kernel_rfl) (qa3 C87 _ (by kernel_rfl)) h.k87 e
theorem rv88 (h:RefK K) {n:Nat} {args:List V} {s:St} {r:En×St} (e:qaq E0 (ev E0 K n) qa1 Tryz.f88 B88 args s=some r):(ev E0 K (n+1)).f 88 args s=some r:=qa6 (c:=C88) (d:=B88) (by kernel_rfl) (by kernel_rfl) (qa3 C88 _ (by kernel_rfl)) h.k88 e
end
theorem muU {a b:Nat} (h:a*b<18446744073709551616) (c d:Bool):qa4 E0 .mul 108 c d (.int .u64 (a:Int)) (.int .u64 (b:Int))=some (.int .u64 ((a*b:Nat):Int)):=by
 rw[binV_ii,intsV_mul,show((a:Int)*(b:Int))=((a*b:Nat):Int)from(Int.natCast_mul ..).symm,wrap_u64 (Int.natCast_nonneg _) (by generalize a*b=z at h ⊢; omega)]
theorem adU {a b:Nat} (h:a+b<18446744073709551616) (c d:Bool):qa4 E0 .add 108 c d (.int .u64 (a:Int)) (.int .u64 (b:Int))=some (.int .u64 ((a+b:Nat):Int)):=addU h c d
theorem adW (a b:Nat) (c d:Bool):qa4 E0 .add 108 c d (.int .u64 (a:Int)) (.int .u64 (b:Int))=some (.int .u64 (((a+b)%18446744073709551616:Nat):Int)):=by
 rw[binV_ii,intsV_add,IntKind.wrap_u64]
 congr 2
theorem lowU {a:Nat} (h:a<18446744073709551616):qa4 E0 .and 108 false true (.int .u64 (a:Int)) (.int .u64 4294967295)=some (.int .u64 ((a%4294967296:Nat):Int)):=by
 show some (V.int .u64 (qdu .u64 (Nat.land (qcc .u64 (a:Int)) (qcc .u64 4294967295))))=_;have e:Nat.land a 4294967295=a%4294967296:=Nat.and_two_pow_sub_one_eq_mod a 32;rw[qio h,show qcc .u64 4294967295=4294967295 from rfl,e,u64_of (Nat.lt_of_lt_of_le (Nat.mod_lt _ (by decide)) (by decide))]
theorem sr32 (a:Nat):qa4 E0 .shr 108 false true (.int .u64 (a:Int)) (.int .u64 32)=some (.int .u64 ((a/4294967296:Nat):Int)):=
 shrU a (n:=32) (by decide) false true .u64
theorem sl32 (a:Nat):qa4 E0 .shl 108 false true (.int .u64 (a:Int)) (.int .u64 32)=some (.int .u64 ((a*4294967296%18446744073709551616:Nat):Int)):=by
 show some (V.int .u64 (qgh .u64 ((a:Int)*.ofNat (2^min 32 64))))=_;rw[qbf,show(a:Int)*Int.ofNat (2^min 32 64)=((a*4294967296:Nat):Int)from(Int.natCast_mul ..).symm,IntKind.wrap_u64]
 congr 2
theorem orU {a b:Nat} (hb:b<4294967296) (h:a*4294967296+b<18446744073709551616):qa4 E0 .or 108 false false (.int .u64 ((a*4294967296:Nat):Int)) (.int .u64 (b:Int))=some (.int .u64 ((a*4294967296+b:Nat):Int)):=by
 show some (V.int .u64 (qdu .u64 (Nat.lor (qcc .u64 ((a*4294967296:Nat):Int)) (qcc .u64 (b:Int)))))=_
 have e:Nat.lor (a*4294967296) b=a*4294967296+b:=by
  have:=Nat.shiftLeft_add_eq_or_of_lt (b:=b) (i:=32) hb a;rw[Nat.shiftLeft_eq]at this;exact this.symm
 rw[qio (Nat.lt_of_le_of_lt (Nat.le_add_right _ _) h),qio (Nat.lt_of_lt_of_le hb (by decide)),e,u64_of h]
theorem mul_parts (al ah bl bh:Nat) (h1:al<4294967296) (h2:ah<4294967296) (h3:bl<4294967296) (h4:bh<4294967296) :
 (ah*4294967296+al)*(bh*4294967296+bl)/18446744073709551616=ah*bh+al*bh/4294967296+ah*bl/4294967296+(al*bl/4294967296+al*bh%4294967296+ah*bl%4294967296)/4294967296/\
 (ah*4294967296+al)*(bh*4294967296+bl)%18446744073709551616=(al*bl/4294967296+al*bh%4294967296+ah*bl%4294967296)%4294967296*4294967296+al*bl%4294967296:=by
 have e:(ah*4294967296+al)*(bh*4294967296+bl)=ah*bh*18446744073709551616+al*bh*4294967296+ah*bl*4294967296+al*bl:=by
  simp only[Nat.add_mul,Nat.mul_add]
  have e1:ah*4294967296*(bh*4294967296)=ah*bh*18446744073709551616:=by
   rw[Nat.mul_mul_mul_comm]
  have e2:ah*4294967296*bl=ah*bl*4294967296:=by rw[Nat.mul_right_comm]
  have e3:al*(bh*4294967296)=al*bh*4294967296:=by rw[Nat.mul_assoc]
  omega
 rw[e];generalize ah*bh=w;generalize al*bh=x;generalize ah*bl=y;generalize al*bl=z;omega
theorem prod_lt {a b:Nat} (ha:a<4294967296) (hb:b<4294967296):a*b<=18446744065119617025:=by
 have:=Nat.mul_le_mul (Nat.le_of_lt_succ (show a<Nat.succ 4294967295 from ha)) (Nat.le_of_lt_succ (show b<Nat.succ 4294967295 from hb))
 rwa [show 4294967295*4294967295=18446744065119617025 from by decide]at this
section
variable {S T U:St} {K:FuncId->Option KF}
theorem mul_run (hK:RefK K) (m a b:Nat) (ha:a<18446744073709551616) (hb:b<18446744073709551616):(ev E0 K (m+1)).f 105 [.int .u64 (a:Int),.int .u64 (b:Int)] S=some (.ret (.tuple [.int .u64 ((a*b/18446744073709551616:Nat):Int),.int .u64 ((a*b%18446744073709551616:Nat):Int)]),S):=by
 refine rv105 hK ?_;show F105 (ev E0 K m) qa1 _ _ S=_;have h1:a%4294967296<4294967296:=Nat.mod_lt _ (by decide);have h2:a/4294967296<4294967296:=Nat.div_lt_of_lt_mul (show a<4294967296*4294967296 from ha);have h3:b%4294967296<4294967296:=Nat.mod_lt _ (by decide);have h4:b/4294967296<4294967296:=Nat.div_lt_of_lt_mul (show b<4294967296*4294967296 from hb);obtain⟨e1,e2⟩:=mul_parts _ _ _ _ h1 h2 h3 h4;have ea:a/4294967296*4294967296+a%4294967296=a:=Nat.div_add_mod' a 4294967296;have eb:b/4294967296*4294967296+b%4294967296=b:=Nat.div_add_mod' b 4294967296;rw[ea,eb]at e1 e2;rw[e1,e2];have p1:=prod_lt h1 h3;have p2:=prod_lt h1 h4;have p3:=prod_lt h2 h3;have p4:=prod_lt h2 h4;have hhi:a*b/18446744073709551616<18446744073709551616:=Nat.div_lt_of_lt_mul (Nat.mul_lt_mul'' ha hb);rw[e1]at hhi;clear e1 e2 ea eb;rw[F105_eq,lowU ha,oB,sr32,oB,lowU hb,oB,sr32,oB];generalize a%4294967296=al at *;generalize a/4294967296=ah at *;generalize b%4294967296=bl at *;generalize b/4294967296=bh at *;rw[muU (by omega),oB,muU (by omega),oB,muU (by omega),oB,sr32,oB,lowU (by omega),oB];rw[adU (by omega),oB,lowU (by omega),oB,adU (by omega),oB,muU (by omega),oB,sr32,oB,adU (by omega),oB,sr32,oB,adU (by omega),oB,sr32,oB,adU hhi,oB,sl32,oB,lowU (by omega),oB];generalize al*bl/4294967296+al*bh%4294967296+ah*bl%4294967296=mid
 have hm:mid*4294967296%18446744073709551616=mid%4294967296*4294967296:=by omega
 rw[hm,orU (Nat.mod_lt _ (by decide)) (by omega),oB]
end
theorem lssU (a b:Nat) (c d:Bool):qa4 E0 .lss 108 c d (.int .u64 (a:Int)) (.int .u64 (b:Int))=some (.bool (decide (a<b))):=by
 rw[binV_ii,intsV_lss]; congr 2; simp
theorem eqlU (a b:Nat) (c d:Bool):qa4 E0 .eql 108 c d (.int .u64 (a:Int)) (.int .u64 (b:Int))=some (.bool (decide (a=b))):=by
 rw[binV_ii,intsV_eql]; congr 2; simp; omega
theorem wrap0 (a:Nat):decide (0<IntKind.u64.wrap (a:Int))=decide (0<a%18446744073709551616):=by
 rw[IntKind.wrap_u64]; congr 1; rw[eq_iff_iff]; omega
section
variable {S T U:St} {K:FuncId->Option KF}
theorem above_tail (p l1 h2 md c:Nat):((qa4 E0 .add 108 false false (.int .u64 (h2:Int)) (.int .u64 (c:Int))).bind fun t36=>
(qa4 E0 .gtr 108 false true t36 (.int .u64 0)).bind fun t39=>
ifK t39 (
some (En.ret (.bool true),S)) (
(qa4 E0 .shl 108 false true (.int .u64 (p:Int)) (.int .u64 32)).bind fun t42=>
(qa4 E0 .gtr 108 false false (.int .u64 (md:Int)) t42).bind fun t46=>
(qa2 false t46).bind fun g48=>(bif g48 then some (V.int .u64 (md:Int))else some (.tuple [])).bind fun t48=>
(qa2 false t46).bind fun g49=>(bif g49 then some t42 else some (.tuple [])).bind fun t49=>
(qa2 false t46).bind fun g50=>(bif g50 then qa4 E0 .eql 108 false false t48 t49 else some (.tuple [])).bind fun t50=>
(qa2 false t46).bind fun g51=>(bif g51 then some t50 else some (.tuple [])).bind fun t51=>
(qa2 true t51).bind fun g52=>(bif g52 then some (V.int .u64 (l1:Int))else some (.tuple [])).bind fun t52=>
(qa2 true t51).bind fun g53=>(bif g53 then qa4 E0 .gtr 108 false true t52 (.int .u64 0)else some (.tuple [])).bind fun t53=>
(qa2 false t46).bind fun g54=>(bif g54 then qay t51 (some t53) (some (.bool false))else some (.tuple [])).bind fun t54=>
(qay t46 (some (.bool true)) (some t54)).bind fun t55=>
some (.ret t55,S)))=some (.ret (.bool (cubeV h2 c md (p*4294967296%18446744073709551616) l1)),S):=by
 rw[adW,oB,show V.int .u64 0=.int .u64 ((0:Nat):Int)from rfl,gtrU,oB,ifK_bool];unfold cubeV;rw[show(h2:Int)+(c:Int)=((h2+c:Nat):Int) by omega,wrap0];cases decide (0<(h2+c)%18446744073709551616)with
 | true=>rfl
 | false=>
  rw[cF,Bool.false_or,sl32,oB,gtrU,oB];generalize p*4294967296%18446744073709551616=q;cases decide (q<md)with
  | true=>rfl
  | false=>
   simp only[qag,oB,nF,cT,eqlU,Bool.false_or];cases decide (md=q)with
   | false=>rfl
   | true=>
    simp only[qah,oB,cT,gtrU,Bool.true_and];cases decide (0<l1)<;>rfl
theorem above_run (hK:RefK K) (m x p:Nat) (hx:x<=68719476736):(ev E0 K (m+2)).f 104 [.int .u64 (x:Int),.int .u64 (p:Int)] S=some (.ret (.bool (qiy x p)),S):=by
 refine rv104 hK ?_;show F104 (ev E0 K (m+1)) qa1 _ _ S=_;have hx64:x<18446744073709551616:=by omega
 have hL:x*x%18446744073709551616<18446744073709551616:=Nat.mod_lt _ (by decide);have hH:x*x/18446744073709551616<18446744073709551616:=Nat.div_lt_of_lt_mul (Nat.mul_lt_mul'' hx64 hx64);unfold qiy;dsimp only;rw[F104_eq,mul_run hK m x x hx64 hx64,callP_ret,ex0,oB,ex1,oB];generalize x*x%18446744073709551616=L at hL ⊢;generalize x*x/18446744073709551616=H at hH ⊢;have h1l:L*x/18446744073709551616<18446744073709551616:=Nat.div_lt_of_lt_mul (Nat.mul_lt_mul'' hL hx64);have h2l:H*x%18446744073709551616<18446744073709551616:=Nat.mod_lt _ (by decide);rw[mul_run hK m L x hL hx64,callP_ret,ex0,oB,ex1,oB,mul_run hK m H x hH hx64,callP_ret,ex0,oB,ex1,oB,adW,oB,lssU,oB,ifK_bool];generalize L*x/18446744073709551616=h1 at h1l ⊢;generalize H*x%18446744073709551616=l2 at h2l ⊢;by_cases hc:(h1+l2)%18446744073709551616<h1
 . rw[dT hc,cT,show(h1+l2)/18446744073709551616=1 by omega]
   exact above_tail p _ _ _ 1
 . rw[dF hc,cF,show(h1+l2)/18446744073709551616=0 by omega]
   exact above_tail p _ _ _ 0
theorem L85_spec {m N:Nat} (hK:RefK K) (nk:Ac->St->Rs) (ek:Nat->Ac->St->Rs) (p:Nat) :
 ∀(k lo hi q:Nat),k<q->lo<hi->hi-lo<=2^k->hi<=68719476736->
 L85_7 (ev E0 K (m+2)) N nk ek q (.int .u64 (p:Int)) (.int .u64 (lo:Int)) (.int .u64 (hi:Int)) S=ek 0 (fr 21 [(3,.int .u64 (rootF qiy p k lo hi:Int))]) S
 | _,_,_,0,hq,_,_,_=>by omega
 | 0,lo,hi,q+1,hq,hl,hk,hh=>by
  rw[L85_7_eq,subU (by omega) (by omega),oB,show V.int .u64 1=.int .u64 ((1:Nat):Int)from rfl,gtrU,dF (by omega),oB,ifK_bool,cF];rfl
 | k+1,lo,hi,q+1,hq,hl,hk,hh=>by
  have hp:2^(k+1)=2*2^k:=by rw[Nat.pow_succ]; omega
  rw[L85_7_eq,subU (by omega) (by omega),oB,show V.int .u64 1=.int .u64 ((1:Nat):Int)from rfl,gtrU];unfold rootF;by_cases h1:1<hi-lo
  . rw[dT h1,oB,ifK_bool,cT,addU (by omega),oB,halfU (by omega),oB,above_run hK m _ p (by omega),callP_ret,ifK_bool,iP h1]
    cases qiy ((lo+hi)/2) p with
    | true=>rw[cT,iP rfl]; exact L85_spec hK nk ek p k lo _ q (by omega) (by omega) (by omega) (by omega)
    | false=>rw[cF,iN (by simp)]; exact L85_spec hK nk ek p k _ hi q (by omega) (by omega) (by omega) (by omega)
  . rw[dF h1,oB,ifK_bool,cF,iN h1]
theorem cvRoot (n:Nat) (S:St):cvI .u32 (.int .u64 (n:Int)) S=some (w32 (UInt32.ofNat n),S):=by
 rw[cvI_int,qjw];unfold w32;rw[UInt32.toNat_ofNat']
theorem cubeR_run (hK:RefK K) (m p:Nat):(ev E0 K (m+3)).f 85 [.int .u64 (p:Int)] S=some (.ret (w32 (rootW qiy p)),S):=by
 refine rv85 hK ?_;show F85 (ev E0 K (m+2)) qa1 _ S=_;rw[F85_eq,show V.int .u64 0=.int .u64 ((0:Nat):Int)from rfl,show V.int .u64 68719476736=.int .u64 ((68719476736:Nat):Int)from rfl];rw[L85_spec hK _ _ p 36 0 68719476736 qa1 (by unfold qa1; omega) (by omega) (by decide) (by omega),exB_same,R85_3_eq,cvRoot,oB];rfl
theorem L86_spec {m N:Nat} (hK:RefK K) (nk:Ac->St->Rs) (ek:Nat->Ac->St->Rs) (p:Nat) :
 ∀(k lo hi q:Nat),k<q->lo<hi->hi-lo<=2^k->hi<=68719476736->
 L86_7 (ev E0 K (m+1)) N nk ek q (.int .u64 (p:Int)) (.int .u64 (lo:Int)) (.int .u64 (hi:Int)) S=ek 0 (fr 38 [(3,.int .u64 (rootF qef p k lo hi:Int))]) S
 | _,_,_,0,hq,_,_,_=>by omega
 | 0,lo,hi,q+1,hq,hl,hk,hh=>by
  rw[L86_7_eq,subU (by omega) (by omega),oB,show V.int .u64 1=.int .u64 ((1:Nat):Int)from rfl,gtrU,dF (by omega),oB,ifK_bool,cF];rfl
 | k+1,lo,hi,q+1,hq,hl,hk,hh=>by
  have hp:2^(k+1)=2*2^k:=by rw[Nat.pow_succ]; omega
  rw[L86_7_eq,subU (by omega) (by omega),oB,show V.int .u64 1=.int .u64 ((1:Nat):Int)from rfl,gtrU];unfold rootF;by_cases h1:1<hi-lo
  . have i1:=fun(h:qef ((lo+hi)/2) p=true)=>L86_spec (m:=m) (N:=N) hK nk ek p k lo ((lo+hi)/2) q (by omega) (by omega) (by omega) (by omega)
    have i2:=fun(h:qef ((lo+hi)/2) p=false)=>L86_spec (m:=m) (N:=N) hK nk ek p k ((lo+hi)/2) hi q (by omega) (by omega) (by omega) (by omega);rw[dT h1,oB,ifK_bool,cT,addU (by omega),oB,halfU (by omega),oB,mul_run hK m _ _ (by omega) (by omega),callP_ret,iP h1,ex0,oB,ex1,oB];have hs:qef ((lo+hi)/2) p=(decide (p<(lo+hi)/2*((lo+hi)/2)/18446744073709551616)||(decide ((lo+hi)/2*((lo+hi)/2)/18446744073709551616=p)&&decide (0<(lo+hi)/2*((lo+hi)/2)%18446744073709551616))):=rfl;generalize qef ((lo+hi)/2) p=b at i1 i2 hs ⊢;generalize (lo+hi)/2*((lo+hi)/2)/18446744073709551616=H at hs ⊢;generalize (lo+hi)/2*((lo+hi)/2)%18446744073709551616=L at hs ⊢;rw[gtrU,oB];cases hA:decide (p<H)with
    | true=>
     rw[hA,Bool.true_or]at hs;subst hs;exact(i1 rfl)
    | false=>
     rw[hA,Bool.false_or]at hs;simp only[qag,oB,nF,cT,eqlU];cases hB:decide (H=p)with
     | false=>
      rw[hB,Bool.false_and]at hs;subst hs;exact(i2 rfl)
     | true=>
      rw[hB,Bool.true_and]at hs;rw[show V.int .u64 0=.int .u64 ((0:Nat):Int)from rfl];simp only[qah,oB,cT,gtrU];subst hs;cases hC:decide (0<L)with
      | true=>exact(i1 hC)
      | false=>exact(i2 hC)
  . rw[dF h1,oB,ifK_bool,cF,iN h1]
theorem squareR_run (hK:RefK K) (m p:Nat):(ev E0 K (m+2)).f 86 [.int .u64 (p:Int)] S=some (.ret (w32 (rootW qef p)),S):=by
 refine rv86 hK ?_;show F86 (ev E0 K (m+1)) qa1 _ S=_;rw[F86_eq,show V.int .u64 0=.int .u64 ((0:Nat):Int)from rfl,show V.int .u64 68719476736=.int .u64 ((68719476736:Nat):Int)from rfl];rw[L86_spec hK _ _ p 36 0 68719476736 qa1 (by unfold qa1; omega) (by omega) (by decide) (by omega),exB_same,R86_3_eq,cvRoot,oB];rfl
end
section
variable {S T U:St} {K:FuncId->Option KF}
theorem L24v_spec {m N M:Nat} {v0 v3:V} {L:List Nat} (nk:Ac->St->Rs) (ek:Nat->Ac->St->Rs) (ho:S.on=false) (hP:PL S v3 L M) (hl:L.length<1000) (h0:∀p∈L,p≠0) (x:Nat) :
 ∀(r:List Nat) (i q:Nat) (is:Bool),L.drop i=r->r.length<q->
 L84_24 (ev E0 K m) N nk ek q v0 v3 (.int .u64 (x:Int)) (.bool is) (.int .i64 (i:Int)) S=ek 2 (fr 35 [(0,v0),(3,v3),(4,.int .u64 (x:Int)),(5,.bool (is&&!(r.any fun p=>decide (x%p=0))))]) S
 | _,_,0,_,_,hq=>by omega
 | [],i,q+1,is,hi,_=>by
  rw[L84_24_eq,hP.len,oB];dsimp only;rw[lssK,dF (Nat.not_lt.2 (qau hi)),oB,ifK_bool,cF];simp only[List.any_nil,nF,Bool.and_true]
 | p::r,i,q+1,is,hi,hq=>by
  obtain⟨hlt,hp,hr,hmem⟩:=qba hi;obtain⟨a,a1,a2⟩:=hP.at ho hlt;rw[hp]at a2;have ih:=fun b=>L24v_spec (m:=m) (N:=N) (v0:=v0) nk ek ho hP hl h0 x r (i+1) q b hr (by simpa using hq);rw[L84_24_eq,hP.len,oB];dsimp only;rw[lssK,dT hlt,oB,ifK_bool,cT,List.any_cons];cases is with
  | false=>
   simp only[qah,oB,cF,pickV_bool];rw[succK (by omega),oB,ih,Bool.false_and,Bool.false_and]
  | true=>
   simp only[qah,oB,cT,a1,a2,remU (h0 p hmem),pickV_bool];rw[show qa4 E0 .neq 108 false true (.int .u64 ((x%p:Nat):Int)) (.int .u64 0)=some (.bool (!decide (x%p=0)))from by rw[binV_ii,intsV_neq]; congr 3; simp; omega,oB,succK (by omega),oB,ih,Bool.true_and,Bool.not_or]
theorem L6v_spec {m N M:Nat} (hN:1000<N) (nk:Ac->St->Rs) (ek:Nat->Ac->St->Rs) :
 ∀(k x q:Nat) (L:List Nat) (v:V) (S:St),k<q->S.on=false->PL S v L M->M<=S.next->(∀p∈L,p≠0)->x≠0->x+k<100000->L.length<=64->64<=(qev k x L).length->
 ∃v' U,L84_6 (ev E0 K m) N nk ek q (.int .i64 64) v (.int .u64 (x:Int)) S=ek 0 (fr 35 [(3,v')]) U/\PL U v' (qev k x L) M/\Grew (fun b=>M<=b) S U
 | _,_,0,_,_,_,hq,_,_,_,_,_,_,_,_=>by omega
 | 0,x,q+1,L,v,S,hq,ho,hP,hM,h0,hx,hxk,hL,h64=>by
  refine⟨v,S,?_,hP,Grew.refl _ _⟩;rw[L84_6_eq,hP.len,oB];dsimp only;rw[show V.int .i64 64=.int .i64 ((64:Nat):Int)from rfl,lssK,dF (by unfold qev at h64; omega),oB,ifK_bool,cF]
 | k+1,x,q+1,L,v,S,hq,ho,hP,hM,h0,hx,hxk,hL,h64=>by
  unfold qev at h64 ⊢;by_cases hl:L.length<64
  . rw[iP hl]at h64 ⊢
    have hh:∀X,L84_6 (ev E0 K m) N nk ek (q+1) (.int .i64 64) v (.int .u64 (x:Int)) S=X↔exB 2 (R84_16 (ev E0 K m) N (qir (ev E0 K m) N (N84_6 (ev E0 K m) N nk ek q) ek) (exB 1 (qir (ev E0 K m) N (N84_6 (ev E0 K m) N nk ek q) ek) ek)) (exB 1 (qir (ev E0 K m) N (N84_6 (ev E0 K m) N nk ek q) ek) ek) 2 (fr 35 [(0,.int .i64 64),(3,v),(4,.int .u64 (x:Int)),(5,.bool (!(L.any fun p=>decide (x%p=0))))]) S=X:=fun X=>by
     rw[L84_6_eq,hP.len,oB];dsimp only;rw[show qa4 E0 .lss 3 false false (.int .i64 (L.length:Int)) (.int .i64 64)=some (.bool true)from by rw[show V.int .i64 64=.int .i64 ((64:Nat):Int)from rfl,lssK,dT hl],oB,ifK_bool,cT,show V.int .i64 0=.int .i64 ((0:Nat):Int)from rfl,L24v_spec _ _ ho hP (by omega) h0 x L 0 N true rfl (by omega),Bool.true_and]
    by_cases hd:L.any (fun p=>decide (x%p=0))=true
    . rw[iP hd]at h64 ⊢
      obtain⟨v',U,t1,t2,t3⟩:=L6v_spec (m:=m) hN nk ek k (x+1) q L v S (by omega) ho hP hM h0 (by omega) (by omega) hL h64;refine⟨v',U,(hh _).2 ?_,t2,t3⟩;rw[hd,exB_same,R84_16_eq,Bool.not_true,ifK_bool,cF,R84_11_eq,show V.int .u64 1=.int .u64 ((1:Nat):Int)from rfl,addU (by omega),oB,N84_6_eq,t1]
    . rw[iN hd]at h64 ⊢
      obtain⟨y,W,v1',U1,a1,a2,a3,a4⟩:=hP.push ho hM (by omega) x;have n1:=a4.next
      obtain⟨v',U,t1,t2,t3⟩:=L6v_spec (m:=m) hN nk ek k (x+1) q (L++[x]) v1' U1 (by omega) (a4.on.trans ho) a3 (by omega) (fun p hp=>by
       rcases List.mem_append.1 hp with h|h
       . exact h0 p h
       . rw[List.mem_singleton.1 h]; exact hx) (by omega) (by omega) (by rw[lAq,List.length_singleton]; omega) h64
      refine⟨v',U,(hh _).2 ?_,t2,a4.trans t3⟩;rw[show(L.any fun p=>decide (x%p=0))=false from by simpa using hd,exB_same,R84_16_eq,nF,ifK_bool,cT,a1,oB];dsimp only;rw[a2,oB];dsimp only;rw[R84_11_eq,show V.int .u64 1=.int .u64 ((1:Nat):Int)from rfl,addU (by omega),oB,N84_6_eq,t1]
  . rw[iN hl]at h64 ⊢
    refine⟨v,S,?_,hP,Grew.refl _ _⟩;rw[L84_6_eq,hP.len,oB];dsimp only;rw[show V.int .i64 64=.int .i64 ((64:Nat):Int)from rfl,lssK,dF hl,oB,ifK_bool,cF]
theorem primes_run (hK:RefK K) (m:Nat) (ho:S.on=false):∃v U,(ev E0 K (m+1)).f 84 [.int .i64 64] S=some (.ret v,U)/\PL U v P52 S.next/\Grew (fun b=>S.next<=b) S U:=by
 obtain⟨v,U,h1,h2,h3⟩:=L6v_spec (K:=K) (m:=m) (N:=qa1) (M:=S.next) (by unfold qa1; omega) (R84_2 (ev E0 K m) qa1 (qat E0 (ev E0 K m) Tryz.f84) qad) (exB 0 (R84_2 (ev E0 K m) qa1 (qat E0 (ev E0 K m) Tryz.f84) qad) qad) 400 2 qa1 [] .nilslice S (by unfold qa1; omega) ho (.inl ⟨rfl,rfl⟩) (lR _) (fun p hp=>by cases hp) (by omega) (by omega) (by simp) (Nat.le_of_eq p52_len.symm);refine⟨v,U,rv84 hK ?_,h2,h3⟩;show F84 (ev E0 K m) qa1 _ S=_;rw[F84_eq,show V.int .u64 2=.int .u64 ((2:Nat):Int)from rfl];refine h1.trans ?_;rw[exB_same,R84_2_eq]
theorem sub32i {n:Nat} (h:n<=32):qa4 E0 .sub 3 true false (.int .i64 32) (.int .i64 (n:Int))=some (.int .i64 ((32-n:Nat):Int)):=by
 rw[binV_ii,intsV_sub,show((32:Int)-(n:Int))=((32-n:Nat):Int) by omega,qbg (by omega) (by omega)]
def ror (x:UInt32) (n:Nat):UInt32:=sr x n ||| sl x (32-n)
theorem turned_run (hK:RefK K) (m:Nat) (x:UInt32) {n:Nat} (hn:n<=32) (S:St):∃U,(ev E0 K (m+1)).f 106 [w32 x,.int .i64 (n:Int)] S=some (.ret (w32 (ror x n)),U)/\U=qbd S (onS S) [[],[],[],[],[],[],[],[],[]]:=by
 refine⟨_,rv106 hK ?_,rfl⟩;show F106 (ev E0 K m) qa1 _ _ S=_;rw[F106_eq,qlb _ _ _ _ hn,oB,sub32i hn,oB,shl32 _ _ _ _ (by omega),oB,or32,oB];rfl
end
end Go.Proofs.YtpgegoeghaplkaaGreatDoor.W
end
