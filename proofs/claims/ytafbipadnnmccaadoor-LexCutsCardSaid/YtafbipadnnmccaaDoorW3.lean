/-
  WHAT THE FUNCTIONS COME TO: each is read by the evaluator,printed,and told as a function of data,part 3 of 17 (no condition).
-/
import Derived.Test.YtafbipadnnmccaaDoorW2
import Derived.Test.YtafbipadnnmccaaDoorProg
import Derived.KernelRfl
noncomputable section
namespace Go.Proofs.YtafbipadnnmccaaDoor.W
open Go.Proofs.YtafbipadnnmccaaDoor.Ev
set_option maxRecDepth 100000
noncomputable section
def C45:Code:=Tryd.f45.body.getD .skip
def B45:D:=(qaq C45 [[],[],[0,3,4],[],[0,0,3,4],[0,3,4],[],[],[],[],[0,0,3,4,5,6],[0,3,4],[],[0,3,4],[],[],[],[],[],[]]).1
def RL45:List Nat:=cellsOf Tryd.f45.results.toList
def L45_6 (self:EV) (N:Nat) (nk:Ac->St->Rs) (ek:Nat->Ac->St->Rs) (n:Nat) ( v0 v3 v4:V) (S:St):Rs:=qc3 [0,3,4] (dr E0 self RL45 N (B45.r.r.l.l)) (mkK E0 self Tryd.f45 nk ek) n (fr 96 [(0,v0),(3,v3),(4,v4)]) S
theorem L45_6_eq (self:EV) (N:Nat) (nk:Ac->St->Rs) (ek:Nat->Ac->St->Rs) (n:Nat) ( v0 v3 v4:V) (S:St):L45_6 self N nk ek (n+1) v0 v3 v4 S =
callP (self.f 24 [v0] S) fun t8 S8=>
(unV .not t8).bind fun t9=>
ifK t9 (
(qa2 v0).bind fun t11=>
(faP 0 false 1 t11).bind fun t12=>
(ld1 t12 S8).bind fun p13=>
(qbf p13.1 p13.2).bind fun p14=>
callP (self.f 25 [(.int .i64 19),p14.1] p14.2) fun t15 S15=>
(qa2 v0).bind fun t17=>
(faP 1 false 1 t17).bind fun t18=>
(ld1 t18 S15).bind fun p19=>
(qa2 v0).bind fun t22=>
(faP 0 false 1 t22).bind fun t23=>
(ld1 t23 p19.2).bind fun p24=>
(qah E0 9 p24.1 (some p19.1) none none p24.2).bind fun p26=>
callP (self.f 46 [p26.1,(sv [10])] p26.2) fun t27 S27=>
(qa6 t27 0).bind fun t29=>
(qa6 t27 1).bind fun t30=>
(qa6 t27 2).bind fun t31=>
(qa2 v0).bind fun t36=>
(faP 1 false 1 t36).bind fun t37=>
(ld1 t37 S27).bind fun p38=>
(qbf t29 p38.2).bind fun p40=>
(qa4 E0 .add 3 false false p38.1 p40.1).bind fun t41=>
(qa2 v0).bind fun t42=>
(faP 1 false 1 t42).bind fun t43=>
(stP 1 t43 t41 p40.2).bind fun p44=>
ifK t31 (
(qa2 v0).bind fun t47=>
(faP 1 false 1 t47).bind fun t48=>
(ld1 t48 p44.2).bind fun p49=>
(qa4 E0 .add 3 false true p49.1 (.int .i64 1)).bind fun t50=>
(qa2 v0).bind fun t51=>
(faP 1 false 1 t51).bind fun t52=>
(stP 1 t52 t50 p49.2).bind fun p53=>
(faP 1 false 1 v3).bind fun t55=>
(ld1 t55 p53.2).bind fun p56=>
(qa4 E0 .neq 9 false false t29 p56.1).bind fun t57=>
ifK t57 (
L45_6 self N nk ek n v0 v3 v4 p56.2) (
(qa2 v0).bind fun t59=>
(faP 2 false 1 t59).bind fun t60=>
(ld1 t60 (onS p56.2)).bind fun p61=>
(faP 0 false 1 v3).bind fun t62=>
(ld1 t62 (onS p61.2)).bind fun p63=>
(ixP 5 p61.1 p63.1).bind fun t64=>
qhh [(3,[5])] p56.2 [[],[],[],p61.2.log,[],p63.2.log,[],[]] (onS p63.2) fun S66=>
(qa2 v0).bind fun t69=>
(faP 0 false 1 t69).bind fun t70=>
(ld1 t70 S66).bind fun p71=>
(qah E0 9 p71.1 (some v4) (some p19.1) none p71.2).bind fun p74=>
(qa2 t64).bind fun t75=>
(faP 1 false 1 t75).bind fun t76=>
(stP 1 t76 p74.1 p74.2).bind fun p77=>
(qa2 t64).bind fun t79=>
(faP 3 false 1 t79).bind fun t80=>
(ld1 t80 p77.2).bind fun p81=>
(unV .not p81.1).bind fun t82=>
ifK t82 (
(qa2 v0).bind fun t84=>
(faP 0 false 1 t84).bind fun t85=>
(ld1 t85 p81.2).bind fun p86=>
(qah E0 9 p86.1 none (some p19.1) none p86.2).bind fun p88=>
(qa7 E0 57 [(0,p88.1),(1,v4)]).bind fun t90=>
(boxK 57 t90 p88.2).bind fun p91=>
callP (self.f 49 [p91.1,(.int .i64 2),(.int .i64 0)] p91.2) fun t95 S95=>
(qa2 t64).bind fun t96=>
(faP 2 false 1 t96).bind fun t97=>
(stP 1 t97 t95 S95).bind fun p98=>
some (.ret (.tuple []),p98.2)) (
some (.ret (.tuple []),p81.2)))) (
(faP 1 false 1 v3).bind fun t100=>
(ld1 t100 p44.2).bind fun p101=>
(qa4 E0 .neq 9 false false t29 p101.1).bind fun t102=>
ifK t102 (
L45_6 self N nk ek n v0 v3 v4 p101.2) (
(qa2 v0).bind fun t104=>
(faP 2 false 1 t104).bind fun t105=>
(ld1 t105 (onS p101.2)).bind fun p106=>
(faP 0 false 1 v3).bind fun t107=>
(ld1 t107 (onS p106.2)).bind fun p108=>
(ixP 5 p106.1 p108.1).bind fun t109=>
qhh [(3,[5])] p101.2 [[],[],[],p106.2.log,[],p108.2.log,[],[]] (onS p108.2) fun S111=>
(qa2 v0).bind fun t114=>
(faP 0 false 1 t114).bind fun t115=>
(ld1 t115 S111).bind fun p116=>
(qah E0 9 p116.1 (some v4) (some p19.1) none p116.2).bind fun p119=>
(qa2 t109).bind fun t120=>
(faP 1 false 1 t120).bind fun t121=>
(stP 1 t121 p119.1 p119.2).bind fun p122=>
(qa2 t109).bind fun t124=>
(faP 3 false 1 t124).bind fun t125=>
(ld1 t125 p122.2).bind fun p126=>
(unV .not p126.1).bind fun t127=>
ifK t127 (
(qa2 v0).bind fun t129=>
(faP 0 false 1 t129).bind fun t130=>
(ld1 t130 p126.2).bind fun p131=>
(qah E0 9 p131.1 none (some p19.1) none p131.2).bind fun p133=>
(qa7 E0 57 [(0,p133.1),(1,v4)]).bind fun t135=>
(boxK 57 t135 p133.2).bind fun p136=>
callP (self.f 49 [p136.1,(.int .i64 2),(.int .i64 0)] p136.2) fun t140 S140=>
(qa2 t109).bind fun t141=>
(faP 2 false 1 t141).bind fun t142=>
(stP 1 t142 t140 S140).bind fun p143=>
some (.ret (.tuple []),p143.2)) (
some (.ret (.tuple []),p126.2))))) (
(qa2 v0).bind fun t145=>
(faP 1 false 1 t145).bind fun t146=>
(ld1 t146 S8).bind fun p147=>
(qa2 v0).bind fun t150=>
(faP 0 false 1 t150).bind fun t151=>
(ld1 t151 p147.2).bind fun p152=>
(qah E0 9 p152.1 (some p147.1) none none p152.2).bind fun p154=>
callP (self.f 46 [p154.1,(sv [10])] p154.2) fun t155 S155=>
(qa6 t155 0).bind fun t157=>
(qa6 t155 1).bind fun t158=>
(qa6 t155 2).bind fun t159=>
(qa2 v0).bind fun t164=>
(faP 1 false 1 t164).bind fun t165=>
(ld1 t165 S155).bind fun p166=>
(qbf t157 p166.2).bind fun p168=>
(qa4 E0 .add 3 false false p166.1 p168.1).bind fun t169=>
(qa2 v0).bind fun t170=>
(faP 1 false 1 t170).bind fun t171=>
(stP 1 t171 t169 p168.2).bind fun p172=>
ifK t159 (
(qa2 v0).bind fun t175=>
(faP 1 false 1 t175).bind fun t176=>
(ld1 t176 p172.2).bind fun p177=>
(qa4 E0 .add 3 false true p177.1 (.int .i64 1)).bind fun t178=>
(qa2 v0).bind fun t179=>
(faP 1 false 1 t179).bind fun t180=>
(stP 1 t180 t178 p177.2).bind fun p181=>
(faP 1 false 1 v3).bind fun t183=>
(ld1 t183 p181.2).bind fun p184=>
(qa4 E0 .neq 9 false false t157 p184.1).bind fun t185=>
ifK t185 (
L45_6 self N nk ek n v0 v3 v4 p184.2) (
(qa2 v0).bind fun t187=>
(faP 2 false 1 t187).bind fun t188=>
(ld1 t188 (onS p184.2)).bind fun p189=>
(faP 0 false 1 v3).bind fun t190=>
(ld1 t190 (onS p189.2)).bind fun p191=>
(ixP 5 p189.1 p191.1).bind fun t192=>
qhh [(3,[5])] p184.2 [[],[],[],p189.2.log,[],p191.2.log,[],[]] (onS p191.2) fun S194=>
(qa2 v0).bind fun t197=>
(faP 0 false 1 t197).bind fun t198=>
(ld1 t198 S194).bind fun p199=>
(qah E0 9 p199.1 (some v4) (some p147.1) none p199.2).bind fun p202=>
(qa2 t192).bind fun t203=>
(faP 1 false 1 t203).bind fun t204=>
(stP 1 t204 p202.1 p202.2).bind fun p205=>
(qa2 t192).bind fun t207=>
(faP 3 false 1 t207).bind fun t208=>
(ld1 t208 p205.2).bind fun p209=>
(unV .not p209.1).bind fun t210=>
ifK t210 (
(qa2 v0).bind fun t212=>
(faP 0 false 1 t212).bind fun t213=>
(ld1 t213 p209.2).bind fun p214=>
(qah E0 9 p214.1 none (some p147.1) none p214.2).bind fun p216=>
(qa7 E0 57 [(0,p216.1),(1,v4)]).bind fun t218=>
(boxK 57 t218 p216.2).bind fun p219=>
callP (self.f 49 [p219.1,(.int .i64 2),(.int .i64 0)] p219.2) fun t223 S223=>
(qa2 t192).bind fun t224=>
(faP 2 false 1 t224).bind fun t225=>
(stP 1 t225 t223 S223).bind fun p226=>
some (.ret (.tuple []),p226.2)) (
some (.ret (.tuple []),p209.2)))) (
(faP 1 false 1 v3).bind fun t228=>
(ld1 t228 p172.2).bind fun p229=>
(qa4 E0 .neq 9 false false t157 p229.1).bind fun t230=>
ifK t230 (
L45_6 self N nk ek n v0 v3 v4 p229.2) (
(qa2 v0).bind fun t232=>
(faP 2 false 1 t232).bind fun t233=>
(ld1 t233 (onS p229.2)).bind fun p234=>
(faP 0 false 1 v3).bind fun t235=>
(ld1 t235 (onS p234.2)).bind fun p236=>
(ixP 5 p234.1 p236.1).bind fun t237=>
qhh [(3,[5])] p229.2 [[],[],[],p234.2.log,[],p236.2.log,[],[]] (onS p236.2) fun S239=>
(qa2 v0).bind fun t242=>
(faP 0 false 1 t242).bind fun t243=>
(ld1 t243 S239).bind fun p244=>
(qah E0 9 p244.1 (some v4) (some p147.1) none p244.2).bind fun p247=>
(qa2 t237).bind fun t248=>
(faP 1 false 1 t248).bind fun t249=>
(stP 1 t249 p247.1 p247.2).bind fun p250=>
(qa2 t237).bind fun t252=>
(faP 3 false 1 t252).bind fun t253=>
(ld1 t253 p250.2).bind fun p254=>
(unV .not p254.1).bind fun t255=>
ifK t255 (
(qa2 v0).bind fun t257=>
(faP 0 false 1 t257).bind fun t258=>
(ld1 t258 p254.2).bind fun p259=>
(qah E0 9 p259.1 none (some p147.1) none p259.2).bind fun p261=>
(qa7 E0 57 [(0,p261.1),(1,v4)]).bind fun t263=>
(boxK 57 t263 p261.2).bind fun p264=>
callP (self.f 49 [p264.1,(.int .i64 2),(.int .i64 0)] p264.2) fun t268 S268=>
(qa2 t237).bind fun t269=>
(faP 2 false 1 t269).bind fun t270=>
(stP 1 t270 t268 S268).bind fun p271=>
some (.ret (.tuple []),p271.2)) (
some (.ret (.tuple []),p254.2))))):=by kernel_rfl
def F45 (self:EV) (N:Nat) (x0 x1:V) (S:St):Rs:=qd4 E0 self N Tryd.f45 B45 [x0,x1] S
theorem F45_eq (self:EV) (N:Nat) (x0 x1:V) (S:St):F45 self N x0 x1 S =
(boxK 89 x1 S).bind fun p0=>
(qa2 x0).bind fun t2=>
(faP 1 false 1 t2).bind fun t3=>
(ld1 t3 p0.2).bind fun p4=>
L45_6 self N (qbt E0 self Tryd.f45) (exB 0 (qbt E0 self Tryd.f45) qas) N x0 p0.1 p4.1 p4.2:=by kernel_rfl
end
noncomputable section
def C26:Code:=Tryd.f26.body.getD .skip
def B26:D:=(qaq C26 [[],[]]).1
def F26 (self:EV) (N:Nat) (x0 x1 x2:V) (S:St):Rs:=qd4 E0 self N Tryd.f26 B26 [x0,x1,x2] S
theorem F26_eq (self:EV) (N:Nat) (x0 x1 x2:V) (S:St):F26 self N x0 x1 x2 S =
(qbf x2 S).bind fun p3=>
(qa4 E0 .add 3 false false x1 p3.1).bind fun t4=>
(qbf x0 p3.2).bind fun p6=>
(qa4 E0 .leq 3 false false t4 p6.1).bind fun t7=>
(qa0 true t7).bind fun g9=>(bif g9 then some x0 else some (.tuple [])).bind fun t9=>
(qa0 true t7).bind fun g10=>(bif g10 then some x1 else some (.tuple [])).bind fun t10=>
(qa0 true t7).bind fun g11=>(bif g11 then some x1 else some (.tuple [])).bind fun t11=>
(qa0 true t7).bind fun g12=>(bif g12 then some x2 else some (.tuple [])).bind fun t12=>
(qa0 true t7).bind fun g13=>(bif g13 then qbf t12 p6.2 else some (.tuple [],p6.2)).bind fun p13=>
(qa0 true t7).bind fun g14=>(bif g14 then qa4 E0 .add 3 false false t11 p13.1 else some (.tuple [])).bind fun t14=>
(qa0 true t7).bind fun g15=>(bif g15 then qah E0 9 t9 (some t10) (some t14) none p13.2 else some (.tuple [],p13.2)).bind fun p15=>
(qa0 true t7).bind fun g16=>(bif g16 then some x2 else some (.tuple [])).bind fun t16=>
(qa0 true t7).bind fun g17=>(bif g17 then qa4 E0 .eql 9 false false p15.1 t16 else some (.tuple [])).bind fun t17=>
(qac t7 (some t17) (some (.bool false))).bind fun t18=>
some (.ret t18,p15.2):=by kernel_rfl
def C28:Code:=Tryd.f28.body.getD .skip
def B28:D:=(qaq C28 [[],[]]).1
def F28 (self:EV) (N:Nat) (x0:V) (S:St):Rs:=qd4 E0 self N Tryd.f28 B28 [x0] S
theorem F28_eq (self:EV) (N:Nat) (x0:V) (S:St):F28 self N x0 S =
(some (nwP 29 2 (Tr.ofListFrom .nil [(.int .i64 0),(.int .i64 0)] 0) S)).bind fun p0=>
(qa7 E0 29 [(0,(.int .i64 19)),(1,x0)]).bind fun t2=>
(stP 2 p0.1 t2 p0.2).bind fun p3=>
(ldrA 2 p0.1 p3.2).bind fun p4=>
some (.ret p4.1,p4.2):=by kernel_rfl
def C75:Code:=Tryd.f75.body.getD .skip
def B75:D:=(qaq C75 [[],[],[0,1,5],[],[],[],[],[],[],[0],[4],[]]).1
def RL75:List Nat:=cellsOf Tryd.f75.results.toList
def R75_1 (self:EV) (N:Nat) (nk:Ac->St->Rs) (ek:Nat->Ac->St->Rs) (a:Ac) (S:St):Rs:=qak [] a fun a=>dr E0 self RL75 N (B75.r).r (mkK E0 self Tryd.f75 nk ek) a S
theorem R75_1_eq (self:EV) (N:Nat) (nk:Ac->St->Rs) (ek:Nat->Ac->St->Rs) (S:St):R75_1 self N nk ek (fr 17 []) S =
some (.ret (.bool false),S):=by kernel_rfl
def L75_4 (self:EV) (N:Nat) (nk:Ac->St->Rs) (ek:Nat->Ac->St->Rs) (n:Nat) ( v0 v1 v5:V) (S:St):Rs:=qc3 [0,1,5] (dr E0 self RL75 N (B75.r.l.r.l.l)) (mkK E0 self Tryd.f75 nk ek) n (fr 17 [(0,v0),(1,v1),(5,v5)]) S
theorem L75_4_eq (self:EV) (N:Nat) (nk:Ac->St->Rs) (ek:Nat->Ac->St->Rs) (n:Nat) ( v0 v1 v5:V) (S:St):L75_4 self N nk ek (n+1) v0 v1 v5 S =
(qbf v0 S).bind fun p7=>
(qa4 E0 .lss 3 false false v5 p7.1).bind fun t8=>
ifK t8 (
(ixS v0 v5).bind fun t11=>
(qa4 E0 .eql 5 false false t11 v1).bind fun t13=>
ifK t13 (
some (.ret (.bool true),p7.2)) (
(qa4 E0 .add 3 false true v5 (.int .i64 1)).bind fun t16=>
L75_4 self N nk ek n v0 v1 t16 p7.2)) (
ek 0 (fr 17 []) p7.2):=by kernel_rfl
def F75 (self:EV) (N:Nat) (x0 x1:V) (S:St):Rs:=qd4 E0 self N Tryd.f75 B75 [x0,x1] S
theorem F75_eq (self:EV) (N:Nat) (x0 x1:V) (S:St):F75 self N x0 x1 S =
L75_4 self N (R75_1 self N (qbt E0 self Tryd.f75) qas) (exB 0 (R75_1 self N (qbt E0 self Tryd.f75) qas) qas) N x0 x1 (.int .i64 0) S:=by kernel_rfl
def C50:Code:=Tryd.f50.body.getD .skip
def B50:D:=(qaq C50 [[],[],[],[],[],[],[],[],[],[]]).1
def F50 (self:EV) (N:Nat) (x0 x1:V) (S:St):Rs:=qd4 E0 self N Tryd.f50 B50 [x0,x1] S
theorem F50_eq (self:EV) (N:Nat) (x0 x1:V) (S:St):F50 self N x0 x1 S =
(qa4 E0 .eql 3 false true x1 (.int .i64 0)).bind fun t2=>
ifK t2 (
(qa4 E0 .eql 5 false true x0 (.int .u8 32)).bind fun t5=>
(qa0 false t5).bind fun g7=>(bif g7 then some x0 else some (.tuple [])).bind fun t7=>
(qa0 false t5).bind fun g8=>(bif g8 then qa4 E0 .eql 5 false true t7 (.int .u8 9)else some (.tuple [])).bind fun t8=>
(qac t5 (some (.bool true)) (some t8)).bind fun t9=>
(qa0 false t9).bind fun g11=>(bif g11 then some x0 else some (.tuple [])).bind fun t11=>
(qa0 false t9).bind fun g12=>(bif g12 then qa4 E0 .eql 5 false true t11 (.int .u8 10)else some (.tuple [])).bind fun t12=>
(qac t9 (some (.bool true)) (some t12)).bind fun t13=>
(qa0 false t13).bind fun g15=>(bif g15 then some x0 else some (.tuple [])).bind fun t15=>
(qa0 false t13).bind fun g16=>callP (bif g16 then self.f 75 [(sv [59,38,124,40,41,60,62]),t15] S else some (.ret (.tuple []),S)) fun t16 S16=>
(qac t13 (some (.bool true)) (some t16)).bind fun t17=>
some (.ret t17,S16)) (
(qa4 E0 .eql 3 false true x1 (.int .i64 1)).bind fun t19=>
ifK t19 (
(qa4 E0 .eql 5 false true x0 (.int .u8 34)).bind fun t22=>
some (.ret t22,S)) (
(qa4 E0 .eql 3 false true x1 (.int .i64 2)).bind fun t24=>
ifK t24 (
some (.ret (.bool false),S)) (
(qa4 E0 .eql 5 false true x0 (.int .u8 125)).bind fun t28=>
some (.ret t28,S)))):=by kernel_rfl
def C78:Code:=Tryd.f78.body.getD .skip
def B78:D:=(qaq C78 [[],[]]).1
def F78 (self:EV) (N:Nat) (S:St):Rs:=qd4 E0 self N Tryd.f78 B78 [] S
theorem F78_eq (self:EV) (N:Nat) (S:St):F78 self N S =
(bsP 9 1 12 (Ev.one (sv [])) [(0,(sv [58,45])),(1,(sv [58,61])),(2,(sv [58,43])),(3,(sv [58,63])),(4,(sv [35,35])),(5,(sv [37,37])),(6,(sv [45])),(7,(sv [61])),(8,(sv [43])),(9,(sv [63])),(10,(sv [35])),(11,(sv [37]))] S).bind fun p1=>
some (.ret p1.1,p1.2):=by kernel_rfl
def C30:Code:=Tryd.f30.body.getD .skip
def B30:D:=(qaq C30 [[],[],[],[0,1,5,6],[],[],[],[],[],[],[0],[4],[]]).1
def RL30:List Nat:=cellsOf Tryd.f30.results.toList
def R30_3 (self:EV) (N:Nat) (nk:Ac->St->Rs) (ek:Nat->Ac->St->Rs) (a:Ac) (S:St):Rs:=qak [] a fun a=>dr E0 self RL30 N (B30.r.r).r (mkK E0 self Tryd.f30 nk ek) a S
theorem R30_3_eq (self:EV) (N:Nat) (nk:Ac->St->Rs) (ek:Nat->Ac->St->Rs) (S:St):R30_3 self N nk ek (fr 25 []) S =
some (.ret (sv []),S):=by kernel_rfl
def L30_6 (self:EV) (N:Nat) (nk:Ac->St->Rs) (ek:Nat->Ac->St->Rs) (n:Nat) ( v0 v1 v5 v6:V) (S:St):Rs:=qc3 [0,1,5,6] (dr E0 self RL30 N (B30.r.r.l.r.l.l)) (mkK E0 self Tryd.f30 nk ek) n (fr 25 [(0,v0),(1,v1),(5,v5),(6,v6)]) S
theorem L30_6_eq (self:EV) (N:Nat) (nk:Ac->St->Rs) (ek:Nat->Ac->St->Rs) (n:Nat) ( v0 v1 v5 v6:V) (S:St):L30_6 self N nk ek (n+1) v0 v1 v5 v6 S =
(lnS v5 S).bind fun p9=>
(qa4 E0 .lss 3 false false v6 p9.1).bind fun t10=>
ifK t10 (
(ixP 1 v5 v6).bind fun t15=>
(ld1 t15 p9.2).bind fun p16=>
callP (self.f 26 [v0,v1,p16.1] p16.2) fun t17 S17=>
ifK t17 (
(ixP 1 v5 v6).bind fun t20=>
(ld1 t20 S17).bind fun p21=>
some (.ret p21.1,p21.2)) (
(qa4 E0 .add 3 false true v6 (.int .i64 1)).bind fun t24=>
L30_6 self N nk ek n v0 v1 v5 t24 S17)) (
ek 0 (fr 25 []) p9.2):=by kernel_rfl
def F30 (self:EV) (N:Nat) (x0 x1:V) (S:St):Rs:=qd4 E0 self N Tryd.f30 B30 [x0,x1] S
theorem F30_eq (self:EV) (N:Nat) (x0 x1:V) (S:St):F30 self N x0 x1 S =
(bsP 9 1 12 (Ev.one (sv [])) [(0,(sv [59,59])),(1,(sv [59])),(2,(sv [38,38])),(3,(sv [124,124])),(4,(sv [124])),(5,(sv [40])),(6,(sv [41])),(7,(sv [60,60])),(8,(sv [60])),(9,(sv [62,62])),(10,(sv [62,38])),(11,(sv [62]))] S).bind fun p1=>
L30_6 self N (R30_3 self N (qbt E0 self Tryd.f30) qas) (exB 0 (R30_3 self N (qbt E0 self Tryd.f30) qas) qas) N x0 x1 p1.1 (.int .i64 0) p1.2:=by kernel_rfl
def C31:Code:=Tryd.f31.body.getD .skip
def B31:D:=(qaq C31 [[],[],[],[],[0,5,6,7],[],[5,6],[],[],[],[],[],[],[0,5,6],[2,3,4],[]]).1
def RL31:List Nat:=cellsOf Tryd.f31.results.toList
def R31_5 (self:EV) (N:Nat) (nk:Ac->St->Rs) (ek:Nat->Ac->St->Rs) (a:Ac) (S:St):Rs:=qak [5,6] a fun a=>dr E0 self RL31 N (B31.r.r.r).r (mkK E0 self Tryd.f31 nk ek) a S
theorem R31_5_eq (self:EV) (N:Nat) (nk:Ac->St->Rs) (ek:Nat->Ac->St->Rs) ( v5 v6:V) (S:St):R31_5 self N nk ek (fr 46 [(5,v5),(6,v6)]) S =
some (.ret (.tuple [v5,v6,(.bool true)]),S):=by kernel_rfl
def L31_12 (self:EV) (N:Nat) (nk:Ac->St->Rs) (ek:Nat->Ac->St->Rs) (n:Nat) ( v0 v5 v6 v7:V) (S:St):Rs:=qc3 [0,5,6,7] (dr E0 self RL31 N (B31.r.r.r.l.r.l.l)) (mkK E0 self Tryd.f31 nk ek) n (fr 46 [(0,v0),(5,v5),(6,v6),(7,v7)]) S
theorem L31_12_eq (self:EV) (N:Nat) (nk:Ac->St->Rs) (ek:Nat->Ac->St->Rs) (n:Nat) ( v0 v5 v6 v7:V) (S:St):L31_12 self N nk ek (n+1) v0 v5 v6 v7 S =
(lnS v0 S).bind fun p15=>
(qa4 E0 .lss 3 false false v7 p15.1).bind fun t16=>
ifK t16 (
(ixP 6 v0 v7).bind fun t19=>
(faP 0 false 1 t19).bind fun t20=>
(ld1 t20 p15.2).bind fun p21=>
(qa4 E0 .neq 3 false true p21.1 (.int .i64 0)).bind fun t22=>
(qa0 true t22).bind fun g24=>(bif g24 then some v0 else some (.tuple [])).bind fun t24=>
(qa0 true t22).bind fun g25=>(bif g25 then some v7 else some (.tuple [])).bind fun t25=>
(qa0 true t22).bind fun g26=>(bif g26 then ixP 6 t24 t25 else some (.tuple [])).bind fun t26=>
(qa0 true t22).bind fun g27=>(bif g27 then faP 0 false 1 t26 else some (.tuple [])).bind fun t27=>
(qa0 true t22).bind fun g28=>(bif g28 then ld1 t27 p21.2 else some (.tuple [],p21.2)).bind fun p28=>
(qa0 true t22).bind fun g29=>(bif g29 then qa4 E0 .neq 3 false true p28.1 (.int .i64 1)else some (.tuple [])).bind fun t29=>
(qac t22 (some t29) (some (.bool false))).bind fun t30=>
ifK t30 (
some (.ret (.tuple [(sv []),(.bool false),(.bool false)]),p28.2)) (
(ixP 6 v0 v7).bind fun t37=>
(faP 1 false 1 t37).bind fun t38=>
(ld1 t38 p28.2).bind fun p39=>
(qa4 E0 .add 9 false false v5 p39.1).bind fun t40=>
(qa0 false v6).bind fun g44=>(bif g44 then some v0 else some (.tuple [])).bind fun t44=>
(qa0 false v6).bind fun g45=>(bif g45 then some v7 else some (.tuple [])).bind fun t45=>
(qa0 false v6).bind fun g46=>(bif g46 then ixP 6 t44 t45 else some (.tuple [])).bind fun t46=>
(qa0 false v6).bind fun g47=>(bif g47 then faP 0 false 1 t46 else some (.tuple [])).bind fun t47=>
(qa0 false v6).bind fun g48=>(bif g48 then ld1 t47 p39.2 else some (.tuple [],p39.2)).bind fun p48=>
(qa0 false v6).bind fun g49=>(bif g49 then qa4 E0 .eql 3 false true p48.1 (.int .i64 1)else some (.tuple [])).bind fun t49=>
(qac v6 (some (.bool true)) (some t49)).bind fun t50=>
(qa4 E0 .add 3 false true v7 (.int .i64 1)).bind fun t53=>
L31_12 self N nk ek n v0 t40 t50 t53 p48.2)) (
ek 0 (fr 46 [(5,v5),(6,v6)]) p15.2):=by kernel_rfl
def F31 (self:EV) (N:Nat) (x0:V) (S:St):Rs:=qd4 E0 self N Tryd.f31 B31 [x0] S
theorem F31_eq (self:EV) (N:Nat) (x0:V) (S:St):F31 self N x0 S =
L31_12 self N (R31_5 self N (qbt E0 self Tryd.f31) qas) (exB 0 (R31_5 self N (qbt E0 self Tryd.f31) qas) qas) N x0 (sv []) (.bool false) (.int .i64 0) S:=by kernel_rfl
def C102:Code:=Tryd.f102.body.getD .skip
def B102:D:=(qaq C102 [[],[]]).1
def F102 (self:EV) (N:Nat) (x0:V) (S:St):Rs:=qd4 E0 self N Tryd.f102 B102 [x0] S
theorem F102_eq (self:EV) (N:Nat) (x0:V) (S:St):F102 self N x0 S =
(qa4 E0 .geq 5 false true x0 (.int .u8 97)).bind fun t2=>
(qa0 true t2).bind fun g4=>(bif g4 then some x0 else some (.tuple [])).bind fun t4=>
(qa0 true t2).bind fun g5=>(bif g5 then qa4 E0 .leq 5 false true t4 (.int .u8 122)else some (.tuple [])).bind fun t5=>
(qac t2 (some t5) (some (.bool false))).bind fun t6=>
(qa0 false t6).bind fun g8=>(bif g8 then some x0 else some (.tuple [])).bind fun t8=>
(qa0 false t6).bind fun g9=>(bif g9 then qa4 E0 .geq 5 false true t8 (.int .u8 65)else some (.tuple [])).bind fun t9=>
(qa0 false t6).bind fun g10=>(bif g10 then some t9 else some (.tuple [])).bind fun t10=>
(qa0 true t10).bind fun g11=>(bif g11 then some x0 else some (.tuple [])).bind fun t11=>
(qa0 true t10).bind fun g12=>(bif g12 then qa4 E0 .leq 5 false true t11 (.int .u8 90)else some (.tuple [])).bind fun t12=>
(qa0 false t6).bind fun g13=>(bif g13 then qac t10 (some t12) (some (.bool false))else some (.tuple [])).bind fun t13=>
(qac t6 (some (.bool true)) (some t13)).bind fun t14=>
(qa0 false t14).bind fun g16=>(bif g16 then some x0 else some (.tuple [])).bind fun t16=>
(qa0 false t14).bind fun g17=>(bif g17 then qa4 E0 .eql 5 false true t16 (.int .u8 95)else some (.tuple [])).bind fun t17=>
(qac t14 (some (.bool true)) (some t17)).bind fun t18=>
some (.ret t18,S):=by kernel_rfl
def C93:Code:=Tryd.f93.body.getD .skip
def B93:D:=(qaq C93 [[],[]]).1
def F93 (self:EV) (N:Nat) (x0:V) (S:St):Rs:=qd4 E0 self N Tryd.f93 B93 [x0] S
theorem F93_eq (self:EV) (N:Nat) (x0:V) (S:St):F93 self N x0 S =
(qa4 E0 .geq 5 false true x0 (.int .u8 48)).bind fun t2=>
(qa0 true t2).bind fun g4=>(bif g4 then some x0 else some (.tuple [])).bind fun t4=>
(qa0 true t2).bind fun g5=>(bif g5 then qa4 E0 .leq 5 false true t4 (.int .u8 57)else some (.tuple [])).bind fun t5=>
(qac t2 (some t5) (some (.bool false))).bind fun t6=>
some (.ret t6,S):=by kernel_rfl
def C92:Code:=Tryd.f92.body.getD .skip
def B92:D:=(qaq C92 [[],[],[0,1,5],[],[5],[],[0,5],[4],[]]).1
def RL92:List Nat:=cellsOf Tryd.f92.results.toList
def R92_2 (self:EV) (N:Nat) (nk:Ac->St->Rs) (ek:Nat->Ac->St->Rs) (a:Ac) (S:St):Rs:=qak [5] a fun a=>dr E0 self RL92 N (B92.r.r).r (mkK E0 self Tryd.f92 nk ek) a S
theorem R92_2_eq (self:EV) (N:Nat) (nk:Ac->St->Rs) (ek:Nat->Ac->St->Rs) ( v5:V) (S:St):R92_2 self N nk ek (fr 35 [(5,v5)]) S =
some (.ret v5,S):=by kernel_rfl
def L92_5 (self:EV) (N:Nat) (nk:Ac->St->Rs) (ek:Nat->Ac->St->Rs) (n:Nat) ( v0 v1 v5:V) (S:St):Rs:=qc3 [0,1,5] (dr E0 self RL92 N (B92.r.r.l.l.l)) (mkK E0 self Tryd.f92 nk ek) n (fr 35 [(0,v0),(1,v1),(5,v5)]) S
theorem L92_5_eq (self:EV) (N:Nat) (nk:Ac->St->Rs) (ek:Nat->Ac->St->Rs) (n:Nat) ( v0 v1 v5:V) (S:St):L92_5 self N nk ek (n+1) v0 v1 v5 S =
(qa4 E0 .add 3 false false v1 v5).bind fun t8=>
(qbf v0 S).bind fun p10=>
(qa4 E0 .lss 3 false false t8 p10.1).bind fun t11=>
(qa0 true t11).bind fun g13=>(bif g13 then some v0 else some (.tuple [])).bind fun t13=>
(qa0 true t11).bind fun g14=>(bif g14 then some v1 else some (.tuple [])).bind fun t14=>
(qa0 true t11).bind fun g15=>(bif g15 then some v5 else some (.tuple [])).bind fun t15=>
(qa0 true t11).bind fun g16=>(bif g16 then qa4 E0 .add 3 false false t14 t15 else some (.tuple [])).bind fun t16=>
(qa0 true t11).bind fun g17=>(bif g17 then ixS t13 t16 else some (.tuple [])).bind fun t17=>
(qa0 true t11).bind fun g18=>callP (bif g18 then self.f 102 [t17] p10.2 else some (.ret (.tuple []),p10.2)) fun t18 S18=>
(qa0 true t11).bind fun g19=>(bif g19 then some t18 else some (.tuple [])).bind fun t19=>
(qa0 false t19).bind fun g20=>(bif g20 then some v5 else some (.tuple [])).bind fun t20=>
(qa0 false t19).bind fun g21=>(bif g21 then qa4 E0 .gtr 3 false true t20 (.int .i64 0)else some (.tuple [])).bind fun t21=>
(qa0 false t19).bind fun g22=>(bif g22 then some t21 else some (.tuple [])).bind fun t22=>
(qa0 true t22).bind fun g23=>(bif g23 then some v0 else some (.tuple [])).bind fun t23=>
(qa0 true t22).bind fun g24=>(bif g24 then some v1 else some (.tuple [])).bind fun t24=>
(qa0 true t22).bind fun g25=>(bif g25 then some v5 else some (.tuple [])).bind fun t25=>
(qa0 true t22).bind fun g26=>(bif g26 then qa4 E0 .add 3 false false t24 t25 else some (.tuple [])).bind fun t26=>
(qa0 true t22).bind fun g27=>(bif g27 then ixS t23 t26 else some (.tuple [])).bind fun t27=>
(qa0 true t22).bind fun g28=>callP (bif g28 then self.f 93 [t27] S18 else some (.ret (.tuple []),S18)) fun t28 S28=>
(qa0 false t19).bind fun g29=>(bif g29 then qac t22 (some t28) (some (.bool false))else some (.tuple [])).bind fun t29=>
(qa0 true t11).bind fun g30=>(bif g30 then qac t19 (some (.bool true)) (some t29)else some (.tuple [])).bind fun t30=>
(qac t11 (some t30) (some (.bool false))).bind fun t31=>
ifK t31 (
(qa4 E0 .add 3 false true v5 (.int .i64 1)).bind fun t33=>
L92_5 self N nk ek n v0 v1 t33 S28) (
ek 0 (fr 35 [(5,v5)]) S28):=by kernel_rfl
def F92 (self:EV) (N:Nat) (x0 x1:V) (S:St):Rs:=qd4 E0 self N Tryd.f92 B92 [x0,x1] S
theorem F92_eq (self:EV) (N:Nat) (x0 x1:V) (S:St):F92 self N x0 x1 S =
L92_5 self N (R92_2 self N (qbt E0 self Tryd.f92) qas) (exB 0 (R92_2 self N (qbt E0 self Tryd.f92) qas) qas) N x0 x1 (.int .i64 0) S:=by kernel_rfl
def C77:Code:=Tryd.f77.body.getD .skip
def B77:D:=(qaq C77 [[],[],[],[],[]]).1
def F77 (self:EV) (N:Nat) (x0 x1 x2:V) (S:St):Rs:=qd4 E0 self N Tryd.f77 B77 [x0,x1,x2] S
theorem F77_eq (self:EV) (N:Nat) (x0 x1 x2:V) (S:St):F77 self N x0 x1 x2 S =
callP (self.f 92 [x0,x1] S) fun t3 S3=>
(qa4 E0 .eql 3 false true t3 (.int .i64 0)).bind fun t6=>
(qa0 true t6).bind fun g8=>(bif g8 then some x1 else some (.tuple [])).bind fun t8=>
(qa0 true t6).bind fun g9=>(bif g9 then some x0 else some (.tuple [])).bind fun t9=>
(qa0 true t6).bind fun g10=>(bif g10 then qbf t9 S3 else some (.tuple [],S3)).bind fun p10=>
(qa0 true t6).bind fun g11=>(bif g11 then qa4 E0 .lss 3 false false t8 p10.1 else some (.tuple [])).bind fun t11=>
(qac t6 (some t11) (some (.bool false))).bind fun t12=>
(qa0 true t12).bind fun g14=>(bif g14 then some x0 else some (.tuple [])).bind fun t14=>
(qa0 true t12).bind fun g15=>(bif g15 then some x1 else some (.tuple [])).bind fun t15=>
(qa0 true t12).bind fun g16=>(bif g16 then ixS t14 t15 else some (.tuple [])).bind fun t16=>
(qa0 true t12).bind fun g17=>callP (bif g17 then self.f 93 [t16] p10.2 else some (.ret (.tuple []),p10.2)) fun t17 S17=>
(qa0 true t12).bind fun g18=>(bif g18 then some t17 else some (.tuple [])).bind fun t18=>
(qa0 false t18).bind fun g19=>(bif g19 then some x2 else some (.tuple [])).bind fun t19=>
(qa0 false t18).bind fun g20=>(bif g20 then some x0 else some (.tuple [])).bind fun t20=>
(qa0 false t18).bind fun g21=>(bif g21 then some x1 else some (.tuple [])).bind fun t21=>
(qa0 false t18).bind fun g22=>(bif g22 then ixS t20 t21 else some (.tuple [])).bind fun t22=>
(qa0 false t18).bind fun g23=>callP (bif g23 then self.f 75 [t19,t22] S17 else some (.ret (.tuple []),S17)) fun t23 S23=>
(qa0 true t12).bind fun g24=>(bif g24 then qac t18 (some (.bool true)) (some t23)else some (.tuple [])).bind fun t24=>
(qac t12 (some t24) (some (.bool false))).bind fun t25=>
ifK t25 (
some (.ret (.int .i64 1),S23)) (
some (.ret t3,S23)):=by kernel_rfl
end
noncomputable section
def C76:Code:=Tryd.f76.body.getD .skip
def B76:D:=(qaq C76 [[],[],[0,1,5],[],[],[],[],[],[],[],[0,1,5],[],[0,1,5],[],[],[],[],[],[],[],[],[],[],[0,0,1,5],[0,1,5],[0],[4],[]]).1
def RL76:List Nat:=cellsOf Tryd.f76.results.toList
def R76_2 (self:EV) (N:Nat) (nk:Ac->St->Rs) (ek:Nat->Ac->St->Rs) (a:Ac) (S:St):Rs:=qak [] a fun a=>dr E0 self RL76 N (B76.r.r).r (mkK E0 self Tryd.f76 nk ek) a S
theorem R76_2_eq (self:EV) (N:Nat) (nk:Ac->St->Rs) (ek:Nat->Ac->St->Rs) (S:St):R76_2 self N nk ek (fr 54 []) S =
some (.ret (.int .i64 (-1)),S):=by kernel_rfl
def qf7 (self:EV) (N:Nat) (nk:Ac->St->Rs) (ek:Nat->Ac->St->Rs) (n:Nat):Ac->St->Rs:=fun a S=>qak [0,1,5] a fun a=>qc3 [0,1,5] (dr E0 self RL76 N (B76.r.r.l.l.l)) (mkK E0 self Tryd.f76 nk ek) n a S
def L76_4 (self:EV) (N:Nat) (nk:Ac->St->Rs) (ek:Nat->Ac->St->Rs) (n:Nat) ( v0 v1 v5:V) (S:St):Rs:=qc3 [0,1,5] (dr E0 self RL76 N (B76.r.r.l.l.l)) (mkK E0 self Tryd.f76 nk ek) n (fr 54 [(0,v0),(1,v1),(5,v5)]) S
def R76_9 (self:EV) (N:Nat) (nk:Ac->St->Rs) (ek:Nat->Ac->St->Rs) (a:Ac) (S:St):Rs:=qak [0,1,5] a fun a=>dr E0 self RL76 N (B76.r.r.l.l.l.r.l).r (mkK E0 self Tryd.f76 nk ek) a S
theorem R76_9_eq (self:EV) (N:Nat) (nk:Ac->St->Rs) (ek:Nat->Ac->St->Rs) ( v0 v1 v5:V) (S:St):R76_9 self N nk ek (fr 54 [(0,v0),(1,v1),(5,v5)]) S =
(qa4 E0 .add 3 false true v1 (.int .i64 1)).bind fun t11=>
nk (fr 54 [(0,v0),(1,t11),(5,v5)]) S:=by kernel_rfl
def L76_26 (self:EV) (N:Nat) (nk:Ac->St->Rs) (ek:Nat->Ac->St->Rs) (n:Nat) ( v0 v1 v5:V) (S:St):Rs:=qc3 [0,1,5] (dr E0 self RL76 N (B76.r.r.l.l.l.r.l.l.r.l.r.r.r.l.r.l.l)) (mkK E0 self Tryd.f76 nk ek) n (fr 54 [(0,v0),(1,v1),(5,v5)]) S
theorem L76_26_eq (self:EV) (N:Nat) (nk:Ac->St->Rs) (ek:Nat->Ac->St->Rs) (n:Nat) ( v0 v1 v5:V) (S:St):L76_26 self N nk ek (n+1) v0 v1 v5 S =
(qbf v0 S).bind fun p29=>
(qa4 E0 .lss 3 false false v1 p29.1).bind fun t30=>
(qa0 true t30).bind fun g32=>(bif g32 then some v0 else some (.tuple [])).bind fun t32=>
(qa0 true t30).bind fun g33=>(bif g33 then some v1 else some (.tuple [])).bind fun t33=>
(qa0 true t30).bind fun g34=>(bif g34 then ixS t32 t33 else some (.tuple [])).bind fun t34=>
(qa0 true t30).bind fun g35=>(bif g35 then qa4 E0 .neq 5 false true t34 (.int .u8 39)else some (.tuple [])).bind fun t35=>
(qac t30 (some t35) (some (.bool false))).bind fun t36=>
ifK t36 (
(qa4 E0 .add 3 false true v1 (.int .i64 1)).bind fun t38=>
L76_26 self N nk ek n v0 t38 v5 p29.2) (
ek 3 (fr 54 [(0,v0),(1,v1),(5,v5)]) p29.2):=by kernel_rfl
theorem L76_4_eq (self:EV) (N:Nat) (nk:Ac->St->Rs) (ek:Nat->Ac->St->Rs) (n:Nat) ( v0 v1 v5:V) (S:St):L76_4 self N nk ek (n+1) v0 v1 v5 S =
(qbf v0 S).bind fun p7=>
(qa4 E0 .lss 3 false false v1 p7.1).bind fun t8=>
ifK t8 (
(ixS v0 v1).bind fun t15=>
(qa4 E0 .eql 5 false true t15 (.int .u8 92)).bind fun t16=>
ifK t16 (
(qa4 E0 .add 3 false true v1 (.int .i64 1)).bind fun t19=>
R76_9 self N (qf7 self N nk ek n) (exB 1 (qf7 self N nk ek n) ek) (fr 54 [(0,v0),(1,t19),(5,v5)]) p7.2) (
(qa4 E0 .eql 5 false true t15 (.int .u8 39)).bind fun t21=>
ifK t21 (
(qa4 E0 .add 3 false true v1 (.int .i64 1)).bind fun t24=>
L76_26 self N (R76_9 self N (qf7 self N nk ek n) (exB 1 (qf7 self N nk ek n) ek)) (exB 3 (R76_9 self N (qf7 self N nk ek n) (exB 1 (qf7 self N nk ek n) ek)) (exB 2 (R76_9 self N (qf7 self N nk ek n) (exB 1 (qf7 self N nk ek n) ek)) (exB 1 (qf7 self N nk ek n) ek))) N v0 t24 v5 p7.2) (
(qa4 E0 .eql 5 false true t15 (.int .u8 34)).bind fun t40=>
ifK t40 (
(qa4 E0 .add 3 false true v1 (.int .i64 1)).bind fun t44=>
callP (self.f 91 [v0,t44] p7.2) fun t45 S45=>
(qa4 E0 .lss 3 false true t45 (.int .i64 0)).bind fun t48=>
ifK t48 (
some (.ret (.int .i64 (-1)),S45)) (
R76_9 self N (qf7 self N nk ek n) (exB 1 (qf7 self N nk ek n) ek) (fr 54 [(0,v0),(1,t45),(5,v5)]) S45)) (
(qa4 E0 .eql 5 false true t15 (.int .u8 40)).bind fun t50=>
ifK t50 (
(qa4 E0 .add 3 false true v5 (.int .i64 1)).bind fun t53=>
R76_9 self N (qf7 self N nk ek n) (exB 1 (qf7 self N nk ek n) ek) (fr 54 [(0,v0),(1,v1),(5,t53)]) p7.2) (
(qa4 E0 .eql 5 false true t15 (.int .u8 41)).bind fun t55=>
ifK t55 (
(qa4 E0 .sub 3 false true v5 (.int .i64 1)).bind fun t58=>
(qa4 E0 .eql 3 false true t58 (.int .i64 0)).bind fun t61=>
ifK t61 (
some (.ret v1,p7.2)) (
R76_9 self N (qf7 self N nk ek n) (exB 1 (qf7 self N nk ek n) ek) (fr 54 [(0,v0),(1,v1),(5,t58)]) p7.2)) (
R76_9 self N (qf7 self N nk ek n) (exB 1 (qf7 self N nk ek n) ek) (fr 54 [(0,v0),(1,v1),(5,v5)]) p7.2)))))) (
ek 0 (fr 54 []) p7.2):=by kernel_rfl
theorem N76_4_eq (self:EV) (N:Nat) (nk:Ac->St->Rs) (ek:Nat->Ac->St->Rs) (n:Nat) ( v0 v1 v5:V) (S:St):qf7 self N nk ek n (fr 54 [(0,v0),(1,v1),(5,v5)]) S=L76_4 self N nk ek n v0 v1 v5 S:=by kernel_rfl
def F76 (self:EV) (N:Nat) (x0 x1:V) (S:St):Rs:=qd4 E0 self N Tryd.f76 B76 [x0,x1] S
theorem F76_eq (self:EV) (N:Nat) (x0 x1:V) (S:St):F76 self N x0 x1 S =
L76_4 self N (R76_2 self N (qbt E0 self Tryd.f76) qas) (exB 0 (R76_2 self N (qbt E0 self Tryd.f76) qas) qas) N x0 x1 (.int .i64 1) S:=by kernel_rfl
def C91:Code:=Tryd.f91.body.getD .skip
def B91:D:=(qaq C91 [[],[0,1],[],[],[],[],[],[],[],[],[],[],[],[0],[4],[]]).1
def RL91:List Nat:=cellsOf Tryd.f91.results.toList
def R91_1 (self:EV) (N:Nat) (nk:Ac->St->Rs) (ek:Nat->Ac->St->Rs) (a:Ac) (S:St):Rs:=qak [] a fun a=>dr E0 self RL91 N (B91.r).r (mkK E0 self Tryd.f91 nk ek) a S
theorem R91_1_eq (self:EV) (N:Nat) (nk:Ac->St->Rs) (ek:Nat->Ac->St->Rs) (S:St):R91_1 self N nk ek (fr 34 []) S =
some (.ret (.int .i64 (-1)),S):=by kernel_rfl
def L91_3 (self:EV) (N:Nat) (nk:Ac->St->Rs) (ek:Nat->Ac->St->Rs) (n:Nat) ( v0 v1:V) (S:St):Rs:=qc3 [0,1] (dr E0 self RL91 N (B91.r.l.l.l)) (mkK E0 self Tryd.f91 nk ek) n (fr 34 [(0,v0),(1,v1)]) S
theorem L91_3_eq (self:EV) (N:Nat) (nk:Ac->St->Rs) (ek:Nat->Ac->St->Rs) (n:Nat) ( v0 v1:V) (S:St):L91_3 self N nk ek (n+1) v0 v1 S =
(qbf v0 S).bind fun p6=>
(qa4 E0 .lss 3 false false v1 p6.1).bind fun t7=>
ifK t7 (
(ixS v0 v1).bind fun t10=>
(qa4 E0 .eql 5 false true t10 (.int .u8 92)).bind fun t11=>
ifK t11 (
(qa4 E0 .add 3 false true v1 (.int .i64 1)).bind fun t14=>
(qa4 E0 .add 3 false true t14 (.int .i64 1)).bind fun t17=>
L91_3 self N nk ek n v0 t17 p6.2) (
(ixS v0 v1).bind fun t21=>
(qa4 E0 .eql 5 false true t21 (.int .u8 34)).bind fun t22=>
ifK t22 (
some (.ret v1,p6.2)) (
callP (self.f 26 [v0,v1,(sv [36,40])] p6.2) fun t28 S28=>
ifK t28 (
(qa4 E0 .add 3 false true v1 (.int .i64 2)).bind fun t32=>
callP (self.f 76 [v0,t32] S28) fun t33 S33=>
(qa4 E0 .lss 3 false true t33 (.int .i64 0)).bind fun t36=>
ifK t36 (
some (.ret (.int .i64 (-1)),S33)) (
(qa4 E0 .add 3 false true t33 (.int .i64 1)).bind fun t39=>
L91_3 self N nk ek n v0 t39 S33)) (
(qa4 E0 .add 3 false true v1 (.int .i64 1)).bind fun t42=>
L91_3 self N nk ek n v0 t42 S28)))) (
ek 0 (fr 34 []) p6.2):=by kernel_rfl
def F91 (self:EV) (N:Nat) (x0 x1:V) (S:St):Rs:=qd4 E0 self N Tryd.f91 B91 [x0,x1] S
theorem F91_eq (self:EV) (N:Nat) (x0 x1:V) (S:St):F91 self N x0 x1 S =
L91_3 self N (R91_1 self N (qbt E0 self Tryd.f91) qas) (exB 0 (R91_1 self N (qbt E0 self Tryd.f91) qas) qas) N x0 x1 S:=by kernel_rfl
def C27:Code:=Tryd.f27.body.getD .skip
def B27:D:=(qaq C27 [[],[],[0,1,2,8],[],[],[],[],[0,1,2,8,9],[],[0,1,2,8,9],[],[0,0,1,2,8,9],[0,1,2,8],[],[],[],[],[0],[6,7],[]]).1
def RL27:List Nat:=cellsOf Tryd.f27.results.toList
def R27_4 (self:EV) (N:Nat) (nk:Ac->St->Rs) (ek:Nat->Ac->St->Rs) (a:Ac) (S:St):Rs:=qak [] a fun a=>dr E0 self RL27 N (B27.r.r).r (mkK E0 self Tryd.f27 nk ek) a S
theorem R27_4_eq (self:EV) (N:Nat) (nk:Ac->St->Rs) (ek:Nat->Ac->St->Rs) (S:St):R27_4 self N nk ek (fr 46 []) S =
some (.ret (.tuple [(sv []),(.int .i64 (-1))]),S):=by kernel_rfl
def N27_7 (self:EV) (N:Nat) (nk:Ac->St->Rs) (ek:Nat->Ac->St->Rs) (n:Nat):Ac->St->Rs:=fun a S=>qak [0,1,2,8] a fun a=>qc3 [0,1,2,8] (dr E0 self RL27 N (B27.r.r.l.l.l)) (mkK E0 self Tryd.f27 nk ek) n a S
def L27_7 (self:EV) (N:Nat) (nk:Ac->St->Rs) (ek:Nat->Ac->St->Rs) (n:Nat) ( v0 v1 v2 v8:V) (S:St):Rs:=qc3 [0,1,2,8] (dr E0 self RL27 N (B27.r.r.l.l.l)) (mkK E0 self Tryd.f27 nk ek) n (fr 46 [(0,v0),(1,v1),(2,v2),(8,v8)]) S
def R27_14 (self:EV) (N:Nat) (nk:Ac->St->Rs) (ek:Nat->Ac->St->Rs) (a:Ac) (S:St):Rs:=qak [0,1,2,8,9] a fun a=>dr E0 self RL27 N (B27.r.r.l.l.l.r.l.r).r (mkK E0 self Tryd.f27 nk ek) a S
theorem R27_14_eq (self:EV) (N:Nat) (nk:Ac->St->Rs) (ek:Nat->Ac->St->Rs) ( v0 v1 v2 v8 v9:V) (S:St):R27_14 self N nk ek (fr 46 [(0,v0),(1,v1),(2,v2),(8,v8),(9,v9)]) S =
(qa4 E0 .add 3 false true v9 (.int .i64 1)).bind fun t16=>
(qbf v0 S).bind fun p18=>
(qi6 minV t16 [p18.1] p18.2).bind fun p19=>
(qah E0 9 v0 (some v1) (some v9) none p19.2).bind fun p24=>
(qa4 E0 .eql 9 false false p24.1 v2).bind fun t26=>
ifK t26 (
(qah E0 9 v0 (some v8) (some v1) none p24.2).bind fun p30=>
some (.ret (.tuple [p30.1,p19.1]),p30.2)) (
nk (fr 46 [(0,v0),(1,p19.1),(2,v2),(8,v8)]) p24.2):=by kernel_rfl
def L27_36 (self:EV) (N:Nat) (nk:Ac->St->Rs) (ek:Nat->Ac->St->Rs) (n:Nat) ( v0 v1 v2 v8 v9:V) (S:St):Rs:=qc3 [0,1,2,8,9] (dr E0 self RL27 N (B27.r.r.l.l.l.r.l.r.l.l.l)) (mkK E0 self Tryd.f27 nk ek) n (fr 46 [(0,v0),(1,v1),(2,v2),(8,v8),(9,v9)]) S
theorem L27_36_eq (self:EV) (N:Nat) (nk:Ac->St->Rs) (ek:Nat->Ac->St->Rs) (n:Nat) ( v0 v1 v2 v8 v9:V) (S:St):L27_36 self N nk ek (n+1) v0 v1 v2 v8 v9 S =
(qbf v0 S).bind fun p39=>
(qa4 E0 .lss 3 false false v9 p39.1).bind fun t40=>
(qa0 true t40).bind fun g42=>(bif g42 then some v0 else some (.tuple [])).bind fun t42=>
(qa0 true t40).bind fun g43=>(bif g43 then some v9 else some (.tuple [])).bind fun t43=>
(qa0 true t40).bind fun g44=>(bif g44 then ixS t42 t43 else some (.tuple [])).bind fun t44=>
(qa0 true t40).bind fun g45=>(bif g45 then qa4 E0 .neq 5 false true t44 (.int .u8 10)else some (.tuple [])).bind fun t45=>
(qac t40 (some t45) (some (.bool false))).bind fun t46=>
ifK t46 (
(qa4 E0 .add 3 false true v9 (.int .i64 1)).bind fun t48=>
L27_36 self N nk ek n v0 v1 v2 v8 t48 p39.2) (
ek 2 (fr 46 [(0,v0),(1,v1),(2,v2),(8,v8),(9,v9)]) p39.2):=by kernel_rfl
theorem L27_7_eq (self:EV) (N:Nat) (nk:Ac->St->Rs) (ek:Nat->Ac->St->Rs) (n:Nat) ( v0 v1 v2 v8:V) (S:St):L27_7 self N nk ek (n+1) v0 v1 v2 v8 S =
(qbf v0 S).bind fun p10=>
(qa4 E0 .lss 3 false false v1 p10.1).bind fun t11=>
ifK t11 (
L27_36 self N (R27_14 self N (N27_7 self N nk ek n) (exB 1 (N27_7 self N nk ek n) ek)) (exB 2 (R27_14 self N (N27_7 self N nk ek n) (exB 1 (N27_7 self N nk ek n) ek)) (exB 1 (N27_7 self N nk ek n) ek)) N v0 v1 v2 v8 v1 p10.2) (
ek 0 (fr 46 []) p10.2):=by kernel_rfl
theorem N27_7_eq (self:EV) (N:Nat) (nk:Ac->St->Rs) (ek:Nat->Ac->St->Rs) (n:Nat) ( v0 v1 v2 v8:V) (S:St):N27_7 self N nk ek n (fr 46 [(0,v0),(1,v1),(2,v2),(8,v8)]) S=L27_7 self N nk ek n v0 v1 v2 v8 S:=by kernel_rfl
def F27 (self:EV) (N:Nat) (x0 x1 x2:V) (S:St):Rs:=qd4 E0 self N Tryd.f27 B27 [x0,x1,x2] S
theorem F27_eq (self:EV) (N:Nat) (x0 x1 x2:V) (S:St):F27 self N x0 x1 x2 S =
L27_7 self N (R27_4 self N (qbt E0 self Tryd.f27) qas) (exB 0 (R27_4 self N (qbt E0 self Tryd.f27) qas) qas) N x0 x1 x2 x1 S:=by kernel_rfl
end
noncomputable section
def C51:Code:=Tryd.f51.body.getD .skip
def B51:D:=(qaq C51 [[],[],[],[],[],[],[],[],[],[],[],[],[],[],[],[],[],[],[],[],[],[],[],[],[],[],[],[0,0,1,3,8,10,11,14],[8,9,10],[],[],[],[],[],[],[],[],[],[],[],[0,1,3,8,10,11,14,17,18,19],[],[0,1,3,8,10,11,14,17],[],[],[],[0,0,1,3,8,10,11,14,17],[8,9,10],[],[],[],[],[],[0,0,1,3,8,10,14,17,20],[8,9,10],[],[],[],[],[],[],[],[],[]]).1
def RL51:List Nat:=cellsOf Tryd.f51.results.toList
def qlr (self:EV) (N:Nat) (nk:Ac->St->Rs) (ek:Nat->Ac->St->Rs) (a:Ac) (S:St):Rs:=qak [0,1,3,8,10,11,14,17] a fun a=>dr E0 self RL51 N (B51.r.r.r.r.r.r.r.r.l.r.r.r.r.r.r).r (mkK E0 self Tryd.f51 nk ek) a S
def qjo (self:EV) (N:Nat) (nk:Ac->St->Rs) (ek:Nat->Ac->St->Rs) (n:Nat) ( v0 v1 v3 v8 v10 v11 v14 v17 v18 v19:V) (S:St):Rs:=qc3 [0,1,3,8,10,11,14,17,18,19] (dr E0 self RL51 N (B51.r.r.r.r.r.r.r.r.l.r.r.r.r.r.r.l.r.l.l)) (mkK E0 self Tryd.f51 nk ek) n (fr 219 [(0,v0),(1,v1),(3,v3),(8,v8),(10,v10),(11,v11),(14,v14),(17,v17),(18,v18),(19,v19)]) S
theorem qjp (self:EV) (N:Nat) (nk:Ac->St->Rs) (ek:Nat->Ac->St->Rs) (n:Nat) ( v0 v1 v3 v8 v10 v11 v14 v17 v18 v19:V) (S:St):qjo self N nk ek (n+1) v0 v1 v3 v8 v10 v11 v14 v17 v18 v19 S =
(lnS v18 S).bind fun p517=>
(qa4 E0 .lss 3 false false v19 p517.1).bind fun t518=>
(qa0 true t518).bind fun g520=>(bif g520 then faP 2 false 1 v17 else some (.tuple [])).bind fun t520=>
(qa0 true t518).bind fun g521=>(bif g521 then ld1 t520 p517.2 else some (.tuple [],p517.2)).bind fun p521=>
(qa0 true t518).bind fun g522=>(bif g522 then qa4 E0 .eql 9 false true p521.1 (sv [])else some (.tuple [])).bind fun t522=>
(qac t518 (some t522) (some (.bool false))).bind fun t523=>
ifK t523 (
(ixP 1 v18 v19).bind fun t528=>
(ld1 t528 p521.2).bind fun p529=>
callP (self.f 26 [v0,v14,p529.1] p529.2) fun t530 S530=>
ifK t530 (
(ixP 1 v18 v19).bind fun t533=>
(ld1 t533 S530).bind fun p534=>
(faP 2 false 1 v17).bind fun t535=>
(stP 1 t535 p534.1 p534.2).bind fun p536=>
(qa4 E0 .add 3 false true v19 (.int .i64 1)).bind fun t538=>
qjo self N nk ek n v0 v1 v3 v8 v10 v11 v14 v17 v18 t538 p536.2) (
(qa4 E0 .add 3 false true v19 (.int .i64 1)).bind fun t541=>
qjo self N nk ek n v0 v1 v3 v8 v10 v11 v14 v17 v18 t541 S530)) (
ek 0 (fr 219 [(0,v0),(1,v1),(3,v3),(8,v8),(10,v10),(11,v11),(14,v14),(17,v17)]) p521.2):=by kernel_rfl
def F51 (self:EV) (N:Nat) (x0 x1 x2 x3:V) (S:St):Rs:=qd4 E0 self N Tryd.f51 B51 [x0,x1,x2,x3] S
end
noncomputable section
def C29:Code:=Tryd.f29.body.getD .skip
def B29:D:=(qaq C29 [[],[],[],[],[],[0,1,2,3,10,11,12,13,14],[],[],[],[],[],[],[0,1,2,3,10,11,12,13,14],[],[],[],[0,1,2,3,10,11,12,13,14],[],[],[],[],[],[],[],[],[],[],[],[0,1,2,3,10,11,12,13,14],[],[],[],[],[],[],[],[],[],[],[],[],[0,1,2,3,10,11,12,13,14],[],[],[0,0,1,2,3,10,11,12,13,14,15,18,19],[0,1,2,3,10,11,12,13,14],[],[],[],[],[],[],[0,0,1,2,3,10,11,12,13,14,15,18,19],[0,1,2,3,10,11,12,13,14],[],[],[],[],[],[],[],[],[],[],[],[],[],[0,1,2,3,10,11,12,13,14,24],[],[0,1,2,3,10,11,12,13,14,24],[],[0,0,1,2,3,10,11,12,13,14,24],[0,1,2,3,10,11,12,13,14],[],[],[],[],[],[],[],[],[],[],[],[],[],[],[],[],[],[],[]]).1
def RL29:List Nat:=cellsOf Tryd.f29.results.toList
def qip (self:EV) (N:Nat) (nk:Ac->St->Rs) (ek:Nat->Ac->St->Rs) (n:Nat):Ac->St->Rs:=fun a S=>qak [0,1,2,3,10,11,12,13,14] a fun a=>qc3 [0,1,2,3,10,11,12,13,14] (dr E0 self RL29 N (B29.r.r.r.r.r.l.l)) (mkK E0 self Tryd.f29 nk ek) n a S
def qdx (self:EV) (N:Nat) (nk:Ac->St->Rs) (ek:Nat->Ac->St->Rs) (n:Nat) ( v0 v1 v2 v3 v10 v11 v12 v13 v14:V) (S:St):Rs:=qc3 [0,1,2,3,10,11,12,13,14] (dr E0 self RL29 N (B29.r.r.r.r.r.l.l)) (mkK E0 self Tryd.f29 nk ek) n (fr 316 [(0,v0),(1,v1),(2,v2),(3,v3),(10,v10),(11,v11),(12,v12),(13,v13),(14,v14)]) S
def R29_1146 (self:EV) (N:Nat) (nk:Ac->St->Rs) (ek:Nat->Ac->St->Rs) (a:Ac) (S:St):Rs:=qak [0,1,2,3,10,11,12,13,14,24] a fun a=>dr E0 self RL29 N (B29.r.r.r.r.r.l.l.l.r.r.r.r.r.r.r.r.l.r.l.r.r.l.r.r.r.r.r.l.r).r (mkK E0 self Tryd.f29 nk ek) a S
theorem R29_1146_eq (self:EV) (N:Nat) (nk:Ac->St->Rs) (ek:Nat->Ac->St->Rs) ( v0 v1 v2 v3 v10 v11 v12 v13 v14 v24:V) (S:St):R29_1146 self N nk ek (fr 316 [(0,v0),(1,v1),(2,v2),(3,v3),(10,v10),(11,v11),(12,v12),(13,v13),(14,v14),(24,v24)]) S =
(qbf v0 S).bind fun p1149=>
(qa4 E0 .geq 3 false false v24 p1149.1).bind fun t1150=>
ifK t1150 (
callP (self.f 28 [v1] p1149.2) fun t1153 S1153=>
(stP 2 v10 t1153 S1153).bind fun p1156=>
(ldrA 2 v10 p1156.2).bind fun p1157=>
some (.ret (.tuple [.nilslice,v1,p1157.1]),p1157.2)) (
(qa4 E0 .add 3 false true v1 (.int .i64 1)).bind fun t1161=>
(qah E0 9 v0 (some t1161) (some v24) none p1149.2).bind fun p1163=>
(qa7 E0 49 [(0,(.int .i64 1)),(1,p1163.1)]).bind fun t1164=>
(bsP 49 6 1 (Tr.ofListFrom .nil [(.int .i64 0),(sv []),(sv []),(.bool false),.nilslice,.nilptr] 0) [(0,t1164)] p1163.2).bind fun p1165=>
(apP 49 6 80 v11 p1165.1 p1165.2).bind fun p1166=>
(qa4 E0 .add 3 false true v24 (.int .i64 1)).bind fun t1169=>
nk (fr 316 [(0,v0),(1,t1169),(2,v2),(3,v3),(10,v10),(11,p1166.1),(12,v12),(13,v13),(14,v14)]) p1166.2):=by kernel_rfl
def qky (self:EV) (N:Nat) (nk:Ac->St->Rs) (ek:Nat->Ac->St->Rs) (n:Nat) ( v0 v1 v2 v3 v10 v11 v12 v13 v14 v24:V) (S:St):Rs:=qc3 [0,1,2,3,10,11,12,13,14,24] (dr E0 self RL29 N (B29.r.r.r.r.r.l.l.l.r.r.r.r.r.r.r.r.l.r.l.r.r.l.r.r.r.r.r.l.r.l.l.l)) (mkK E0 self Tryd.f29 nk ek) n (fr 316 [(0,v0),(1,v1),(2,v2),(3,v3),(10,v10),(11,v11),(12,v12),(13,v13),(14,v14),(24,v24)]) S
theorem qlm (self:EV) (N:Nat) (nk:Ac->St->Rs) (ek:Nat->Ac->St->Rs) (n:Nat) ( v0 v1 v2 v3 v10 v11 v12 v13 v14 v24:V) (S:St):qky self N nk ek (n+1) v0 v1 v2 v3 v10 v11 v12 v13 v14 v24 S =
(qbf v0 S).bind fun p1174=>
(qa4 E0 .lss 3 false false v24 p1174.1).bind fun t1175=>
(qa0 true t1175).bind fun g1177=>(bif g1177 then some v0 else some (.tuple [])).bind fun t1177=>
(qa0 true t1175).bind fun g1178=>(bif g1178 then some v24 else some (.tuple [])).bind fun t1178=>
(qa0 true t1175).bind fun g1179=>(bif g1179 then ixS t1177 t1178 else some (.tuple [])).bind fun t1179=>
(qa0 true t1175).bind fun g1180=>(bif g1180 then qa4 E0 .neq 5 false true t1179 (.int .u8 39)else some (.tuple [])).bind fun t1180=>
(qac t1175 (some t1180) (some (.bool false))).bind fun t1181=>
ifK t1181 (
(qa4 E0 .add 3 false true v24 (.int .i64 1)).bind fun t1183=>
qky self N nk ek n v0 v1 v2 v3 v10 v11 v12 v13 v14 t1183 p1174.2) (
ek 3 (fr 316 [(0,v0),(1,v1),(2,v2),(3,v3),(10,v10),(11,v11),(12,v12),(13,v13),(14,v14),(24,v24)]) p1174.2):=by kernel_rfl
def F29 (self:EV) (N:Nat) (x0 x1 x2 x3:V) (S:St):Rs:=qd4 E0 self N Tryd.f29 B29 [x0,x1,x2,x3] S
theorem F29_eq (self:EV) (N:Nat) (x0 x1 x2 x3:V) (S:St):F29 self N x0 x1 x2 x3 S =
(some (nwP 29 2 (Tr.ofListFrom .nil [(.int .i64 0),(.int .i64 0)] 0) S)).bind fun p2=>
(qa4 E0 .neq 3 false true x2 (.int .i64 0)).bind fun t5=>
(qa0 true t5).bind fun g7=>(bif g7 then some x2 else some (.tuple [])).bind fun t7=>
(qa0 true t5).bind fun g8=>(bif g8 then qa4 E0 .neq 3 false true t7 (.int .i64 3)else some (.tuple [])).bind fun t8=>
(qac t5 (some t8) (some (.bool false))).bind fun t9=>
qdx self N (qbt E0 self Tryd.f29) (exB 0 (qbt E0 self Tryd.f29) qas) N x0 x1 x2 x3 p2.1 .nilslice t9 (sv []) (.bool false) p2.2:=by kernel_rfl
end
end Go.Proofs.YtafbipadnnmccaaDoor.W
end
