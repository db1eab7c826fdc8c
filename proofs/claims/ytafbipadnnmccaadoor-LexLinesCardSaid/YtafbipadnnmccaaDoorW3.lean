/-
  WHAT THE FUNCTIONS COME TO: each is read by the evaluator,printed,and told as a function of data,part 3 of 12 (no condition).
-/
import Derived.Test.YtafbipadnnmccaaDoorW2
import Derived.Test.YtafbipadnnmccaaDoorProg
import Derived.KernelRfl
noncomputable section
namespace Go.Proofs.YtafbipadnnmccaaDoor.W
open Go.Proofs.YtafbipadnnmccaaDoor.Ev
set_option maxRecDepth 100000
noncomputable section
def C45:Code:=Tryd.f45.body.getD .skip
def B45:D:=(qb1 C45 [[],[],[0,3,4],[],[0,0,3,4],[0,3,4],[],[],[],[],[0,0,3,4,5,6],[0,3,4],[],[0,3,4],[],[],[],[],[],[]]).1
def RL45:List Nat:=cellsOf Tryd.f45.results.toList
def L45_6 (self:EV) (N:Nat) (nk:Ac->St->Rs) (ek:Nat->Ac->St->Rs) (n:Nat) ( v0 v3 v4:V) (S:St):Rs:=qek [0,3,4] (dr E0 self RL45 N (B45.r.r.l.l)) (mkK E0 self Tryd.f45 nk ek) n (fr 96 [(0,v0),(3,v3),(4,v4)]) S
theorem L45_6_eq (self:EV) (N:Nat) (nk:Ac->St->Rs) (ek:Nat->Ac->St->Rs) (n:Nat) ( v0 v3 v4:V) (S:St):L45_6 self N nk ek (n+1) v0 v3 v4 S =
callP (self.f 24 [v0] S) fun t8 S8=>
(unV .not t8).bind fun t9=>
ifK t9 (
(qa1 v0).bind fun t11=>
(faP 0 false 1 t11).bind fun t12=>
(ld1 t12 S8).bind fun p13=>
(qdk p13.1 p13.2).bind fun p14=>
callP (self.f 25 [(.int .i64 19),p14.1] p14.2) fun t15 S15=>
(qa1 v0).bind fun t17=>
(faP 1 false 1 t17).bind fun t18=>
(ld1 t18 S15).bind fun p19=>
(qa1 v0).bind fun t22=>
(faP 0 false 1 t22).bind fun t23=>
(ld1 t23 p19.2).bind fun p24=>
(qak E0 9 p24.1 (some p19.1) none none p24.2).bind fun p26=>
callP (self.f 46 [p26.1,(sv [10])] p26.2) fun t27 S27=>
(qa9 t27 0).bind fun t29=>
(qa9 t27 1).bind fun t30=>
(qa9 t27 2).bind fun t31=>
(qa1 v0).bind fun t36=>
(faP 1 false 1 t36).bind fun t37=>
(ld1 t37 S27).bind fun p38=>
(qdk t29 p38.2).bind fun p40=>
(qa5 E0 .add 3 false false p38.1 p40.1).bind fun t41=>
(qa1 v0).bind fun t42=>
(faP 1 false 1 t42).bind fun t43=>
(stP 1 t43 t41 p40.2).bind fun p44=>
ifK t31 (
(qa1 v0).bind fun t47=>
(faP 1 false 1 t47).bind fun t48=>
(ld1 t48 p44.2).bind fun p49=>
(qa5 E0 .add 3 false true p49.1 (.int .i64 1)).bind fun t50=>
(qa1 v0).bind fun t51=>
(faP 1 false 1 t51).bind fun t52=>
(stP 1 t52 t50 p49.2).bind fun p53=>
(faP 1 false 1 v3).bind fun t55=>
(ld1 t55 p53.2).bind fun p56=>
(qa5 E0 .neq 9 false false t29 p56.1).bind fun t57=>
ifK t57 (
L45_6 self N nk ek n v0 v3 v4 p56.2) (
(qa1 v0).bind fun t59=>
(faP 2 false 1 t59).bind fun t60=>
(ld1 t60 (onS p56.2)).bind fun p61=>
(faP 0 false 1 v3).bind fun t62=>
(ld1 t62 (onS p61.2)).bind fun p63=>
(ixP 5 p61.1 p63.1).bind fun t64=>
qhk [(3,[5])] p56.2 [[],[],[],p61.2.log,[],p63.2.log,[],[]] (onS p63.2) fun S66=>
(qa1 v0).bind fun t69=>
(faP 0 false 1 t69).bind fun t70=>
(ld1 t70 S66).bind fun p71=>
(qak E0 9 p71.1 (some v4) (some p19.1) none p71.2).bind fun p74=>
(qa1 t64).bind fun t75=>
(faP 1 false 1 t75).bind fun t76=>
(stP 1 t76 p74.1 p74.2).bind fun p77=>
(qa1 t64).bind fun t79=>
(faP 3 false 1 t79).bind fun t80=>
(ld1 t80 p77.2).bind fun p81=>
(unV .not p81.1).bind fun t82=>
ifK t82 (
(qa1 v0).bind fun t84=>
(faP 0 false 1 t84).bind fun t85=>
(ld1 t85 p81.2).bind fun p86=>
(qak E0 9 p86.1 none (some p19.1) none p86.2).bind fun p88=>
(qaa E0 57 [(0,p88.1),(1,v4)]).bind fun t90=>
(boxK 57 t90 p88.2).bind fun p91=>
callP (self.f 49 [p91.1,(.int .i64 2),(.int .i64 0)] p91.2) fun t95 S95=>
(qa1 t64).bind fun t96=>
(faP 2 false 1 t96).bind fun t97=>
(stP 1 t97 t95 S95).bind fun p98=>
some (.ret (.tuple []),p98.2)) (
some (.ret (.tuple []),p81.2)))) (
(faP 1 false 1 v3).bind fun t100=>
(ld1 t100 p44.2).bind fun p101=>
(qa5 E0 .neq 9 false false t29 p101.1).bind fun t102=>
ifK t102 (
L45_6 self N nk ek n v0 v3 v4 p101.2) (
(qa1 v0).bind fun t104=>
(faP 2 false 1 t104).bind fun t105=>
(ld1 t105 (onS p101.2)).bind fun p106=>
(faP 0 false 1 v3).bind fun t107=>
(ld1 t107 (onS p106.2)).bind fun p108=>
(ixP 5 p106.1 p108.1).bind fun t109=>
qhk [(3,[5])] p101.2 [[],[],[],p106.2.log,[],p108.2.log,[],[]] (onS p108.2) fun S111=>
(qa1 v0).bind fun t114=>
(faP 0 false 1 t114).bind fun t115=>
(ld1 t115 S111).bind fun p116=>
(qak E0 9 p116.1 (some v4) (some p19.1) none p116.2).bind fun p119=>
(qa1 t109).bind fun t120=>
(faP 1 false 1 t120).bind fun t121=>
(stP 1 t121 p119.1 p119.2).bind fun p122=>
(qa1 t109).bind fun t124=>
(faP 3 false 1 t124).bind fun t125=>
(ld1 t125 p122.2).bind fun p126=>
(unV .not p126.1).bind fun t127=>
ifK t127 (
(qa1 v0).bind fun t129=>
(faP 0 false 1 t129).bind fun t130=>
(ld1 t130 p126.2).bind fun p131=>
(qak E0 9 p131.1 none (some p19.1) none p131.2).bind fun p133=>
(qaa E0 57 [(0,p133.1),(1,v4)]).bind fun t135=>
(boxK 57 t135 p133.2).bind fun p136=>
callP (self.f 49 [p136.1,(.int .i64 2),(.int .i64 0)] p136.2) fun t140 S140=>
(qa1 t109).bind fun t141=>
(faP 2 false 1 t141).bind fun t142=>
(stP 1 t142 t140 S140).bind fun p143=>
some (.ret (.tuple []),p143.2)) (
some (.ret (.tuple []),p126.2))))) (
(qa1 v0).bind fun t145=>
(faP 1 false 1 t145).bind fun t146=>
(ld1 t146 S8).bind fun p147=>
(qa1 v0).bind fun t150=>
(faP 0 false 1 t150).bind fun t151=>
(ld1 t151 p147.2).bind fun p152=>
(qak E0 9 p152.1 (some p147.1) none none p152.2).bind fun p154=>
callP (self.f 46 [p154.1,(sv [10])] p154.2) fun t155 S155=>
(qa9 t155 0).bind fun t157=>
(qa9 t155 1).bind fun t158=>
(qa9 t155 2).bind fun t159=>
(qa1 v0).bind fun t164=>
(faP 1 false 1 t164).bind fun t165=>
(ld1 t165 S155).bind fun p166=>
(qdk t157 p166.2).bind fun p168=>
(qa5 E0 .add 3 false false p166.1 p168.1).bind fun t169=>
(qa1 v0).bind fun t170=>
(faP 1 false 1 t170).bind fun t171=>
(stP 1 t171 t169 p168.2).bind fun p172=>
ifK t159 (
(qa1 v0).bind fun t175=>
(faP 1 false 1 t175).bind fun t176=>
(ld1 t176 p172.2).bind fun p177=>
(qa5 E0 .add 3 false true p177.1 (.int .i64 1)).bind fun t178=>
(qa1 v0).bind fun t179=>
(faP 1 false 1 t179).bind fun t180=>
(stP 1 t180 t178 p177.2).bind fun p181=>
(faP 1 false 1 v3).bind fun t183=>
(ld1 t183 p181.2).bind fun p184=>
(qa5 E0 .neq 9 false false t157 p184.1).bind fun t185=>
ifK t185 (
L45_6 self N nk ek n v0 v3 v4 p184.2) (
(qa1 v0).bind fun t187=>
(faP 2 false 1 t187).bind fun t188=>
(ld1 t188 (onS p184.2)).bind fun p189=>
(faP 0 false 1 v3).bind fun t190=>
(ld1 t190 (onS p189.2)).bind fun p191=>
(ixP 5 p189.1 p191.1).bind fun t192=>
qhk [(3,[5])] p184.2 [[],[],[],p189.2.log,[],p191.2.log,[],[]] (onS p191.2) fun S194=>
(qa1 v0).bind fun t197=>
(faP 0 false 1 t197).bind fun t198=>
(ld1 t198 S194).bind fun p199=>
(qak E0 9 p199.1 (some v4) (some p147.1) none p199.2).bind fun p202=>
(qa1 t192).bind fun t203=>
(faP 1 false 1 t203).bind fun t204=>
(stP 1 t204 p202.1 p202.2).bind fun p205=>
(qa1 t192).bind fun t207=>
(faP 3 false 1 t207).bind fun t208=>
(ld1 t208 p205.2).bind fun p209=>
(unV .not p209.1).bind fun t210=>
ifK t210 (
(qa1 v0).bind fun t212=>
(faP 0 false 1 t212).bind fun t213=>
(ld1 t213 p209.2).bind fun p214=>
(qak E0 9 p214.1 none (some p147.1) none p214.2).bind fun p216=>
(qaa E0 57 [(0,p216.1),(1,v4)]).bind fun t218=>
(boxK 57 t218 p216.2).bind fun p219=>
callP (self.f 49 [p219.1,(.int .i64 2),(.int .i64 0)] p219.2) fun t223 S223=>
(qa1 t192).bind fun t224=>
(faP 2 false 1 t224).bind fun t225=>
(stP 1 t225 t223 S223).bind fun p226=>
some (.ret (.tuple []),p226.2)) (
some (.ret (.tuple []),p209.2)))) (
(faP 1 false 1 v3).bind fun t228=>
(ld1 t228 p172.2).bind fun p229=>
(qa5 E0 .neq 9 false false t157 p229.1).bind fun t230=>
ifK t230 (
L45_6 self N nk ek n v0 v3 v4 p229.2) (
(qa1 v0).bind fun t232=>
(faP 2 false 1 t232).bind fun t233=>
(ld1 t233 (onS p229.2)).bind fun p234=>
(faP 0 false 1 v3).bind fun t235=>
(ld1 t235 (onS p234.2)).bind fun p236=>
(ixP 5 p234.1 p236.1).bind fun t237=>
qhk [(3,[5])] p229.2 [[],[],[],p234.2.log,[],p236.2.log,[],[]] (onS p236.2) fun S239=>
(qa1 v0).bind fun t242=>
(faP 0 false 1 t242).bind fun t243=>
(ld1 t243 S239).bind fun p244=>
(qak E0 9 p244.1 (some v4) (some p147.1) none p244.2).bind fun p247=>
(qa1 t237).bind fun t248=>
(faP 1 false 1 t248).bind fun t249=>
(stP 1 t249 p247.1 p247.2).bind fun p250=>
(qa1 t237).bind fun t252=>
(faP 3 false 1 t252).bind fun t253=>
(ld1 t253 p250.2).bind fun p254=>
(unV .not p254.1).bind fun t255=>
ifK t255 (
(qa1 v0).bind fun t257=>
(faP 0 false 1 t257).bind fun t258=>
(ld1 t258 p254.2).bind fun p259=>
(qak E0 9 p259.1 none (some p147.1) none p259.2).bind fun p261=>
(qaa E0 57 [(0,p261.1),(1,v4)]).bind fun t263=>
(boxK 57 t263 p261.2).bind fun p264=>
callP (self.f 49 [p264.1,(.int .i64 2),(.int .i64 0)] p264.2) fun t268 S268=>
(qa1 t237).bind fun t269=>
(faP 2 false 1 t269).bind fun t270=>
(stP 1 t270 t268 S268).bind fun p271=>
some (.ret (.tuple []),p271.2)) (
some (.ret (.tuple []),p254.2))))):=by kernel_rfl
def F45 (self:EV) (N:Nat) (x0 x1:V) (S:St):Rs:=qdz E0 self N Tryd.f45 B45 [x0,x1] S
theorem F45_eq (self:EV) (N:Nat) (x0 x1:V) (S:St):F45 self N x0 x1 S =
(boxK 89 x1 S).bind fun p0=>
(qa1 x0).bind fun t2=>
(faP 1 false 1 t2).bind fun t3=>
(ld1 t3 p0.2).bind fun p4=>
L45_6 self N (qcn E0 self Tryd.f45) (exB 0 (qcn E0 self Tryd.f45) qb0) N x0 p0.1 p4.1 p4.2:=by kernel_rfl
end
end Go.Proofs.YtafbipadnnmccaaDoor.W





namespace Go.Proofs.YtafbipadnnmccaaDoor.W
open Go.Proofs.YtafbipadnnmccaaDoor.Ev
set_option maxRecDepth 100000
noncomputable section
def C11:Code:=Tryd.f11.body.getD .skip
def B11:D:=(qb1 C11 [[],[],[],[],[],[0,1,5],[],[],[],[],[],[],[0],[4],[]]).1
def RL11:List Nat:=cellsOf Tryd.f11.results.toList
def R11_7 (self:EV) (N:Nat) (nk:Ac->St->Rs) (ek:Nat->Ac->St->Rs) (a:Ac) (S:St):Rs:=qbs [] a fun a=>dr E0 self RL11 N (B11.r.r).r (mkK E0 self Tryd.f11 nk ek) a S
theorem R11_7_eq (self:EV) (N:Nat) (nk:Ac->St->Rs) (ek:Nat->Ac->St->Rs) (S:St):R11_7 self N nk ek (fr 81 []) S =
some (.ret (.bool true),S):=by kernel_rfl
def L11_10 (self:EV) (N:Nat) (nk:Ac->St->Rs) (ek:Nat->Ac->St->Rs) (n:Nat) ( v0 v1 v5:V) (S:St):Rs:=qek [0,1,5] (dr E0 self RL11 N (B11.r.r.l.r.l.l)) (mkK E0 self Tryd.f11 nk ek) n (fr 81 [(0,v0),(1,v1),(5,v5)]) S
theorem L11_10_eq (self:EV) (N:Nat) (nk:Ac->St->Rs) (ek:Nat->Ac->St->Rs) (n:Nat) ( v0 v1 v5:V) (S:St):L11_10 self N nk ek (n+1) v0 v1 v5 S =
(lnS v0 S).bind fun p13=>
(qa5 E0 .lss 3 false false v5 p13.1).bind fun t14=>
ifK t14 (
(ixP 5 v0 v5).bind fun t17=>
(faP 0 false 1 t17).bind fun t18=>
(ld1 t18 (onS p13.2)).bind fun p19=>
(ixP 5 v1 v5).bind fun t22=>
(faP 0 false 1 t22).bind fun t23=>
(ld1 t23 (onS p19.2)).bind fun p24=>
(qa5 E0 .neq 3 false false p19.1 p24.1).bind fun t25=>
(qa2 false t25).bind fun g27=>(bif g27 then some v0 else some (.tuple [])).bind fun t27=>
(qa2 false t25).bind fun g28=>(bif g28 then some v5 else some (.tuple [])).bind fun t28=>
(qa2 false t25).bind fun g29=>(bif g29 then ixP 5 t27 t28 else some (.tuple [])).bind fun t29=>
(qa2 false t25).bind fun g30=>(bif g30 then faP 1 false 1 t29 else some (.tuple [])).bind fun t30=>
(qa2 false t25).bind fun g31=>(bif g31 then ld1 t30 (onS p24.2)else some (.tuple [],(onS p24.2))).bind fun p31=>
(qa2 false t25).bind fun g32=>(bif g32 then some v1 else some (.tuple [])).bind fun t32=>
(qa2 false t25).bind fun g33=>(bif g33 then some v5 else some (.tuple [])).bind fun t33=>
(qa2 false t25).bind fun g34=>(bif g34 then ixP 5 t32 t33 else some (.tuple [])).bind fun t34=>
(qa2 false t25).bind fun g35=>(bif g35 then faP 1 false 1 t34 else some (.tuple [])).bind fun t35=>
(qa2 false t25).bind fun g36=>(bif g36 then ld1 t35 (onS p31.2)else some (.tuple [],(onS p31.2))).bind fun p36=>
(qa2 false t25).bind fun g37=>(bif g37 then qa5 E0 .neq 9 false false p31.1 p36.1 else some (.tuple [])).bind fun t37=>
(qao t25 (some (.bool true)) (some t37)).bind fun t38=>
(qa2 false t38).bind fun g40=>(bif g40 then some v0 else some (.tuple [])).bind fun t40=>
(qa2 false t38).bind fun g41=>(bif g41 then some v5 else some (.tuple [])).bind fun t41=>
(qa2 false t38).bind fun g42=>(bif g42 then ixP 5 t40 t41 else some (.tuple [])).bind fun t42=>
(qa2 false t38).bind fun g43=>(bif g43 then faP 3 false 1 t42 else some (.tuple [])).bind fun t43=>
(qa2 false t38).bind fun g44=>(bif g44 then ld1 t43 (onS p36.2)else some (.tuple [],(onS p36.2))).bind fun p44=>
(qa2 false t38).bind fun g45=>(bif g45 then some v1 else some (.tuple [])).bind fun t45=>
(qa2 false t38).bind fun g46=>(bif g46 then some v5 else some (.tuple [])).bind fun t46=>
(qa2 false t38).bind fun g47=>(bif g47 then ixP 5 t45 t46 else some (.tuple [])).bind fun t47=>
(qa2 false t38).bind fun g48=>(bif g48 then faP 3 false 1 t47 else some (.tuple [])).bind fun t48=>
(qa2 false t38).bind fun g49=>(bif g49 then ld1 t48 (onS p44.2)else some (.tuple [],(onS p44.2))).bind fun p49=>
(qa2 false t38).bind fun g50=>(bif g50 then qa5 E0 .neq 4 false false p44.1 p49.1 else some (.tuple [])).bind fun t50=>
(qao t38 (some (.bool true)) (some t50)).bind fun t51=>
(qa2 false t51).bind fun g53=>(bif g53 then some v0 else some (.tuple [])).bind fun t53=>
(qa2 false t51).bind fun g54=>(bif g54 then some v5 else some (.tuple [])).bind fun t54=>
(qa2 false t51).bind fun g55=>(bif g55 then ixP 5 t53 t54 else some (.tuple [])).bind fun t55=>
(qa2 false t51).bind fun g56=>(bif g56 then faP 4 false 1 t55 else some (.tuple [])).bind fun t56=>
(qa2 false t51).bind fun g57=>(bif g57 then ld1 t56 (onS p49.2)else some (.tuple [],(onS p49.2))).bind fun p57=>
(qa2 false t51).bind fun g58=>(bif g58 then some v1 else some (.tuple [])).bind fun t58=>
(qa2 false t51).bind fun g59=>(bif g59 then some v5 else some (.tuple [])).bind fun t59=>
(qa2 false t51).bind fun g60=>(bif g60 then ixP 5 t58 t59 else some (.tuple [])).bind fun t60=>
(qa2 false t51).bind fun g61=>(bif g61 then faP 4 false 1 t60 else some (.tuple [])).bind fun t61=>
(qa2 false t51).bind fun g62=>(bif g62 then ld1 t61 (onS p57.2)else some (.tuple [],(onS p57.2))).bind fun p62=>
(qa2 false t51).bind fun g63=>(bif g63 then qa5 E0 .neq 3 false false p57.1 p62.1 else some (.tuple [])).bind fun t63=>
(qao t51 (some (.bool true)) (some t63)).bind fun t64=>
(qa2 false t64).bind fun g66=>(bif g66 then some v0 else some (.tuple [])).bind fun t66=>
(qa2 false t64).bind fun g67=>(bif g67 then some v5 else some (.tuple [])).bind fun t67=>
(qa2 false t64).bind fun g68=>(bif g68 then ixP 5 t66 t67 else some (.tuple [])).bind fun t68=>
(qa2 false t64).bind fun g69=>(bif g69 then faP 2 false 1 t68 else some (.tuple [])).bind fun t69=>
(qa2 false t64).bind fun g70=>(bif g70 then ld1 t69 (onS p62.2)else some (.tuple [],(onS p62.2))).bind fun p70=>
(qa2 false t64).bind fun g71=>(bif g71 then some v1 else some (.tuple [])).bind fun t71=>
(qa2 false t64).bind fun g72=>(bif g72 then some v5 else some (.tuple [])).bind fun t72=>
(qa2 false t64).bind fun g73=>(bif g73 then ixP 5 t71 t72 else some (.tuple [])).bind fun t73=>
(qa2 false t64).bind fun g74=>(bif g74 then faP 2 false 1 t73 else some (.tuple [])).bind fun t74=>
(qa2 false t64).bind fun g75=>(bif g75 then ld1 t74 (onS p70.2)else some (.tuple [],(onS p70.2))).bind fun p75=>
(qa2 false t64).bind fun g76=>qk9 (qap E0 (B11.r.r.l.r.l.l.r.l.l.l).ops) p13.2 61 [[],[],[],[],p19.2.log,[],[],[],[],p24.2.log,[],[],[],[],[],[],p31.2.log,[],[],[],[],p36.2.log,[],[],[],[],[],[],[],p44.2.log,[],[],[],[],p49.2.log,[],[],[],[],[],[],[],p57.2.log,[],[],[],[],p62.2.log,[],[],[],[],[],[],[],p70.2.log,[],[],[],[],p75.2.log] (bif g76 then self.f 34 [p70.1,p75.1] (onS p75.2)else some (.ret (.tuple []),(onS p75.2))) fun t76 S76=>
(qa2 false t64).bind fun g77=>(bif g77 then unV .not t76 else some (.tuple [])).bind fun t77=>
(qao t64 (some (.bool true)) (some t77)).bind fun t78=>
qhk [(4,[9]),(16,[21]),(29,[34]),(42,[47]),(55,[60])] p13.2 [[],[],[],[],p19.2.log,[],[],[],[],p24.2.log,[],[],[],[],[],[],p31.2.log,[],[],[],[],p36.2.log,[],[],[],[],[],[],[],p44.2.log,[],[],[],[],p49.2.log,[],[],[],[],[],[],[],p57.2.log,[],[],[],[],p62.2.log,[],[],[],[],[],[],[],p70.2.log,[],[],[],[],p75.2.log,S76.log,[],[]] (onS S76) fun S79=>
ifK t78 (
some (.ret (.bool false),S79)) (
(qa5 E0 .add 3 false true v5 (.int .i64 1)).bind fun t82=>
L11_10 self N nk ek n v0 v1 t82 S79)) (
ek 0 (fr 81 []) p13.2):=by kernel_rfl
def F11 (self:EV) (N:Nat) (x0 x1:V) (S:St):Rs:=qdz E0 self N Tryd.f11 B11 [x0,x1] S
theorem F11_eq (self:EV) (N:Nat) (x0 x1:V) (S:St):F11 self N x0 x1 S =
(lnS x0 S).bind fun p2=>
(lnS x1 p2.2).bind fun p4=>
(qa5 E0 .neq 3 false false p2.1 p4.1).bind fun t5=>
ifK t5 (
some (.ret (.bool false),p4.2)) (
L11_10 self N (R11_7 self N (qcn E0 self Tryd.f11) qb0) (exB 0 (R11_7 self N (qcn E0 self Tryd.f11) qb0) qb0) N x0 x1 (.int .i64 0) p4.2):=by kernel_rfl
def C34:Code:=Tryd.f34.body.getD .skip
def B34:D:=(qb1 C34 [[],[],[],[],[],[0,1,5],[],[],[],[],[],[],[0],[4],[]]).1
def RL34:List Nat:=cellsOf Tryd.f34.results.toList
def R34_7 (self:EV) (N:Nat) (nk:Ac->St->Rs) (ek:Nat->Ac->St->Rs) (a:Ac) (S:St):Rs:=qbs [] a fun a=>dr E0 self RL34 N (B34.r.r).r (mkK E0 self Tryd.f34 nk ek) a S
theorem R34_7_eq (self:EV) (N:Nat) (nk:Ac->St->Rs) (ek:Nat->Ac->St->Rs) (S:St):R34_7 self N nk ek (fr 81 []) S =
some (.ret (.bool true),S):=by kernel_rfl
def L34_10 (self:EV) (N:Nat) (nk:Ac->St->Rs) (ek:Nat->Ac->St->Rs) (n:Nat) ( v0 v1 v5:V) (S:St):Rs:=qek [0,1,5] (dr E0 self RL34 N (B34.r.r.l.r.l.l)) (mkK E0 self Tryd.f34 nk ek) n (fr 81 [(0,v0),(1,v1),(5,v5)]) S
theorem L34_10_eq (self:EV) (N:Nat) (nk:Ac->St->Rs) (ek:Nat->Ac->St->Rs) (n:Nat) ( v0 v1 v5:V) (S:St):L34_10 self N nk ek (n+1) v0 v1 v5 S =
(lnS v0 S).bind fun p13=>
(qa5 E0 .lss 3 false false v5 p13.1).bind fun t14=>
ifK t14 (
(ixP 6 v0 v5).bind fun t17=>
(faP 0 false 1 t17).bind fun t18=>
(ld1 t18 (onS p13.2)).bind fun p19=>
(ixP 6 v1 v5).bind fun t22=>
(faP 0 false 1 t22).bind fun t23=>
(ld1 t23 (onS p19.2)).bind fun p24=>
(qa5 E0 .neq 3 false false p19.1 p24.1).bind fun t25=>
(qa2 false t25).bind fun g27=>(bif g27 then some v0 else some (.tuple [])).bind fun t27=>
(qa2 false t25).bind fun g28=>(bif g28 then some v5 else some (.tuple [])).bind fun t28=>
(qa2 false t25).bind fun g29=>(bif g29 then ixP 6 t27 t28 else some (.tuple [])).bind fun t29=>
(qa2 false t25).bind fun g30=>(bif g30 then faP 1 false 1 t29 else some (.tuple [])).bind fun t30=>
(qa2 false t25).bind fun g31=>(bif g31 then ld1 t30 (onS p24.2)else some (.tuple [],(onS p24.2))).bind fun p31=>
(qa2 false t25).bind fun g32=>(bif g32 then some v1 else some (.tuple [])).bind fun t32=>
(qa2 false t25).bind fun g33=>(bif g33 then some v5 else some (.tuple [])).bind fun t33=>
(qa2 false t25).bind fun g34=>(bif g34 then ixP 6 t32 t33 else some (.tuple [])).bind fun t34=>
(qa2 false t25).bind fun g35=>(bif g35 then faP 1 false 1 t34 else some (.tuple [])).bind fun t35=>
(qa2 false t25).bind fun g36=>(bif g36 then ld1 t35 (onS p31.2)else some (.tuple [],(onS p31.2))).bind fun p36=>
(qa2 false t25).bind fun g37=>(bif g37 then qa5 E0 .neq 9 false false p31.1 p36.1 else some (.tuple [])).bind fun t37=>
(qao t25 (some (.bool true)) (some t37)).bind fun t38=>
(qa2 false t38).bind fun g40=>(bif g40 then some v0 else some (.tuple [])).bind fun t40=>
(qa2 false t38).bind fun g41=>(bif g41 then some v5 else some (.tuple [])).bind fun t41=>
(qa2 false t38).bind fun g42=>(bif g42 then ixP 6 t40 t41 else some (.tuple [])).bind fun t42=>
(qa2 false t38).bind fun g43=>(bif g43 then faP 2 false 1 t42 else some (.tuple [])).bind fun t43=>
(qa2 false t38).bind fun g44=>(bif g44 then ld1 t43 (onS p36.2)else some (.tuple [],(onS p36.2))).bind fun p44=>
(qa2 false t38).bind fun g45=>(bif g45 then some v1 else some (.tuple [])).bind fun t45=>
(qa2 false t38).bind fun g46=>(bif g46 then some v5 else some (.tuple [])).bind fun t46=>
(qa2 false t38).bind fun g47=>(bif g47 then ixP 6 t45 t46 else some (.tuple [])).bind fun t47=>
(qa2 false t38).bind fun g48=>(bif g48 then faP 2 false 1 t47 else some (.tuple [])).bind fun t48=>
(qa2 false t38).bind fun g49=>(bif g49 then ld1 t48 (onS p44.2)else some (.tuple [],(onS p44.2))).bind fun p49=>
(qa2 false t38).bind fun g50=>(bif g50 then qa5 E0 .neq 9 false false p44.1 p49.1 else some (.tuple [])).bind fun t50=>
(qao t38 (some (.bool true)) (some t50)).bind fun t51=>
(qa2 false t51).bind fun g53=>(bif g53 then some v0 else some (.tuple [])).bind fun t53=>
(qa2 false t51).bind fun g54=>(bif g54 then some v5 else some (.tuple [])).bind fun t54=>
(qa2 false t51).bind fun g55=>(bif g55 then ixP 6 t53 t54 else some (.tuple [])).bind fun t55=>
(qa2 false t51).bind fun g56=>(bif g56 then faP 3 false 1 t55 else some (.tuple [])).bind fun t56=>
(qa2 false t51).bind fun g57=>(bif g57 then ld1 t56 (onS p49.2)else some (.tuple [],(onS p49.2))).bind fun p57=>
(qa2 false t51).bind fun g58=>(bif g58 then some v1 else some (.tuple [])).bind fun t58=>
(qa2 false t51).bind fun g59=>(bif g59 then some v5 else some (.tuple [])).bind fun t59=>
(qa2 false t51).bind fun g60=>(bif g60 then ixP 6 t58 t59 else some (.tuple [])).bind fun t60=>
(qa2 false t51).bind fun g61=>(bif g61 then faP 3 false 1 t60 else some (.tuple [])).bind fun t61=>
(qa2 false t51).bind fun g62=>(bif g62 then ld1 t61 (onS p57.2)else some (.tuple [],(onS p57.2))).bind fun p62=>
(qa2 false t51).bind fun g63=>(bif g63 then qa5 E0 .neq 4 false false p57.1 p62.1 else some (.tuple [])).bind fun t63=>
(qao t51 (some (.bool true)) (some t63)).bind fun t64=>
(qa2 false t64).bind fun g66=>(bif g66 then some v0 else some (.tuple [])).bind fun t66=>
(qa2 false t64).bind fun g67=>(bif g67 then some v5 else some (.tuple [])).bind fun t67=>
(qa2 false t64).bind fun g68=>(bif g68 then ixP 6 t66 t67 else some (.tuple [])).bind fun t68=>
(qa2 false t64).bind fun g69=>(bif g69 then faP 4 false 1 t68 else some (.tuple [])).bind fun t69=>
(qa2 false t64).bind fun g70=>(bif g70 then ld1 t69 (onS p62.2)else some (.tuple [],(onS p62.2))).bind fun p70=>
(qa2 false t64).bind fun g71=>(bif g71 then some v1 else some (.tuple [])).bind fun t71=>
(qa2 false t64).bind fun g72=>(bif g72 then some v5 else some (.tuple [])).bind fun t72=>
(qa2 false t64).bind fun g73=>(bif g73 then ixP 6 t71 t72 else some (.tuple [])).bind fun t73=>
(qa2 false t64).bind fun g74=>(bif g74 then faP 4 false 1 t73 else some (.tuple [])).bind fun t74=>
(qa2 false t64).bind fun g75=>(bif g75 then ld1 t74 (onS p70.2)else some (.tuple [],(onS p70.2))).bind fun p75=>
(qa2 false t64).bind fun g76=>qk9 (qap E0 (B34.r.r.l.r.l.l.r.l.l.l).ops) p13.2 61 [[],[],[],[],p19.2.log,[],[],[],[],p24.2.log,[],[],[],[],[],[],p31.2.log,[],[],[],[],p36.2.log,[],[],[],[],[],[],[],p44.2.log,[],[],[],[],p49.2.log,[],[],[],[],[],[],[],p57.2.log,[],[],[],[],p62.2.log,[],[],[],[],[],[],[],p70.2.log,[],[],[],[],p75.2.log] (bif g76 then self.f 34 [p70.1,p75.1] (onS p75.2)else some (.ret (.tuple []),(onS p75.2))) fun t76 S76=>
(qa2 false t64).bind fun g77=>(bif g77 then unV .not t76 else some (.tuple [])).bind fun t77=>
(qao t64 (some (.bool true)) (some t77)).bind fun t78=>
qhk [(4,[9]),(16,[21]),(29,[34]),(42,[47]),(55,[60])] p13.2 [[],[],[],[],p19.2.log,[],[],[],[],p24.2.log,[],[],[],[],[],[],p31.2.log,[],[],[],[],p36.2.log,[],[],[],[],[],[],[],p44.2.log,[],[],[],[],p49.2.log,[],[],[],[],[],[],[],p57.2.log,[],[],[],[],p62.2.log,[],[],[],[],[],[],[],p70.2.log,[],[],[],[],p75.2.log,S76.log,[],[]] (onS S76) fun S79=>
ifK t78 (
some (.ret (.bool false),S79)) (
(qa5 E0 .add 3 false true v5 (.int .i64 1)).bind fun t82=>
L34_10 self N nk ek n v0 v1 t82 S79)) (
ek 0 (fr 81 []) p13.2):=by kernel_rfl
def F34 (self:EV) (N:Nat) (x0 x1:V) (S:St):Rs:=qdz E0 self N Tryd.f34 B34 [x0,x1] S
theorem F34_eq (self:EV) (N:Nat) (x0 x1:V) (S:St):F34 self N x0 x1 S =
(lnS x0 S).bind fun p2=>
(lnS x1 p2.2).bind fun p4=>
(qa5 E0 .neq 3 false false p2.1 p4.1).bind fun t5=>
ifK t5 (
some (.ret (.bool false),p4.2)) (
L34_10 self N (R34_7 self N (qcn E0 self Tryd.f34) qb0) (exB 0 (R34_7 self N (qcn E0 self Tryd.f34) qb0) qb0) N x0 x1 (.int .i64 0) p4.2):=by kernel_rfl
def C10:Code:=Tryd.f10.body.getD .skip
def B10:D:=(qb1 C10 [[],[],[],[],[],[]]).1
def F10 (self:EV) (N:Nat) (x0 x1:V) (S:St):Rs:=qdz E0 self N Tryd.f10 B10 [x0,x1] S
theorem F10_eq (self:EV) (N:Nat) (x0 x1:V) (S:St):F10 self N x0 x1 S =
(boxK 29 x1 S).bind fun p0=>
(qa5 E0 .eql 24 false true x0 .niliface).bind fun t3=>
(qa2 false t3).bind fun g5=>(bif g5 then faP 0 false 1 p0.1 else some (.tuple [])).bind fun t5=>
(qa2 false t3).bind fun g6=>(bif g6 then ld1 t5 p0.2 else some (.tuple [],p0.2)).bind fun p6=>
(qa2 false t3).bind fun g7=>(bif g7 then qa5 E0 .eql 27 false true p6.1 (.int .i64 0)else some (.tuple [])).bind fun t7=>
(qao t3 (some (.bool true)) (some t7)).bind fun t8=>
ifK t8 (
(qa5 E0 .eql 24 false true x0 .niliface).bind fun t10=>
(qa2 true t10).bind fun g12=>(bif g12 then faP 0 false 1 p0.1 else some (.tuple [])).bind fun t12=>
(qa2 true t10).bind fun g13=>(bif g13 then ld1 t12 p6.2 else some (.tuple [],p6.2)).bind fun p13=>
(qa2 true t10).bind fun g14=>(bif g14 then qa5 E0 .eql 27 false true p13.1 (.int .i64 0)else some (.tuple [])).bind fun t14=>
(qao t10 (some t14) (some (.bool false))).bind fun t15=>
some (.ret t15,p13.2)) (
(some (nwP 51 1 (Ev.one .nilptr) p6.2)).bind fun p17=>
qk9 (qap E0 (B10.r.r.r.l).ops) p17.2 2 [[],[]] (self.f 32 [x0,(.iface 71 p17.1)] (onS p17.2)) fun t20 S20=>
(qa2 true t20).bind fun g22=>(bif g22 then ld1 p17.1 (onS S20)else some (.tuple [],(onS S20))).bind fun p22=>
(qa2 true t20).bind fun g23=>(bif g23 then qa1 p22.1 else some (.tuple [])).bind fun t23=>
(qa2 true t20).bind fun g24=>(bif g24 then faP 0 false 1 t23 else some (.tuple [])).bind fun t24=>
(qa2 true t20).bind fun g25=>(bif g25 then ld1 t24 (onS p22.2)else some (.tuple [],(onS p22.2))).bind fun p25=>
(qa2 true t20).bind fun g26=>(bif g26 then faP 0 false 1 p0.1 else some (.tuple [])).bind fun t26=>
(qa2 true t20).bind fun g27=>(bif g27 then ld1 t26 (onS p25.2)else some (.tuple [],(onS p25.2))).bind fun p27=>
(qa2 true t20).bind fun g28=>(bif g28 then qa5 E0 .eql 27 false false p25.1 p27.1 else some (.tuple [])).bind fun t28=>
(qao t20 (some t28) (some (.bool false))).bind fun t29=>
(qa2 true t29).bind fun g31=>(bif g31 then ld1 p17.1 (onS p27.2)else some (.tuple [],(onS p27.2))).bind fun p31=>
(qa2 true t29).bind fun g32=>(bif g32 then qa1 p31.1 else some (.tuple [])).bind fun t32=>
(qa2 true t29).bind fun g33=>(bif g33 then faP 1 false 1 t32 else some (.tuple [])).bind fun t33=>
(qa2 true t29).bind fun g34=>(bif g34 then ld1 t33 (onS p31.2)else some (.tuple [],(onS p31.2))).bind fun p34=>
(qa2 true t29).bind fun g35=>(bif g35 then faP 1 false 1 p0.1 else some (.tuple [])).bind fun t35=>
(qa2 true t29).bind fun g36=>(bif g36 then ld1 t35 (onS p34.2)else some (.tuple [],(onS p34.2))).bind fun p36=>
(qa2 true t29).bind fun g37=>(bif g37 then qa5 E0 .eql 3 false false p34.1 p36.1 else some (.tuple [])).bind fun t37=>
(qao t29 (some t37) (some (.bool false))).bind fun t38=>
(qa2 true t38).bind fun g40=>(bif g40 then some x0 else some (.tuple [])).bind fun t40=>
(qa2 true t38).bind fun g41=>(bif g41 then faP 0 false 1 p0.1 else some (.tuple [])).bind fun t41=>
(qa2 true t38).bind fun g42=>(bif g42 then ld1 t41 (onS p36.2)else some (.tuple [],(onS p36.2))).bind fun p42=>
(qa2 true t38).bind fun g43=>(bif g43 then some (.iface 27 p42.1)else some (.tuple [])).bind fun t43=>
(qa2 true t38).bind fun g44=>qk9 (qap E0 (B10.r.r.r.l).ops) p17.2 26 [[],[],S20.log,[],p22.2.log,[],[],p25.2.log,[],p27.2.log,[],[],[],p31.2.log,[],[],p34.2.log,[],p36.2.log,[],[],[],[],[],p42.2.log,[]] (bif g44 then self.f 33 [t40,t43] (onS p42.2)else some (.ret (.tuple []),(onS p42.2))) fun t44 S44=>
(qao t38 (some t44) (some (.bool false))).bind fun t45=>
qhk [(4,[9]),(7,[9]),(13,[18]),(16,[18])] p17.2 [[],[],S20.log,[],p22.2.log,[],[],p25.2.log,[],p27.2.log,[],[],[],p31.2.log,[],[],p34.2.log,[],p36.2.log,[],[],[],[],[],p42.2.log,[],S44.log,[],[]] (onS S44) fun S47=>
some (.ret t45,S47)):=by kernel_rfl
end
noncomputable section
def C14:Code:=Tryd.f14.body.getD .skip
def B14:D:=(qb1 C14 [[],[],[],[],[],[],[],[3,5,6],[],[5],[],[],[],[],[],[],[],[],[0,3,5,6],[3,5,6],[0,5],[2],[]]).1
def RL14:List Nat:=cellsOf Tryd.f14.results.toList
def R14_12 (self:EV) (N:Nat) (nk:Ac->St->Rs) (ek:Nat->Ac->St->Rs) (a:Ac) (S:St):Rs:=qbs [5] a fun a=>dr E0 self RL14 N (B14.r.r.r.r).r (mkK E0 self Tryd.f14 nk ek) a S
theorem R14_12_eq (self:EV) (N:Nat) (nk:Ac->St->Rs) (ek:Nat->Ac->St->Rs) ( v5:V) (S:St):R14_12 self N nk ek (fr 78 [(5,v5)]) S =
some (.ret v5,S):=by kernel_rfl
def qg1 (self:EV) (N:Nat) (nk:Ac->St->Rs) (ek:Nat->Ac->St->Rs) (n:Nat) ( v3 v5 v6:V) (S:St):Rs:=qek [3,5,6] (dr E0 self RL14 N (B14.r.r.r.r.l.r.l.l)) (mkK E0 self Tryd.f14 nk ek) n (fr 78 [(3,v3),(5,v5),(6,v6)]) S
theorem L14_16_eq (self:EV) (N:Nat) (nk:Ac->St->Rs) (ek:Nat->Ac->St->Rs) (n:Nat) ( v3 v5 v6:V) (S:St):qg1 self N nk ek (n+1) v3 v5 v6 S =
(lnS v3 S).bind fun p19=>
(qa5 E0 .lss 3 false false v6 p19.1).bind fun t20=>
ifK t20 (
(ixP 5 v3 v6).bind fun t23=>
(faP 0 false 1 t23).bind fun t24=>
(ld1 t24 p19.2).bind fun p25=>
(qa5 E0 .eql 3 false true p25.1 (.int .i64 0)).bind fun t26=>
ifK t26 (
(qa5 E0 .add 9 false true v5 (sv [91])).bind fun t29=>
(ixP 5 v3 v6).bind fun t32=>
(faP 2 false 1 t32).bind fun t33=>
(ld1 t33 p25.2).bind fun p34=>
callP (self.f 36 [p34.1] p34.2) fun t35 S35=>
(qa5 E0 .add 9 false false t29 t35).bind fun t36=>
(qa5 E0 .add 9 false true t36 (sv [93])).bind fun t37=>
(qa5 E0 .add 3 false true v6 (.int .i64 1)).bind fun t40=>
qg1 self N nk ek n v3 t37 t40 S35) (
(qa5 E0 .eql 3 false true p25.1 (.int .i64 2)).bind fun t42=>
ifK t42 (
(qa5 E0 .add 9 false true v5 (sv [47])).bind fun t45=>
(qa5 E0 .add 3 false true v6 (.int .i64 1)).bind fun t48=>
qg1 self N nk ek n v3 t45 t48 p25.2) (
(qa5 E0 .eql 3 false true p25.1 (.int .i64 3)).bind fun t50=>
ifK t50 (
(qa5 E0 .add 9 false true v5 (sv [123])).bind fun t53=>
(ixP 5 v3 v6).bind fun t56=>
(faP 1 false 1 t56).bind fun t57=>
(ld1 t57 p25.2).bind fun p58=>
(qa5 E0 .add 9 false false t53 p58.1).bind fun t59=>
(ixP 5 v3 v6).bind fun t63=>
(faP 3 false 1 t63).bind fun t64=>
(ld1 t64 p58.2).bind fun p65=>
(unV .not p65.1).bind fun t66=>
ifK t66 (
(qa5 E0 .add 9 false true t59 (sv [58])).bind fun t68=>
(ixP 5 v3 v6).bind fun t71=>
(faP 2 false 1 t71).bind fun t72=>
(ld1 t72 p65.2).bind fun p73=>
callP (self.f 36 [p73.1] p73.2) fun t74 S74=>
(qa5 E0 .add 9 false false t68 t74).bind fun t75=>
(qa5 E0 .add 9 false true t75 (sv [125])).bind fun t78=>
(qa5 E0 .add 3 false true v6 (.int .i64 1)).bind fun t81=>
qg1 self N nk ek n v3 t78 t81 S74) (
(qa5 E0 .add 9 false true t59 (sv [125])).bind fun t84=>
(qa5 E0 .add 3 false true v6 (.int .i64 1)).bind fun t87=>
qg1 self N nk ek n v3 t84 t87 p65.2)) (
(qa5 E0 .add 9 false true v5 (sv [32])).bind fun t90=>
(ixP 5 v3 v6).bind fun t93=>
(faP 1 false 1 t93).bind fun t94=>
(ld1 t94 p25.2).bind fun p95=>
(qa5 E0 .add 9 false false t90 p95.1).bind fun t96=>
(qa5 E0 .add 9 false true t96 (sv [32])).bind fun t97=>
(qa5 E0 .add 3 false true v6 (.int .i64 1)).bind fun t100=>
qg1 self N nk ek n v3 t97 t100 p95.2)))) (
ek 0 (fr 78 [(5,v5)]) p19.2):=by kernel_rfl
def F14 (self:EV) (N:Nat) (x0:V) (S:St):Rs:=qdz E0 self N Tryd.f14 B14 [x0] S
theorem F14_eq (self:EV) (N:Nat) (x0:V) (S:St):F14 self N x0 S =
callP (self.f 8 [x0] S) fun t2 S2=>
(qa9 t2 0).bind fun t4=>
(qa9 t2 1).bind fun t5=>
(qa5 E0 .neq 24 false true t5 .niliface).bind fun t9=>
ifK t9 (
some (.ret (sv [63]),S2)) (
qg1 self N (R14_12 self N (qcn E0 self Tryd.f14) qb0) (exB 0 (R14_12 self N (qcn E0 self Tryd.f14) qb0) qb0) N t4 (sv []) (.int .i64 0) S2):=by kernel_rfl
def C36:Code:=Tryd.f36.body.getD .skip
def B36:D:=(qb1 C36 [[],[],[],[0,3,4],[],[3],[],[],[],[],[0,0,3,4,5,6],[0,3,4],[],[],[],[],[0,0,3,4],[0,3,4],[0,3],[2],[]]).1
def RL36:List Nat:=cellsOf Tryd.f36.results.toList
def R36_2 (self:EV) (N:Nat) (nk:Ac->St->Rs) (ek:Nat->Ac->St->Rs) (a:Ac) (S:St):Rs:=qbs [3] a fun a=>dr E0 self RL36 N (B36.r.r).r (mkK E0 self Tryd.f36 nk ek) a S
theorem R36_2_eq (self:EV) (N:Nat) (nk:Ac->St->Rs) (ek:Nat->Ac->St->Rs) ( v3:V) (S:St):R36_2 self N nk ek (fr 55 [(3,v3)]) S =
some (.ret v3,S):=by kernel_rfl
def qg5 (self:EV) (N:Nat) (nk:Ac->St->Rs) (ek:Nat->Ac->St->Rs) (n:Nat) ( v0 v3 v4:V) (S:St):Rs:=qek [0,3,4] (dr E0 self RL36 N (B36.r.r.l.r.l.l)) (mkK E0 self Tryd.f36 nk ek) n (fr 55 [(0,v0),(3,v3),(4,v4)]) S
theorem L36_6_eq (self:EV) (N:Nat) (nk:Ac->St->Rs) (ek:Nat->Ac->St->Rs) (n:Nat) ( v0 v3 v4:V) (S:St):qg5 self N nk ek (n+1) v0 v3 v4 S =
(lnS v0 S).bind fun p9=>
(qa5 E0 .lss 3 false false v4 p9.1).bind fun t10=>
ifK t10 (
(ixP 6 v0 v4).bind fun t13=>
(ldA 6 t13 p9.2).bind fun p14=>
(some (nwP 49 6 (Tr.ofListFrom .nil [(.int .i64 0),(sv []),(sv []),(.bool false),.nilslice,.nilptr] 0) p14.2)).bind fun p15=>
(stP 6 p15.1 p14.1 p15.2).bind fun p16=>
(qaa E0 114 [(0,(sv [])),(1,(sv [113])),(2,(sv [36])),(3,(sv [40]))]).bind fun t17=>
(faP 0 false 1 p15.1).bind fun t18=>
(ld1 t18 p16.2).bind fun p19=>
(qjc minV p19.1 [(.int .i64 3)] p19.2).bind fun p20=>
(qjc maxV p20.1 [(.int .i64 0)] p20.2).bind fun p21=>
(ixV 4 1 false 1 t17 p21.1).bind fun t22=>
(faP 3 false 1 p15.1).bind fun t24=>
(ld1 t24 p21.2).bind fun p25=>
ifK p25.1 (
(qa5 E0 .add 9 false true t22 (sv [81])).bind fun t27=>
(qa5 E0 .add 9 false false v3 t27).bind fun t31=>
(faP 1 false 1 p15.1).bind fun t32=>
(ld1 t32 p25.2).bind fun p33=>
(qa5 E0 .add 9 false false t31 p33.1).bind fun t34=>
(faP 2 false 1 p15.1).bind fun t35=>
(ld1 t35 p33.2).bind fun p36=>
(qa5 E0 .add 9 false false t34 p36.1).bind fun t37=>
(faP 4 false 1 p15.1).bind fun t39=>
(ld1 t39 p36.2).bind fun p40=>
(lnS p40.1 p40.2).bind fun p41=>
(qa5 E0 .gtr 3 false true p41.1 (.int .i64 0)).bind fun t42=>
ifK t42 (
(qa5 E0 .add 9 false true t37 (sv [60])).bind fun t44=>
(faP 4 false 1 p15.1).bind fun t45=>
(ld1 t45 p41.2).bind fun p46=>
callP (self.f 36 [p46.1] p46.2) fun t47 S47=>
(qa5 E0 .add 9 false false t44 t47).bind fun t48=>
(qa5 E0 .add 9 false true t48 (sv [62])).bind fun t49=>
(qa5 E0 .add 3 false true v4 (.int .i64 1)).bind fun t52=>
(lnS v0 S47).bind fun p54=>
(qa5 E0 .lss 3 false false t52 p54.1).bind fun t55=>
ifK t55 (
(qa5 E0 .add 9 false true t49 (sv [46])).bind fun t57=>
(qa5 E0 .add 3 false true v4 (.int .i64 1)).bind fun t60=>
qg5 self N nk ek n v0 t57 t60 p54.2) (
(qa5 E0 .add 3 false true v4 (.int .i64 1)).bind fun t63=>
qg5 self N nk ek n v0 t49 t63 p54.2)) (
(qa5 E0 .add 3 false true v4 (.int .i64 1)).bind fun t66=>
(lnS v0 p41.2).bind fun p68=>
(qa5 E0 .lss 3 false false t66 p68.1).bind fun t69=>
ifK t69 (
(qa5 E0 .add 9 false true t37 (sv [46])).bind fun t71=>
(qa5 E0 .add 3 false true v4 (.int .i64 1)).bind fun t74=>
qg5 self N nk ek n v0 t71 t74 p68.2) (
(qa5 E0 .add 3 false true v4 (.int .i64 1)).bind fun t77=>
qg5 self N nk ek n v0 t37 t77 p68.2))) (
(qa5 E0 .add 9 false false v3 t22).bind fun t81=>
(faP 1 false 1 p15.1).bind fun t82=>
(ld1 t82 p25.2).bind fun p83=>
(qa5 E0 .add 9 false false t81 p83.1).bind fun t84=>
(faP 2 false 1 p15.1).bind fun t85=>
(ld1 t85 p83.2).bind fun p86=>
(qa5 E0 .add 9 false false t84 p86.1).bind fun t87=>
(faP 4 false 1 p15.1).bind fun t89=>
(ld1 t89 p86.2).bind fun p90=>
(lnS p90.1 p90.2).bind fun p91=>
(qa5 E0 .gtr 3 false true p91.1 (.int .i64 0)).bind fun t92=>
ifK t92 (
(qa5 E0 .add 9 false true t87 (sv [60])).bind fun t94=>
(faP 4 false 1 p15.1).bind fun t95=>
(ld1 t95 p91.2).bind fun p96=>
callP (self.f 36 [p96.1] p96.2) fun t97 S97=>
(qa5 E0 .add 9 false false t94 t97).bind fun t98=>
(qa5 E0 .add 9 false true t98 (sv [62])).bind fun t99=>
(qa5 E0 .add 3 false true v4 (.int .i64 1)).bind fun t102=>
(lnS v0 S97).bind fun p104=>
(qa5 E0 .lss 3 false false t102 p104.1).bind fun t105=>
ifK t105 (
(qa5 E0 .add 9 false true t99 (sv [46])).bind fun t107=>
(qa5 E0 .add 3 false true v4 (.int .i64 1)).bind fun t110=>
qg5 self N nk ek n v0 t107 t110 p104.2) (
(qa5 E0 .add 3 false true v4 (.int .i64 1)).bind fun t113=>
qg5 self N nk ek n v0 t99 t113 p104.2)) (
(qa5 E0 .add 3 false true v4 (.int .i64 1)).bind fun t116=>
(lnS v0 p91.2).bind fun p118=>
(qa5 E0 .lss 3 false false t116 p118.1).bind fun t119=>
ifK t119 (
(qa5 E0 .add 9 false true t87 (sv [46])).bind fun t121=>
(qa5 E0 .add 3 false true v4 (.int .i64 1)).bind fun t124=>
qg5 self N nk ek n v0 t121 t124 p118.2) (
(qa5 E0 .add 3 false true v4 (.int .i64 1)).bind fun t127=>
qg5 self N nk ek n v0 t87 t127 p118.2)))) (
ek 0 (fr 55 [(3,v3)]) p9.2):=by kernel_rfl
def F36 (self:EV) (N:Nat) (x0:V) (S:St):Rs:=qdz E0 self N Tryd.f36 B36 [x0] S
theorem F36_eq (self:EV) (N:Nat) (x0:V) (S:St):F36 self N x0 S =
qg5 self N (R36_2 self N (qcn E0 self Tryd.f36) qb0) (exB 0 (R36_2 self N (qcn E0 self Tryd.f36) qb0) qb0) N x0 (sv []) (.int .i64 0) S:=by kernel_rfl
def C15:Code:=Tryd.f15.body.getD .skip
def B15:D:=(qb1 C15 [[],[],[]]).1
def F15 (self:EV) (N:Nat) (x0 x1 x2:V) (S:St):Rs:=qdz E0 self N Tryd.f15 B15 [x0,x1,x2] S
theorem F15_eq (self:EV) (N:Nat) (x0 x1 x2:V) (S:St):F15 self N x0 x1 x2 S =
callP (self.f 8 [x0] S) fun t2 S2=>
(qa9 t2 0).bind fun t4=>
(qa9 t2 1).bind fun t5=>
(lnS t4 S2).bind fun p9=>
(qa5 E0 .eql 3 false true p9.1 (.int .i64 0)).bind fun t10=>
(qa2 true t10).bind fun g12=>(bif g12 then some t5 else some (.tuple [])).bind fun t12=>
(qa2 true t10).bind fun g13=>(bif g13 then some x1 else some (.tuple [])).bind fun t13=>
(qa2 true t10).bind fun g14=>(bif g14 then some x2 else some (.tuple [])).bind fun t14=>
(qa2 true t10).bind fun g15=>(bif g15 then qaa E0 29 [(0,t13),(1,t14)]else some (.tuple [])).bind fun t15=>
(qa2 true t10).bind fun g16=>callP (bif g16 then self.f 10 [t12,t15] p9.2 else some (.ret (.tuple []),p9.2)) fun t16 S16=>
(qao t10 (some t16) (some (.bool false))).bind fun t17=>
some (.ret t17,S16):=by kernel_rfl
def C12:Code:=Tryd.f12.body.getD .skip
def B12:D:=(qb1 C12 [[],[]]).1
def F12 (self:EV) (N:Nat) (S:St):Rs:=qdz E0 self N Tryd.f12 B12 [] S
theorem F12_eq (self:EV) (N:Nat) (S:St):F12 self N S =
callP (self.f 14 [(sv [101,99,104,111,32,97,39,98,32,99,39,34,100,36,120,34,32,50,62,102])] S) fun t1 S1=>
(qa5 E0 .eql 9 false true t1 (sv [91,101,99,104,111,93,91,97,46,113,98,32,99,46,113,81,100,46,36,81,120,93,32,50,62,32,91,102,93])).bind fun t2=>
(qa2 true t2).bind fun g4=>callP (bif g4 then self.f 14 [(sv [97,59,98,38,38,99,32,35,32,120,10])] S1 else some (.ret (.tuple []),S1)) fun t4 S4=>
(qa2 true t2).bind fun g5=>(bif g5 then qa5 E0 .eql 9 false true t4 (sv [91,97,93,32,59,32,91,98,93,32,38,38,32,91,99,93,47])else some (.tuple [])).bind fun t5=>
(qao t2 (some t5) (some (.bool false))).bind fun t6=>
(qa2 true t6).bind fun g8=>callP (bif g8 then self.f 14 [(sv [36,123,120,58,45,97,32,98,125,34,36,123,35,121,125,34,32,36,40,102,32,39,41,39,32,41])] S4 else some (.ret (.tuple []),S4)) fun t8 S8=>
(qa2 true t6).bind fun g9=>(bif g9 then qa5 E0 .eql 9 false true t8 (sv [91,36,120,58,45,60,97,32,98,62,46,36,81,121,108,101,110,93,91,40,102,32,39,41,39,32,93])else some (.tuple [])).bind fun t9=>
(qao t6 (some t9) (some (.bool false))).bind fun t10=>
(qa2 true t10).bind fun g12=>callP (bif g12 then self.f 14 [(sv [99,97,116,32,60,60,69,59,120,10,104,105,32,36,121,10,69,10])] S8 else some (.ret (.tuple []),S8)) fun t12 S12=>
(qa2 true t10).bind fun g13=>(bif g13 then qa5 E0 .eql 9 false true t12 (sv [91,99,97,116,93,32,60,60,32,91,69,93,123,104,105,32,36,121,10,58,113,81,104,105,32,46,36,81,121,46,113,81,10,125,32,59,32,91,120,93,47])else some (.tuple [])).bind fun t13=>
(qao t10 (some t13) (some (.bool false))).bind fun t14=>
(qa2 true t14).bind fun g16=>callP (bif g16 then self.f 15 [(sv [39,97]),(.int .i64 19),(.int .i64 0)] S12 else some (.ret (.tuple []),S12)) fun t16 S16=>
(qao t14 (some t16) (some (.bool false))).bind fun t17=>
(qa2 true t17).bind fun g19=>callP (bif g19 then self.f 15 [(sv [97,32,38]),(.int .i64 19),(.int .i64 2)] S16 else some (.ret (.tuple []),S16)) fun t19 S19=>
(qao t17 (some t19) (some (.bool false))).bind fun t20=>
(qa2 true t20).bind fun g22=>callP (bif g22 then self.f 15 [(sv [34,36,123,120,34]),(.int .i64 19),(.int .i64 1)] S19 else some (.ret (.tuple []),S19)) fun t22 S22=>
(qao t20 (some t22) (some (.bool false))).bind fun t23=>
(qa2 true t23).bind fun g25=>callP (bif g25 then self.f 15 [(sv [96]),(.int .i64 19),(.int .i64 0)] S22 else some (.ret (.tuple []),S22)) fun t25 S25=>
(qao t23 (some t25) (some (.bool false))).bind fun t26=>
some (.ret t26,S25):=by kernel_rfl
end
noncomputable section
def C85:Code:=Tryd.f85.body.getD .skip
def B85:D:=(qb1 C85 [[],[],[],[],[],[],[],[],[],[],[],[],[],[],[],[],[0,1,5,6,7,8,9,10],[],[],[],[],[],[],[],[],[0,0,1,5,6,7,8,9,10],[0,1,5,6,7,8,9,10],[],[],[],[],[],[],[],[],[],[],[],[],[],[],[],[],[],[0],[4],[]]).1
def F85 (self:EV) (N:Nat) (x0 x1:V) (S:St):Rs:=qdz E0 self N Tryd.f85 B85 [x0,x1] S
theorem F85_eq (self:EV) (N:Nat) (x0 x1:V) (S:St):F85 self N x0 x1 S =
(qdk x1 S).bind fun p2=>
(qa5 E0 .eql 3 false true p2.1 (.int .i64 0)).bind fun t5=>
(qa2 false t5).bind fun g7=>(bif g7 then some x1 else some (.tuple [])).bind fun t7=>
(qa2 false t5).bind fun g8=>(bif g8 then some x0 else some (.tuple [])).bind fun t8=>
(qa2 false t5).bind fun g9=>(bif g9 then qa5 E0 .eql 9 false false t7 t8 else some (.tuple [])).bind fun t9=>
(qao t5 (some (.bool true)) (some t9)).bind fun t10=>
ifK t10 (
some (.ret (.int .i64 0),p2.2)) (
(qa5 E0 .eql 3 false true p2.1 (.int .i64 1)).bind fun t14=>
ifK t14 (
(ixS x1 (.int .i64 0)).bind fun t18=>
callP (self.f 87 [x0,t18] p2.2) fun t19 S19=>
some (.ret t19,S19)) (
(qdk x0 p2.2).bind fun p23=>
(qa5 E0 .geq 3 false false p2.1 p23.1).bind fun t24=>
ifK t24 (
some (.ret (.int .i64 (-1)),p23.2)) (
none))):=by kernel_rfl
end
end Go.Proofs.YtafbipadnnmccaaDoor.W

namespace Go.Proofs.YtafbipadnnmccaaDoor.W
open Go.Proofs.YtafbipadnnmccaaDoor.Ev Go.RowKit
structure RefL (K:FuncId->Option KF):Prop where
 k24:K 24=none
 k44:K 44=none
 k23:K 23=none
 k25:K 25=none
 k46:K 46=none
 k66:K 66=none
 k73:K 73=none
 k87:K 87=none
 k67:K 67=none
 k47:K 47=none
 k48:K 48=none
 k99:K 99=none
 k100:K 100=none
 k101:K 101=none
 k68:K 68=none
 k71:K 71=none
 k38:K 38=none
 k60:K 60=none
 k13:K 13=none
 k35:K 35=none
 k72:K 72=none
 k70:K 70=none
 k69:K 69=none
 k90:K 90=none
 k88:K 88=none
 k98:K 98=none
 k74:K 74=none
 k89:K 89=none
 k49:K 49=none
 k19:K 19=none
 k20:K 20=none
 k21:K 21=none
 k22:K 22=none
 k45:K 45=none
 k8:K 8=none
 k26:K 26=none
 k28:K 28=none
 k75:K 75=none
 k50:K 50=none
 k78:K 78=none
 k30:K 30=none
 k31:K 31=none
 k102:K 102=none
 k93:K 93=none
 k92:K 92=none
 k77:K 77=none
 k76:K 76=none
 k91:K 91=none
 k27:K 27=none
 k51:K 51=none
 k29:K 29=none
 k9:K 9=none
 k11:K 11=none
 k34:K 34=none
 k10:K 10=none
 k14:K 14=none
 k36:K 36=none
 k15:K 15=none
 k12:K 12=none
 k85:K 85=none
 k3:K 3=none
abbrev RdL (K:FuncId->Option KF) (f:FuncId) (F:Func) (B:D):Prop:=∀{n:Nat} {args:List V} {s:St} {r:En×St},qdz E0 (ev E0 K n) qa3 F B args s=some r->(ev E0 K (n+1)).f f args s=some r
section
variable {K:FuncId->Option KF}
theorem rv24 (h:RefL K):RdL K 24 Tryd.f24 B24:=qae (c:=C24) (d:=B24) (by kernel_rfl) (by kernel_rfl) (qa4 C24 _ (by kernel_rfl)) h.k24
theorem rv44 (h:RefL K):RdL K 44 Tryd.f44 B44:=qae (c:=C44) (d:=B44) (by kernel_rfl) (by kernel_rfl) (qa4 C44 _ (by kernel_rfl)) h.k44
theorem rv23 (h:RefL K):RdL K 23 Tryd.f23 B23:=qae (c:=C23) (d:=B23) (by kernel_rfl) (by kernel_rfl) (qa4 C23 _ (by kernel_rfl)) h.k23
theorem rv25 (h:RefL K):RdL K 25 Tryd.f25 B25:=qae (c:=C25) (d:=B25) (by kernel_rfl) (by kernel_rfl) (qa4 C25 _ (by kernel_rfl)) h.k25
theorem rv46 (h:RefL K):RdL K 46 Tryd.f46 B46:=qae (c:=C46) (d:=B46) (by kernel_rfl) (by kernel_rfl) (qa4 C46 _ (by kernel_rfl)) h.k46
theorem rv66 (h:RefL K):RdL K 66 Tryd.f66 B66:=qae (c:=C66) (d:=B66) (by kernel_rfl) (by kernel_rfl) (qa4 C66 _ (by kernel_rfl)) h.k66
theorem rv73 (h:RefL K):RdL K 73 Tryd.f73 B73:=qae (c:=C73) (d:=B73) (by kernel_rfl) (by kernel_rfl) (qa4 C73 _ (by kernel_rfl)) h.k73
theorem rv87 (h:RefL K):RdL K 87 Tryd.f87 B87:=qae (c:=C87) (d:=B87) (by kernel_rfl) (by kernel_rfl) (qa4 C87 _ (by kernel_rfl)) h.k87
theorem rv67 (h:RefL K):RdL K 67 Tryd.f67 B67:=qae (c:=C67) (d:=B67) (by kernel_rfl) (by kernel_rfl) (qa4 C67 _ (by kernel_rfl)) h.k67
theorem rv47 (h:RefL K):RdL K 47 Tryd.f47 B47:=qae (c:=C47) (d:=B47) (by kernel_rfl) (by kernel_rfl) (qa4 C47 _ (by kernel_rfl)) h.k47
theorem rv48 (h:RefL K):RdL K 48 Tryd.f48 B48:=qae (c:=C48) (d:=B48) (by kernel_rfl) (by kernel_rfl) (qa4 C48 _ (by kernel_rfl)) h.k48
theorem rv99 (h:RefL K):RdL K 99 Tryd.f99 B99:=qae (c:=C99) (d:=B99) (by kernel_rfl) (by kernel_rfl) (qa4 C99 _ (by kernel_rfl)) h.k99
theorem rv100 (h:RefL K):RdL K 100 Tryd.f100 B100:=qae (c:=C100) (d:=B100) (by kernel_rfl) (by kernel_rfl) (qa4 C100 _ (by kernel_rfl)) h.k100
theorem rv101 (h:RefL K):RdL K 101 Tryd.f101 B101:=qae (c:=C101) (d:=B101) (by kernel_rfl) (by kernel_rfl) (qa4 C101 _ (by kernel_rfl)) h.k101
theorem rv68 (h:RefL K):RdL K 68 Tryd.f68 B68:=qae (c:=C68) (d:=B68) (by kernel_rfl) (by kernel_rfl) (qa4 C68 _ (by kernel_rfl)) h.k68
theorem rv71 (h:RefL K):RdL K 71 Tryd.f71 B71:=qae (c:=C71) (d:=B71) (by kernel_rfl) (by kernel_rfl) (qa4 C71 _ (by kernel_rfl)) h.k71
theorem rv38 (h:RefL K):RdL K 38 Tryd.f38 B38:=qae (c:=C38) (d:=B38) (by kernel_rfl) (by kernel_rfl) (qa4 C38 _ (by kernel_rfl)) h.k38
theorem rv60 (h:RefL K):RdL K 60 Tryd.f60 B60:=qae (c:=C60) (d:=B60) (by kernel_rfl) (by kernel_rfl) (qa4 C60 _ (by kernel_rfl)) h.k60
theorem rv13 (h:RefL K):RdL K 13 Tryd.f13 B13:=qae (c:=C13) (d:=B13) (by kernel_rfl) (by kernel_rfl) (qa4 C13 _ (by kernel_rfl)) h.k13
theorem rv35 (h:RefL K):RdL K 35 Tryd.f35 B35:=qae (c:=C35) (d:=B35) (by kernel_rfl) (by kernel_rfl) (qa4 C35 _ (by kernel_rfl)) h.k35
theorem rv72 (h:RefL K):RdL K 72 Tryd.f72 B72:=qae (c:=C72) (d:=B72) (by kernel_rfl) (by kernel_rfl) (qa4 C72 _ (by kernel_rfl)) h.k72
theorem rv70 (h:RefL K):RdL K 70 Tryd.f70 B70:=qae (c:=C70) (d:=B70) (by kernel_rfl) (by kernel_rfl) (qa4 C70 _ (by kernel_rfl)) h.k70
theorem rv69 (h:RefL K):RdL K 69 Tryd.f69 B69:=qae (c:=C69) (d:=B69) (by kernel_rfl) (by kernel_rfl) (qa4 C69 _ (by kernel_rfl)) h.k69
theorem rv90 (h:RefL K):RdL K 90 Tryd.f90 B90:=qae (c:=C90) (d:=B90) (by kernel_rfl) (by kernel_rfl) (qa4 C90 _ (by kernel_rfl)) h.k90
theorem rv88 (h:RefL K):RdL K 88 Tryd.f88 B88:=qae (c:=C88) (d:=B88) (by kernel_rfl) (by kernel_rfl) (qa4 C88 _ (by kernel_rfl)) h.k88
theorem rv98 (h:RefL K):RdL K 98 Tryd.f98 B98:=qae (c:=C98) (d:=B98) (by kernel_rfl) (by kernel_rfl) (qa4 C98 _ (by kernel_rfl)) h.k98
theorem rv74 (h:RefL K):RdL K 74 Tryd.f74 B74:=qae (c:=C74) (d:=B74) (by kernel_rfl) (by kernel_rfl) (qa4 C74 _ (by kernel_rfl)) h.k74
theorem rv89 (h:RefL K):RdL K 89 Tryd.f89 B89:=qae (c:=C89) (d:=B89) (by kernel_rfl) (by kernel_rfl) (qa4 C89 _ (by kernel_rfl)) h.k89
theorem rv49 (h:RefL K):RdL K 49 Tryd.f49 B49:=qae (c:=C49) (d:=B49) (by kernel_rfl) (by kernel_rfl) (qa4 C49 _ (by kernel_rfl)) h.k49
theorem rv19 (h:RefL K):RdL K 19 Tryd.f19 B19:=qae (c:=C19) (d:=B19) (by kernel_rfl) (by kernel_rfl) (qa4 C19 _ (by kernel_rfl)) h.k19
theorem rv20 (h:RefL K):RdL K 20 Tryd.f20 B20:=qae (c:=C20) (d:=B20) (by kernel_rfl) (by kernel_rfl) (qa4 C20 _ (by kernel_rfl)) h.k20
theorem rv21 (h:RefL K):RdL K 21 Tryd.f21 B21:=qae (c:=C21) (d:=B21) (by kernel_rfl) (by kernel_rfl) (qa4 C21 _ (by kernel_rfl)) h.k21
theorem rv22 (h:RefL K):RdL K 22 Tryd.f22 B22:=qae (c:=C22) (d:=B22) (by kernel_rfl) (by kernel_rfl) (qa4 C22 _ (by kernel_rfl)) h.k22
theorem rv45 (h:RefL K):RdL K 45 Tryd.f45 B45:=qae (c:=C45) (d:=B45) (by kernel_rfl) (by kernel_rfl) (qa4 C45 _ (by kernel_rfl)) h.k45
theorem rv8 (h:RefL K):RdL K 8 Tryd.f8 B8:=qae (c:=C8) (d:=B8) (by kernel_rfl) (by kernel_rfl) (qa4 C8 _ (by kernel_rfl)) h.k8
theorem rv11 (h:RefL K):RdL K 11 Tryd.f11 B11:=qae (c:=C11) (d:=B11) (by kernel_rfl) (by kernel_rfl) (qa4 C11 _ (by kernel_rfl)) h.k11
theorem rv34 (h:RefL K):RdL K 34 Tryd.f34 B34:=qae (c:=C34) (d:=B34) (by kernel_rfl) (by kernel_rfl) (qa4 C34 _ (by kernel_rfl)) h.k34
theorem rv10 (h:RefL K):RdL K 10 Tryd.f10 B10:=qae (c:=C10) (d:=B10) (by kernel_rfl) (by kernel_rfl) (qa4 C10 _ (by kernel_rfl)) h.k10
theorem rv14 (h:RefL K):RdL K 14 Tryd.f14 B14:=qae (c:=C14) (d:=B14) (by kernel_rfl) (by kernel_rfl) (qa4 C14 _ (by kernel_rfl)) h.k14
theorem rv36 (h:RefL K):RdL K 36 Tryd.f36 B36:=qae (c:=C36) (d:=B36) (by kernel_rfl) (by kernel_rfl) (qa4 C36 _ (by kernel_rfl)) h.k36
theorem rv15 (h:RefL K):RdL K 15 Tryd.f15 B15:=qae (c:=C15) (d:=B15) (by kernel_rfl) (by kernel_rfl) (qa4 C15 _ (by kernel_rfl)) h.k15
theorem rv12 (h:RefL K):RdL K 12 Tryd.f12 B12:=qae (c:=C12) (d:=B12) (by kernel_rfl) (by kernel_rfl) (qa4 C12 _ (by kernel_rfl)) h.k12
theorem rv85 (h:RefL K):RdL K 85 Tryd.f85 B85:=qae (c:=C85) (d:=B85) (by kernel_rfl) (by kernel_rfl) (qa4 C85 _ (by kernel_rfl)) h.k85
end
theorem big4:4<big:=by unfold big; decide
theorem qg8 (S:St):onS S=S.lg []:=rfl
theorem llg (S:St) (l k:List LE):(S.lg l).lg k=S.lg k:=rfl
structure Lx (S:St) (b:Nat) (s:Bs) (i:Nat) (vT vW:V):Prop where
 ex:∃t,AgAt S b 57 4 t/\t.get 0=some (sv s)/\t.get 1=some (.int .i64 (i:Int))/\t.get 2=some vT/\t.get 3=some vW
section
variable {K:FuncId->Option KF} {S:St} {b i:Nat} {s:Bs} {vT vW:V}
theorem Lx.s0 (ho:S.on=false) (h:Lx S b s i vT vW) (l:List LE):ld1 (.ptr b 0) (S.lg l)=some (sv s,S.lg (⟨b,0,1,false⟩::l)):=by
 obtain⟨t,h1,h2,_⟩:=h.ex;exact qbb ho (h1.ld1 ho big4 (by decide) h2) l
theorem Lx.i1 (ho:S.on=false) (h:Lx S b s i vT vW) (l:List LE):ld1 (.ptr b 1) (S.lg l)=some (.int .i64 (i:Int),S.lg (⟨b,1,2,false⟩::l)):=by
 obtain⟨t,h1,_,h2,_⟩:=h.ex;exact qbb ho (h1.ld1 ho big4 (by decide) h2) l
theorem Lx.grew {W:Nat->Prop} {U:St} (h:Lx S b s i vT vW) (hb:b<S.next) (hw:¬W b) (g:Grew W S U):Lx U b s i vT vW:=by
 obtain⟨t,h1,h2⟩:=h.ex;exact⟨t,h1.grew hb hw g,h2⟩
theorem qen (hK:RefL K) (m:Nat) (ho:S.on=false) (h:Lx S b s i vT vW):(ev E0 K (m+1)).f 24 [.ptr b 0] S=some (.ret (.bool (decide (i<s.length))),S):=rv24 hK (by
 show F24 (ev E0 K m) qa3 (.ptr b 0) S=_;rw[F24_eq,show qa1 (.ptr b 0)=some (.ptr b 0)from rfl,oB,show faP 1 false 1 (.ptr b 0)=some (.ptr b 1)from rfl,oB,qg8,h.i1 ho,oB];dsimp only;rw[oB,show faP 0 false 1 (.ptr b 0)=some (.ptr b 0)from rfl,oB,qg8,llg,h.s0 ho,oB];dsimp only;rw[qg8,llg,lnStr_sv,oB];dsimp only
 rw[qkg,oB,qcu (by rfl),qg8,llg,qd2 ho])
theorem geqN (a b:Nat):qa5 E0 .geq 3 false false (.int .i64 (a:Int)) (.int .i64 (b:Int))=some (.bool (decide (b<=a))):=by
 rw[binV_ii,intsV_geq]
 congr 2
 simp
def begD (s t:Bs):Bool:=s.take t.length==t
theorem beg_lt {s t:Bs} (h:¬t.length<=s.length):begD s t=false:=by
 unfold begD;refine beq_eq_false_iff_ne.2 fun e=>h ?_;rw[<- e,List.length_take];omega
theorem beg_run (hK:RefL K) (m:Nat) (s t:Bs) (S:St):(ev E0 K (m+1)).f 60 [sv s,sv t] S=some (.ret (.bool (begD s t)),S):=rv60 hK (by
 show F60 (ev E0 K m) qa3 (sv s) (sv t) S=_;rw[F60_eq,lnStr_sv,oB];dsimp only;rw[lnStr_sv,oB];dsimp only;rw[geqN,oB];by_cases h:t.length<=s.length
 . rw[dT h]
   simp only[qad,oB,cT,lnStr_sv];rw[qbd und9 s (qdh .i64 h) h,oB];simp only[oB];rw[eqStr,oB,pickV_bool,cT,oB,List.drop_zero,Nat.sub_zero];rfl
 . rw[dF h,beg_lt h]
   rfl)
theorem has_run (hK:RefL K) (m:Nat) (s t:Bs) (S:St):(ev E0 K (m+2)).f 38 [sv s,sv t] S=some (.ret (.bool (begD s t)),S):=rv38 hK (by
 show F38 (ev E0 K (m+1)) qa3 (sv s) (sv t) S=_
 rw[F38_eq,beg_run hK m,callP_ret])
theorem next_run (hK:RefL K) (m:Nat) (ho:S.on=false) (h:Lx S b s i vT vW) (hi:i<=s.length) (t:Bs):(ev E0 K (m+3)).f 44 [.ptr b 0,sv t] S=some (.ret (.bool (begD (s.drop i) t)),S):=rv44 hK (by
 show F44 (ev E0 K (m+2)) qa3 (.ptr b 0) (sv t) S=_;rw[F44_eq,show qa1 (.ptr b 0)=some (.ptr b 0)from rfl,oB,show faP 0 false 1 (.ptr b 0)=some (.ptr b 0)from rfl,oB,qg8,h.s0 ho,oB];dsimp only;rw[oB,show faP 1 false 1 (.ptr b 0)=some (.ptr b 1)from rfl,oB,qg8,llg,h.i1 ho,oB];dsimp only;rw[qg8,llg,qbd und9 s (qdi .i64 hi) (lR _),oB];dsimp only
 rw[qg8,llg,has_run hK m,qby,qcu (by rfl),qg8,llg,qd2 ho,List.take_of_length_le (by rw[List.length_drop]; omega)])
theorem addN {a c:Nat} (h:a+c<9223372036854775808):qa5 E0 .add 3 false false (.int .i64 (a:Int)) (.int .i64 (c:Int))=some (.int .i64 ((a+c:Nat):Int)):=by
 rw[binV_ii,intsV_add,qg0 (by omega) (by omega),Int.natCast_add]
theorem Lx.put (ho:S.on=false) (h:Lx S b s i vT vW) (j:Nat):∃U,stP 1 (.ptr b 1) (.int .i64 (j:Int)) S=some (.tuple [],U)/\Lx U b s j vT vW/\Grew (fun x=>x=b) S U/\U.next=S.next:=by
 obtain⟨t,h1,h2,h3,h4,h5⟩:=h.ex;obtain⟨U,k1,k2,k3,k4⟩:=h1.st1 ho big4 (by decide) (by decide:1<4) (.int .i64 (j:Int)) rfl rfl rfl;refine⟨U,k1,⟨_,k2,?_,?_,?_,?_⟩,k3,k4⟩<;>rw[Tr.get_set]
 . exact h2
 . rfl
 . exact h4
 . exact h5
theorem Lx.s0f (ho:S.on=false) (h:Lx S b s i vT vW):ld1 (.ptr b 0) S=some (sv s,S):=by
 obtain⟨t,h1,h2,_⟩:=h.ex;exact h1.ld1 ho big4 (by decide) h2
theorem Lx.i1f (ho:S.on=false) (h:Lx S b s i vT vW):ld1 (.ptr b 1) S=some (.int .i64 (i:Int),S):=by
 obtain⟨t,h1,_,h2,_⟩:=h.ex;exact h1.ld1 ho big4 (by decide) h2
theorem qbc (hK:RefL K) (m:Nat) (ho:S.on=false) (h:Lx S b s i vT vW) (hi:i<=s.length) {t:Bs} (ht:begD (s.drop i) t=false):(ev E0 K (m+4)).f 23 [.ptr b 0,sv t] S=some (.ret (.bool false),S):=rv23 hK (by
 show F23 (ev E0 K (m+3)) qa3 (.ptr b 0) (sv t) S=_;rw[F23_eq,next_run hK m ho h hi,callP_ret,ht]
 rfl)
theorem qb2 (hK:RefL K) (m:Nat) (ho:S.on=false) (h:Lx S b s i vT vW) (hi:i<=s.length) {t:Bs} (hl:i+t.length<9223372036854775808) (ht:begD (s.drop i) t=true) :
 ∃U,(ev E0 K (m+4)).f 23 [.ptr b 0,sv t] S=some (.ret (.bool true),U)/\Lx U b s (i+t.length) vT vW/\Grew (fun x=>x=b) S U/\U.next=S.next:=by
 obtain⟨U,k1,k2⟩:=h.put ho (i+t.length);refine⟨U,rv23 hK ?_,k2⟩;show F23 (ev E0 K (m+3)) qa3 (.ptr b 0) (sv t) S=_;rw[F23_eq,next_run hK m ho h hi,callP_ret,ht,show unV .not (.bool true)=some (.bool false)from rfl,oB,ifK_bool,cF,show qa1 (.ptr b 0)=some (.ptr b 0)from rfl,oB,show faP 1 false 1 (.ptr b 0)=some (.ptr b 1)from rfl,oB,h.i1f ho,oB];dsimp only;rw[lnStr_sv,oB];dsimp only;rw[addN hl,oB,oB,show faP 1 false 1 (.ptr b 0)=some (.ptr b 1)from rfl,oB,k1,oB]
def qjx (c n:Nat):Tr V:=Tr.ofListFrom .nil [.int .i64 (c:Int),.int .i64 (n:Int)] 0
theorem build_52 (c n:Int):qaa E0 52 [(0,.int .i64 c),(1,.int .i64 n)]=some (.agg 2 (Tr.ofListFrom .nil [.int .i64 c,.int .i64 n] 0)):=by kernel_rfl
theorem fail_run (hK:RefL K) (m:Nat) (ho:S.on=false) (c n:Nat):∃U,(ev E0 K (m+1)).f 25 [.int .i64 (c:Int),.int .i64 (n:Int)] S=some (.pan (.iface 51 (.ptr S.next 0)),U)/\AgAt U S.next 52 2 (qjx c n)/\Grew (fun _=>False) S U/\U.next=S.next+1:=by
 obtain⟨a1,a2,a3⟩:=qbx ho 52 2 (qjx c n);refine⟨_,rv25 hK ?_,a1,a2,a3⟩;show F25 (ev E0 K m) qa3 (.int .i64 (c:Int)) (.int .i64 (n:Int)) S=_;rw[F25_eq,build_52,oB,show boxK 52 (.agg 2 (Tr.ofListFrom .nil [.int .i64 (c:Int),.int .i64 (n:Int)] 0)) S=some (.ptr S.next 0,(nwP 52 2 (qjx c n) S).2)from rfl,oB];rfl
end
end Go.Proofs.YtafbipadnnmccaaDoor.W
end
