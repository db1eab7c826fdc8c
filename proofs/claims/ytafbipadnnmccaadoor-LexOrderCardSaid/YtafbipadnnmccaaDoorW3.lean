/-
  WHAT THE FUNCTIONS COME TO: each is read by the evaluator,printed,and told as a function of data,part 3 of 13 (no condition).
-/
import Derived.Test.YtafbipadnnmccaaDoorW2
import Derived.Test.YtafbipadnnmccaaDoorProg
import Derived.KernelRfl
noncomputable section
namespace Go.Proofs.YtafbipadnnmccaaDoor.W
open Go.Proofs.YtafbipadnnmccaaDoor.Ev
set_option maxRecDepth 100000
noncomputable section
def C22:Code:=Tryd.f22.body.getD .skip
def B22:D:=(qaw C22 [[],[],[],[],[],[],[],[],[],[],[],[0,3,7,8,65,66,67],[],[0,7,8],[],[],[],[],[],[],[0,0,7,8],[2],[],[],[]]).1
def RL22:List Nat:=cellsOf Tryd.f22.results.toList
def qlg (self:EV) (N:Nat) (nk:Ac->St->Rs) (ek:Nat->Ac->St->Rs) (a:Ac) (S:St):Rs:=qbh [0,7,8] a fun a=>dr E0 self RL22 N (B22.r.r.r.r.r.r.r.r).r (mkK E0 self Tryd.f22 nk ek) a S
theorem R22_65_eq (self:EV) (N:Nat) (nk:Ac->St->Rs) (ek:Nat->Ac->St->Rs) ( v0 v7 v8:V) (S:St):qlg self N nk ek (fr 120 [(0,v0),(7,v7),(8,v8)]) S =
(qa1 v0).bind fun t68=>
(faP 3 false 1 t68).bind fun t69=>
(ld1 t69 (onS S)).bind fun p70=>
(qa1 v0).bind fun t72=>
(faP 2 false 1 t72).bind fun t73=>
(ld1 t73 (onS p70.2)).bind fun p74=>
(lnS p74.1 (onS p74.2)).bind fun p75=>
(qab E0 89 [(0,p75.1),(1,v8)]).bind fun t77=>
(bsP 89 2 1 (Tr.ofListFrom .nil [(.int .i64 0),(sv [])] 0) [(0,t77)] (onS p75.2)).bind fun p78=>
(apP 89 2 24 p70.1 p78.1 (onS p78.2)).bind fun p79=>
(qa1 v0).bind fun t80=>
(faP 3 false 1 t80).bind fun t81=>
(stP 1 t81 p79.1 (onS p79.2)).bind fun p82=>
qh7 [(4,[8,9,12])] S [[],[],[],[],p70.2.log,[],[],[],p74.2.log,p75.2.log,[],[],p78.2.log,p79.2.log,[],[],p82.2.log] p82.2 fun S83=>
(qa1 v0).bind fun t86=>
(faP 2 false 1 t86).bind fun t87=>
(ld1 t87 (onS S83)).bind fun p88=>
(ldA 5 v7 (onS p88.2)).bind fun p89=>
(bsP 39 5 1 (Tr.ofListFrom .nil [(.int .i64 0),(sv []),.nilslice,(.bool false),(.int .i64 0)] 0) [(0,p89.1)] (onS p89.2)).bind fun p90=>
(apP 39 5 64 p88.1 p90.1 (onS p90.2)).bind fun p91=>
(qa1 v0).bind fun t92=>
(faP 2 false 1 t92).bind fun t93=>
(stP 1 t93 p91.1 (onS p91.2)).bind fun p94=>
qh7 [(4,[5,6])] S83 [[],[],[],[],p88.2.log,p89.2.log,p90.2.log,p91.2.log,[],[],p94.2.log] p94.2 fun S95=>
some (.ret (.bool true),S95):=by kernel_rfl
def qe6 (self:EV) (N:Nat) (nk:Ac->St->Rs) (ek:Nat->Ac->St->Rs) (n:Nat) ( v0 v3 v7 v8 v65 v66 v67:V) (S:St):Rs:=qdo [0,3,7,8,65,66,67] (dr E0 self RL22 N (B22.r.r.r.r.r.r.r.r.l.r.l.l)) (mkK E0 self Tryd.f22 nk ek) n (fr 120 [(0,v0),(3,v3),(7,v7),(8,v8),(65,v65),(66,v66),(67,v67)]) S
theorem L22_101_eq (self:EV) (N:Nat) (nk:Ac->St->Rs) (ek:Nat->Ac->St->Rs) (n:Nat) ( v0 v3 v7 v8 v65 v66 v67:V) (S:St):qe6 self N nk ek (n+1) v0 v3 v7 v8 v65 v66 v67 S =
(qa5 E0 .lss 3 false false v67 v66).bind fun t102=>
ifK t102 (
(ixP 6 v65 v67).bind fun t103=>
(ldA 6 t103 S).bind fun p104=>
(some (nwP 49 6 (Tr.ofListFrom .nil [(.int .i64 0),(sv []),(sv []),(.bool false),.nilslice,.nilptr] 0) p104.2)).bind fun p105=>
(stP 6 p105.1 p104.1 p105.2).bind fun p106=>
(faP 0 false 1 p105.1).bind fun t107=>
(ld1 t107 p106.2).bind fun p108=>
(qa5 E0 .neq 3 false true p108.1 (.int .i64 0)).bind fun t109=>
(qa2 true t109).bind fun g111=>(bif g111 then faP 0 false 1 p105.1 else some (.tuple [])).bind fun t111=>
(qa2 true t109).bind fun g112=>(bif g112 then ld1 t111 p108.2 else some (.tuple [],p108.2)).bind fun p112=>
(qa2 true t109).bind fun g113=>(bif g113 then qa5 E0 .neq 3 false true p112.1 (.int .i64 1)else some (.tuple [])).bind fun t113=>
(qam t109 (some t113) (some (.bool false))).bind fun t114=>
ifK t114 (
callP (self.f 25 [(.int .i64 19),v3] p112.2) fun t116 S116=>
(faP 1 false 1 p105.1).bind fun t118=>
(ld1 t118 S116).bind fun p119=>
(qa5 E0 .add 9 false false v8 p119.1).bind fun t120=>
(faP 3 false 1 v7).bind fun t122=>
(ld1 t122 p119.2).bind fun p123=>
(qa2 false p123.1).bind fun g125=>(bif g125 then faP 0 false 1 p105.1 else some (.tuple [])).bind fun t125=>
(qa2 false p123.1).bind fun g126=>(bif g126 then ld1 t125 p123.2 else some (.tuple [],p123.2)).bind fun p126=>
(qa2 false p123.1).bind fun g127=>(bif g127 then qa5 E0 .eql 3 false true p126.1 (.int .i64 1)else some (.tuple [])).bind fun t127=>
(qam p123.1 (some (.bool true)) (some t127)).bind fun t128=>
(faP 3 false 1 v7).bind fun t129=>
(stP 1 t129 t128 p126.2).bind fun p130=>
(qa5 E0 .add 3 false true v67 (.int .i64 1)).bind fun t131=>
qe6 self N nk ek n v0 v3 v7 t120 v65 v66 t131 p130.2) (
(faP 1 false 1 p105.1).bind fun t134=>
(ld1 t134 p112.2).bind fun p135=>
(qa5 E0 .add 9 false false v8 p135.1).bind fun t136=>
(faP 3 false 1 v7).bind fun t138=>
(ld1 t138 p135.2).bind fun p139=>
(qa2 false p139.1).bind fun g141=>(bif g141 then faP 0 false 1 p105.1 else some (.tuple [])).bind fun t141=>
(qa2 false p139.1).bind fun g142=>(bif g142 then ld1 t141 p139.2 else some (.tuple [],p139.2)).bind fun p142=>
(qa2 false p139.1).bind fun g143=>(bif g143 then qa5 E0 .eql 3 false true p142.1 (.int .i64 1)else some (.tuple [])).bind fun t143=>
(qam p139.1 (some (.bool true)) (some t143)).bind fun t144=>
(faP 3 false 1 v7).bind fun t145=>
(stP 1 t145 t144 p142.2).bind fun p146=>
(qa5 E0 .add 3 false true v67 (.int .i64 1)).bind fun t147=>
qe6 self N nk ek n v0 v3 v7 t136 v65 v66 t147 p146.2)) (
ek 0 (fr 120 [(0,v0),(7,v7),(8,v8)]) S):=by kernel_rfl
def F22 (self:EV) (N:Nat) (x0:V) (S:St):Rs:=qd9 E0 self N Tryd.f22 B22 [x0] S
theorem F22_eq (self:EV) (N:Nat) (x0:V) (S:St):F22 self N x0 S =
(qa1 x0).bind fun t2=>
(faP 1 false 1 t2).bind fun t3=>
(ld1 t3 S).bind fun p4=>
(qa1 x0).bind fun t7=>
(faP 2 false 1 t7).bind fun t8=>
(ld1 t8 p4.2).bind fun p9=>
(lnS p9.1 p9.2).bind fun p10=>
(qa5 E0 .gtr 3 false true p10.1 (.int .i64 0)).bind fun t13=>
(qa2 true t13).bind fun g15=>(bif g15 then some x0 else some (.tuple [])).bind fun t15=>
(qa2 true t13).bind fun g16=>(bif g16 then qa1 t15 else some (.tuple [])).bind fun t16=>
(qa2 true t13).bind fun g17=>(bif g17 then faP 2 false 1 t16 else some (.tuple [])).bind fun t17=>
(qa2 true t13).bind fun g18=>(bif g18 then ld1 t17 p10.2 else some (.tuple [],p10.2)).bind fun p18=>
(qa2 true t13).bind fun g19=>(bif g19 then some p10.1 else some (.tuple [])).bind fun t19=>
(qa2 true t13).bind fun g20=>(bif g20 then qa5 E0 .sub 3 false true t19 (.int .i64 1)else some (.tuple [])).bind fun t20=>
(qa2 true t13).bind fun g21=>(bif g21 then ixP 5 p18.1 t20 else some (.tuple [])).bind fun t21=>
(qa2 true t13).bind fun g22=>(bif g22 then faP 0 false 1 t21 else some (.tuple [])).bind fun t22=>
(qa2 true t13).bind fun g23=>(bif g23 then ld1 t22 p18.2 else some (.tuple [],p18.2)).bind fun p23=>
(qa2 true t13).bind fun g24=>(bif g24 then qa5 E0 .eql 3 false true p23.1 (.int .i64 1)else some (.tuple [])).bind fun t24=>
(qam t13 (some t24) (some (.bool false))).bind fun t25=>
(qa2 true t25).bind fun g27=>(bif g27 then some x0 else some (.tuple [])).bind fun t27=>
(qa2 true t25).bind fun g28=>(bif g28 then qa1 t27 else some (.tuple [])).bind fun t28=>
(qa2 true t25).bind fun g29=>(bif g29 then faP 2 false 1 t28 else some (.tuple [])).bind fun t29=>
(qa2 true t25).bind fun g30=>(bif g30 then ld1 t29 p23.2 else some (.tuple [],p23.2)).bind fun p30=>
(qa2 true t25).bind fun g31=>(bif g31 then some p10.1 else some (.tuple [])).bind fun t31=>
(qa2 true t25).bind fun g32=>(bif g32 then qa5 E0 .sub 3 false true t31 (.int .i64 1)else some (.tuple [])).bind fun t32=>
(qa2 true t25).bind fun g33=>(bif g33 then ixP 5 p30.1 t32 else some (.tuple [])).bind fun t33=>
(qa2 true t25).bind fun g34=>(bif g34 then faP 1 false 1 t33 else some (.tuple [])).bind fun t34=>
(qa2 true t25).bind fun g35=>(bif g35 then ld1 t34 p30.2 else some (.tuple [],p30.2)).bind fun p35=>
(qa2 true t25).bind fun g36=>callP (bif g36 then self.f 13 [p35.1,(sv [60,60])] p35.2 else some (.ret (.tuple []),p35.2)) fun t36 S36=>
(qam t25 (some t36) (some (.bool false))).bind fun t37=>
callP (self.f 49 [x0,(.int .i64 0),(.int .i64 0)] S36) fun t40 S40=>
(qab E0 39 [(0,(.int .i64 0)),(2,t40),(4,p4.1)]).bind fun t42=>
(some (nwP 39 5 (Tr.ofListFrom .nil [(.int .i64 0),(sv []),.nilslice,(.bool false),(.int .i64 0)] 0) S40)).bind fun p43=>
(stP 5 p43.1 t42 p43.2).bind fun p44=>
(qa1 x0).bind fun t47=>
(faP 2 false 1 t47).bind fun t48=>
(ld1 t48 (onS p44.2)).bind fun p49=>
(ldA 5 p43.1 (onS p49.2)).bind fun p50=>
(bsP 39 5 1 (Tr.ofListFrom .nil [(.int .i64 0),(sv []),.nilslice,(.bool false),(.int .i64 0)] 0) [(0,p50.1)] (onS p50.2)).bind fun p51=>
(apP 39 5 64 p49.1 p51.1 (onS p51.2)).bind fun p52=>
(qa1 x0).bind fun t53=>
(faP 2 false 1 t53).bind fun t54=>
(stP 1 t54 p52.1 (onS p52.2)).bind fun p55=>
qh7 [(4,[5,6])] p44.2 [[],[],[],[],p49.2.log,p50.2.log,p51.2.log,p52.2.log,[],[],p55.2.log] p55.2 fun S56=>
(unV .not t37).bind fun t58=>
ifK t58 (
some (.ret (.bool true),S56)) (
(qab E0 39 [(0,(.int .i64 3)),(4,p4.1)]).bind fun t61=>
(some (nwP 39 5 (Tr.ofListFrom .nil [(.int .i64 0),(sv []),.nilslice,(.bool false),(.int .i64 0)] 0) S56)).bind fun p62=>
(stP 5 p62.1 t61 p62.2).bind fun p63=>
(faP 2 false 1 p43.1).bind fun t97=>
(ld1 t97 p63.2).bind fun p98=>
(lnS p98.1 p98.2).bind fun p99=>
qe6 self N (qlg self N (qbz E0 self Tryd.f22) qav) (exB 0 (qlg self N (qbz E0 self Tryd.f22) qav) qav) N x0 p4.1 p62.1 (sv []) p98.1 p99.1 (.int .i64 0) p99.2):=by kernel_rfl
end
noncomputable section
theorem E18r (self:EV) (fn:Func) (a:Ac) (ds:List AD) (x0 x1:V) (S:St):lvK E0 self fn a (ad 18 [] [x0,x1]::ds) .ret S =
(qa5 E0 .neq 20 false true .niliface .niliface).bind fun t3=>
(ifK t3 (
(qlk E0 51 true .niliface).bind fun t5=>
(qaa t5 0).bind fun t7=>
(qaa t5 1).bind fun t8=>
(unV .not t8).bind fun t12=>
(ifK t12 (
callE (qkd .niliface S) fun t14 S14=>
(stP 1 x0 .nilslice S14).bind fun p17=>
(stP 1 x1 (.iface 51 t7) p17.2).bind fun p18=>
lvK E0 self fn a ds .ret p18.2) (
(stP 1 x0 .nilslice S).bind fun p21=>
(stP 1 x1 (.iface 51 t7) p21.2).bind fun p22=>
lvK E0 self fn a ds .ret p22.2))) (
lvK E0 self fn a ds .ret S)):=by kernel_rfl
theorem E18p (self:EV) (fn:Func) (a:Ac) (ds:List AD) (x0 x1:V) (v:V) (S:St):lvK E0 self fn a (ad 18 [] [x0,x1]::ds) (.pan v) S =
(qa5 E0 .neq 20 false true v .niliface).bind fun t3=>
(ifK t3 (
(qlk E0 51 true v).bind fun t5=>
(qaa t5 0).bind fun t7=>
(qaa t5 1).bind fun t8=>
(unV .not t8).bind fun t12=>
(ifK t12 (
callE (qkd v S) fun t14 S14=>
(stP 1 x0 .nilslice S14).bind fun p17=>
(stP 1 x1 (.iface 51 t7) p17.2).bind fun p18=>
lvK E0 self fn a ds .ret p18.2) (
(stP 1 x0 .nilslice S).bind fun p21=>
(stP 1 x1 (.iface 51 t7) p21.2).bind fun p22=>
lvK E0 self fn a ds .ret p22.2))) (
lvK E0 self fn a ds .ret S)):=by kernel_rfl
def C8:Code:=Tryd.f8.body.getD .skip
def B8:D:=(qaw C8 [[],[],[],[],[],[],[],[0,2,3,4,5],[0,2,3,4,5],[],[0,2,3,4,5],[],[0,0,2,3,4,5],[0,2,3,4,5],[],[0,2,3,4],[],[],[0,2,3,4,5,40,41,42],[],[0,2,3,4,5],[],[],[],[0,2,3,4,5],[],[0,0,2,3,4],[2,3],[],[],[]]).1
def RL8:List Nat:=cellsOf Tryd.f8.results.toList
def R8_28 (self:EV) (N:Nat) (nk:Ac->St->Rs) (ek:Nat->Ac->St->Rs) (a:Ac) (S:St):Rs:=qbh [0,2,3,4] a fun a=>dr E0 self RL8 N (B8.r.r.r.r.r).r (mkK E0 self Tryd.f8 nk ek) a S
theorem R8_28_eq (self:EV) (N:Nat) (nk:Ac->St->Rs) (ek:Nat->Ac->St->Rs) (ds:List AD) ( v0 v2 v3 v4:V) (S:St):R8_28 self N nk ek (frD 62 [(0,v0),(2,v2),(3,v3),(4,v4)] ds) S =
(qa1 v4).bind fun t30=>
(faP 3 false 1 t30).bind fun t31=>
(ld1 t31 S).bind fun p32=>
(lnS p32.1 p32.2).bind fun p33=>
(qa5 E0 .gtr 3 false true p33.1 (.int .i64 0)).bind fun t34=>
ifK t34 (
(qbv v0 p33.2).bind fun p36=>
qhn E0 self Tryd.f8 (frD 62 [(0,v0),(2,v2),(3,v3),(4,v4),(49,v4),(50,t30),(51,t31),(52,p32.1),(53,p33.1),(54,t34),(55,v0),(56,p36.1)] ds) (self.f 25 [(.int .i64 19),p36.1] p36.2) fun t37 S37=>
(qa1 v4).bind fun t39=>
(faP 2 false 1 t39).bind fun t40=>
(ld1 t40 S37).bind fun p41=>
(stP 1 v2 p41.1 p41.2).bind fun p42=>
(stP 1 v3 .niliface p42.2).bind fun p43=>
finR E0 self Tryd.f8 (frD 62 [(0,v0),(2,v2),(3,v3),(4,v4),(49,v4),(50,t30),(51,t31),(52,p32.1),(53,p33.1),(54,t34),(55,v0),(56,p36.1),(57,t37),(58,v4),(59,t39),(60,t40),(61,p41.1)] ds) p43.2) (
(qa1 v4).bind fun t45=>
(faP 2 false 1 t45).bind fun t46=>
(ld1 t46 p33.2).bind fun p47=>
(stP 1 v2 p47.1 p47.2).bind fun p48=>
(stP 1 v3 .niliface p48.2).bind fun p49=>
finR E0 self Tryd.f8 (frD 62 [(0,v0),(2,v2),(3,v3),(4,v4),(49,v4),(50,t30),(51,t31),(52,p32.1),(53,p33.1),(54,t34),(58,v4),(59,t45),(60,t46),(61,p47.1)] ds) p49.2):=by kernel_rfl
def qil (self:EV) (N:Nat) (nk:Ac->St->Rs) (ek:Nat->Ac->St->Rs) (n:Nat):Ac->St->Rs:=fun a S=>qbh [0,2,3,4,5] a fun a=>qdo [0,2,3,4,5] (dr E0 self RL8 N (B8.r.r.r.r.r.l.l.l)) (mkK E0 self Tryd.f8 nk ek) n a S
def L8_50 (self:EV) (N:Nat) (nk:Ac->St->Rs) (ek:Nat->Ac->St->Rs) (n:Nat) (ds:List AD) ( v0 v2 v3 v4 v5:V) (S:St):Rs:=qdo [0,2,3,4,5] (dr E0 self RL8 N (B8.r.r.r.r.r.l.l.l)) (mkK E0 self Tryd.f8 nk ek) n (frD 62 [(0,v0),(2,v2),(3,v3),(4,v4),(5,v5)] ds) S
def R8_51 (self:EV) (N:Nat) (nk:Ac->St->Rs) (ek:Nat->Ac->St->Rs) (a:Ac) (S:St):Rs:=qbh [0,2,3,4,5] a fun a=>dr E0 self RL8 N (B8.r.r.r.r.r.l.l.l.l).r (mkK E0 self Tryd.f8 nk ek) a S
def L8_58 (self:EV) (N:Nat) (nk:Ac->St->Rs) (ek:Nat->Ac->St->Rs) (n:Nat) (ds:List AD) ( v0 v2 v3 v4 v5 v40 v41 v42:V) (S:St):Rs:=qdo [0,2,3,4,5,40,41,42] (dr E0 self RL8 N (B8.r.r.r.r.r.l.l.l.l.r.l.r.r.l.l)) (mkK E0 self Tryd.f8 nk ek) n (frD 62 [(0,v0),(2,v2),(3,v3),(4,v4),(5,v5),(40,v40),(41,v41),(42,v42)] ds) S
theorem L8_58_eq (self:EV) (N:Nat) (nk:Ac->St->Rs) (ek:Nat->Ac->St->Rs) (n:Nat) (ds:List AD) ( v0 v2 v3 v4 v5 v40 v41 v42:V) (S:St):L8_58 self N nk ek (n+1) ds v0 v2 v3 v4 v5 v40 v41 v42 S =
(qa5 E0 .lss 3 false false v42 v41).bind fun t59=>
ifK t59 (
(ixP 1 v40 v42).bind fun t60=>
(ld1 t60 S).bind fun p61=>
qhn E0 self Tryd.f8 (frD 62 [(0,v0),(2,v2),(3,v3),(4,v4),(5,v5),(7,p61.1),(40,v40),(41,v41),(42,v42),(43,t59),(44,t60),(45,p61.1),(46,p61.1)] ds) (qbt E0 self p61.1 [] p61.2) fun t64 S64=>
ifK t64 (
ek 4 (frD 62 [(0,v0),(2,v2),(3,v3),(4,v4),(5,v5)] ds) S64) (
(qa5 E0 .add 3 false true v42 (.int .i64 1)).bind fun t65=>
L8_58 self N nk ek n ds v0 v2 v3 v4 v5 v40 v41 t65 S64)) (
ek 4 (frD 62 [(0,v0),(2,v2),(3,v3),(4,v4),(5,v5)] ds) S):=by kernel_rfl
theorem R8_51_eq (self:EV) (N:Nat) (nk:Ac->St->Rs) (ek:Nat->Ac->St->Rs) (ds:List AD) ( v0 v2 v3 v4 v5:V) (S:St):R8_51 self N nk ek (frD 62 [(0,v0),(2,v2),(3,v3),(4,v4),(5,v5)] ds) S =
qhn E0 self Tryd.f8 (frD 62 [(0,v0),(2,v2),(3,v3),(4,v4),(5,v5),(37,v4)] ds) (self.f 24 [v4] S) fun t53 S53=>
(unV .not t53).bind fun t54=>
ifK t54 (
ek 0 (frD 62 [(0,v0),(2,v2),(3,v3),(4,v4)] ds) S53) (
(lnS v5 S53).bind fun p56=>
L8_58 self N (fun a s=>qbh [0,2,3,4,5] a fun a=>nk a s) (exB 4 (fun a s=>qbh [0,2,3,4,5] a fun a=>nk a s) ek) N ds v0 v2 v3 v4 v5 v5 p56.1 (.int .i64 0) p56.2):=by kernel_rfl
def L8_67 (self:EV) (N:Nat) (nk:Ac->St->Rs) (ek:Nat->Ac->St->Rs) (n:Nat) (ds:List AD) ( v0 v2 v3 v4 v5:V) (S:St):Rs:=qdo [0,2,3,4,5] (dr E0 self RL8 N (B8.r.r.r.r.r.l.l.l.l.l.l.l)) (mkK E0 self Tryd.f8 nk ek) n (frD 62 [(0,v0),(2,v2),(3,v3),(4,v4),(5,v5)] ds) S
theorem L8_67_eq (self:EV) (N:Nat) (nk:Ac->St->Rs) (ek:Nat->Ac->St->Rs) (n:Nat) (ds:List AD) ( v0 v2 v3 v4 v5:V) (S:St):L8_67 self N nk ek (n+1) ds v0 v2 v3 v4 v5 S =
qhn E0 self Tryd.f8 (frD 62 [(0,v0),(2,v2),(3,v3),(4,v4),(5,v5),(27,v4)] ds) (self.f 23 [v4,(sv [32])] S) fun t69 S69=>
(qa2 false t69).bind fun g71=>(bif g71 then some v4 else some (.tuple [])).bind fun t71=>
(qa2 false t69).bind fun g72=>qhn E0 self Tryd.f8 (frD 62 [(0,v0),(2,v2),(3,v3),(4,v4),(5,v5),(27,v4),(28,t69),(29,t69),(30,t71)] ds) (bif g72 then self.f 23 [t71,(sv [9])] S69 else some (.ret (.tuple []),S69)) fun t72 S72=>
(qam t69 (some (.bool true)) (some t72)).bind fun t73=>
(qa2 false t73).bind fun g75=>(bif g75 then some v4 else some (.tuple [])).bind fun t75=>
(qa2 false t73).bind fun g76=>qhn E0 self Tryd.f8 (frD 62 [(0,v0),(2,v2),(3,v3),(4,v4),(5,v5),(27,v4),(28,t69),(29,t69),(30,t71),(31,t72),(32,t73),(33,t73),(34,t75)] ds) (bif g76 then self.f 23 [t75,(sv [92,10])] S72 else some (.ret (.tuple []),S72)) fun t76 S76=>
(qam t73 (some (.bool true)) (some t76)).bind fun t77=>
ifK t77 (
L8_67 self N nk ek n ds v0 v2 v3 v4 v5 S76) (
ek 2 (frD 62 [(0,v0),(2,v2),(3,v3),(4,v4),(5,v5)] ds) S76):=by kernel_rfl
theorem L8_50_eq (self:EV) (N:Nat) (nk:Ac->St->Rs) (ek:Nat->Ac->St->Rs) (n:Nat) (ds:List AD) ( v0 v2 v3 v4 v5:V) (S:St):L8_50 self N nk ek (n+1) ds v0 v2 v3 v4 v5 S =
L8_67 self N (R8_51 self N (qil self N nk ek n) (exB 1 (qil self N nk ek n) ek)) (exB 2 (R8_51 self N (qil self N nk ek n) (exB 1 (qil self N nk ek n) ek)) (exB 1 (qil self N nk ek n) ek)) N ds v0 v2 v3 v4 v5 S:=by kernel_rfl
theorem N8_50_eq (self:EV) (N:Nat) (nk:Ac->St->Rs) (ek:Nat->Ac->St->Rs) (n:Nat) (ds:List AD) ( v0 v2 v3 v4 v5:V) (S:St):qil self N nk ek n (frD 62 [(0,v0),(2,v2),(3,v3),(4,v4),(5,v5)] ds) S=L8_50 self N nk ek n ds v0 v2 v3 v4 v5 S:=by kernel_rfl
def F8 (self:EV) (N:Nat) (x0:V) (S:St):Rs:=qd9 E0 self N Tryd.f8 B8 [x0] S
theorem F8_eq (self:EV) (N:Nat) (x0:V) (S:St):F8 self N x0 S =
(some (nwP 22 1 (Ev.one .nilslice) S)).bind fun p0=>
(some (nwP 24 1 (Ev.one .niliface) p0.2)).bind fun p1=>
(qbv x0 p1.2).bind fun p3=>
(qa5 E0 .gtr 3 false true p3.1 (.int .i64 4000)).bind fun t4=>
ifK t4 (
(qab E0 52 [(0,(.int .i64 3)),(1,(.int .i64 4000))]).bind fun t5=>
(boxK 52 t5 p3.2).bind fun p6=>
(stP 1 p0.1 .nilslice p6.2).bind fun p8=>
(stP 1 p1.1 (.iface 51 p6.1) p8.2).bind fun p9=>
(ldr1 p0.1 p9.2).bind fun p10=>
(ldr1 p1.1 p10.2).bind fun p11=>
some (.ret (.tuple [p10.1,p11.1]),p11.2)) (
(qab E0 57 [(0,x0)]).bind fun t15=>
(boxK 57 t15 p3.2).bind fun p16=>
(bsP 34 1 4 (Ev.one .nilfn) [(0,(.fn (.func 19) [p16.1] [])),(1,(.fn (.func 20) [p16.1] [])),(2,(.fn (.func 21) [p16.1] [])),(3,(.fn (.func 22) [p16.1] []))] p16.2).bind fun p26=>
L8_50 self N (R8_28 self N (qbz E0 self Tryd.f8) qav) (exB 0 (R8_28 self N (qbz E0 self Tryd.f8) qav) qav) N (adOf (.fn (.func 18) [] [p0.1,p1.1]) []::[]) x0 p0.1 p1.1 p16.1 p26.1 p26.2):=by kernel_rfl
end
noncomputable section
def C89:Code:=Tryd.f89.body.getD .skip
def B89:D:=(qaw C89 [[],[],[0,0,1,2,3,8],[8],[],[],[],[],[],[],[],[],[0,0,1,2,3,8,9],[8],[],[],[0,0,1,2,3,8,9],[8],[],[],[],[],[],[0,0,1,2,3,8,9,11],[8],[],[],[],[0,0,1,3,8,9,12],[8],[],[],[],[]]).1
def F89 (self:EV) (N:Nat) (x0 x1 x2 x3:V) (S:St):Rs:=qd9 E0 self N Tryd.f89 B89 [x0,x1,x2,x3] S
end
noncomputable section
def C45:Code:=Tryd.f45.body.getD .skip
def B45:D:=(qaw C45 [[],[],[0,3,4],[],[0,0,3,4],[0,3,4],[],[],[],[],[0,0,3,4,5,6],[0,3,4],[],[0,3,4],[],[],[],[],[],[]]).1
def RL45:List Nat:=cellsOf Tryd.f45.results.toList
def L45_6 (self:EV) (N:Nat) (nk:Ac->St->Rs) (ek:Nat->Ac->St->Rs) (n:Nat) ( v0 v3 v4:V) (S:St):Rs:=qdo [0,3,4] (dr E0 self RL45 N (B45.r.r.l.l)) (mkK E0 self Tryd.f45 nk ek) n (fr 96 [(0,v0),(3,v3),(4,v4)]) S
theorem L45_6_eq (self:EV) (N:Nat) (nk:Ac->St->Rs) (ek:Nat->Ac->St->Rs) (n:Nat) ( v0 v3 v4:V) (S:St):L45_6 self N nk ek (n+1) v0 v3 v4 S =
callP (self.f 24 [v0] S) fun t8 S8=>
(unV .not t8).bind fun t9=>
ifK t9 (
(qa1 v0).bind fun t11=>
(faP 0 false 1 t11).bind fun t12=>
(ld1 t12 S8).bind fun p13=>
(qbv p13.1 p13.2).bind fun p14=>
callP (self.f 25 [(.int .i64 19),p14.1] p14.2) fun t15 S15=>
(qa1 v0).bind fun t17=>
(faP 1 false 1 t17).bind fun t18=>
(ld1 t18 S15).bind fun p19=>
(qa1 v0).bind fun t22=>
(faP 0 false 1 t22).bind fun t23=>
(ld1 t23 p19.2).bind fun p24=>
(qai E0 9 p24.1 (some p19.1) none none p24.2).bind fun p26=>
callP (self.f 46 [p26.1,(sv [10])] p26.2) fun t27 S27=>
(qaa t27 0).bind fun t29=>
(qaa t27 1).bind fun t30=>
(qaa t27 2).bind fun t31=>
(qa1 v0).bind fun t36=>
(faP 1 false 1 t36).bind fun t37=>
(ld1 t37 S27).bind fun p38=>
(qbv t29 p38.2).bind fun p40=>
(qa5 E0 .add 3 false false p38.1 p40.1).bind fun t41=>
(qa1 v0).bind fun t42=>
(faP 1 false 1 t42).bind fun t43=>
(stP 1 t43 t41 p40.2).bind fun p44=>
ifK t31 (
(qa1 v0).bind fun t47=>
(faP 1 false 1 t47).bind fun t48=>
(ld1 t48 p44.2).bind fun p49=>
(qa5 E0 .add 3 false true p49.1 (.int .i64 1)).bind fun t50=>
(qa1 v0).bind fun t51=>
(faP 1 false 1 t51).bind fun t52=>
(stP 1 t52 t50 p49.2).bind fun p53=>
(faP 1 false 1 v3).bind fun t55=>
(ld1 t55 p53.2).bind fun p56=>
(qa5 E0 .neq 9 false false t29 p56.1).bind fun t57=>
ifK t57 (
L45_6 self N nk ek n v0 v3 v4 p56.2) (
(qa1 v0).bind fun t59=>
(faP 2 false 1 t59).bind fun t60=>
(ld1 t60 (onS p56.2)).bind fun p61=>
(faP 0 false 1 v3).bind fun t62=>
(ld1 t62 (onS p61.2)).bind fun p63=>
(ixP 5 p61.1 p63.1).bind fun t64=>
qh7 [(3,[5])] p56.2 [[],[],[],p61.2.log,[],p63.2.log,[],[]] (onS p63.2) fun S66=>
(qa1 v0).bind fun t69=>
(faP 0 false 1 t69).bind fun t70=>
(ld1 t70 S66).bind fun p71=>
(qai E0 9 p71.1 (some v4) (some p19.1) none p71.2).bind fun p74=>
(qa1 t64).bind fun t75=>
(faP 1 false 1 t75).bind fun t76=>
(stP 1 t76 p74.1 p74.2).bind fun p77=>
(qa1 t64).bind fun t79=>
(faP 3 false 1 t79).bind fun t80=>
(ld1 t80 p77.2).bind fun p81=>
(unV .not p81.1).bind fun t82=>
ifK t82 (
(qa1 v0).bind fun t84=>
(faP 0 false 1 t84).bind fun t85=>
(ld1 t85 p81.2).bind fun p86=>
(qai E0 9 p86.1 none (some p19.1) none p86.2).bind fun p88=>
(qab E0 57 [(0,p88.1),(1,v4)]).bind fun t90=>
(boxK 57 t90 p88.2).bind fun p91=>
callP (self.f 49 [p91.1,(.int .i64 2),(.int .i64 0)] p91.2) fun t95 S95=>
(qa1 t64).bind fun t96=>
(faP 2 false 1 t96).bind fun t97=>
(stP 1 t97 t95 S95).bind fun p98=>
some (.ret (.tuple []),p98.2)) (
some (.ret (.tuple []),p81.2)))) (
(faP 1 false 1 v3).bind fun t100=>
(ld1 t100 p44.2).bind fun p101=>
(qa5 E0 .neq 9 false false t29 p101.1).bind fun t102=>
ifK t102 (
L45_6 self N nk ek n v0 v3 v4 p101.2) (
(qa1 v0).bind fun t104=>
(faP 2 false 1 t104).bind fun t105=>
(ld1 t105 (onS p101.2)).bind fun p106=>
(faP 0 false 1 v3).bind fun t107=>
(ld1 t107 (onS p106.2)).bind fun p108=>
(ixP 5 p106.1 p108.1).bind fun t109=>
qh7 [(3,[5])] p101.2 [[],[],[],p106.2.log,[],p108.2.log,[],[]] (onS p108.2) fun S111=>
(qa1 v0).bind fun t114=>
(faP 0 false 1 t114).bind fun t115=>
(ld1 t115 S111).bind fun p116=>
(qai E0 9 p116.1 (some v4) (some p19.1) none p116.2).bind fun p119=>
(qa1 t109).bind fun t120=>
(faP 1 false 1 t120).bind fun t121=>
(stP 1 t121 p119.1 p119.2).bind fun p122=>
(qa1 t109).bind fun t124=>
(faP 3 false 1 t124).bind fun t125=>
(ld1 t125 p122.2).bind fun p126=>
(unV .not p126.1).bind fun t127=>
ifK t127 (
(qa1 v0).bind fun t129=>
(faP 0 false 1 t129).bind fun t130=>
(ld1 t130 p126.2).bind fun p131=>
(qai E0 9 p131.1 none (some p19.1) none p131.2).bind fun p133=>
(qab E0 57 [(0,p133.1),(1,v4)]).bind fun t135=>
(boxK 57 t135 p133.2).bind fun p136=>
callP (self.f 49 [p136.1,(.int .i64 2),(.int .i64 0)] p136.2) fun t140 S140=>
(qa1 t109).bind fun t141=>
(faP 2 false 1 t141).bind fun t142=>
(stP 1 t142 t140 S140).bind fun p143=>
some (.ret (.tuple []),p143.2)) (
some (.ret (.tuple []),p126.2))))) (
(qa1 v0).bind fun t145=>
(faP 1 false 1 t145).bind fun t146=>
(ld1 t146 S8).bind fun p147=>
(qa1 v0).bind fun t150=>
(faP 0 false 1 t150).bind fun t151=>
(ld1 t151 p147.2).bind fun p152=>
(qai E0 9 p152.1 (some p147.1) none none p152.2).bind fun p154=>
callP (self.f 46 [p154.1,(sv [10])] p154.2) fun t155 S155=>
(qaa t155 0).bind fun t157=>
(qaa t155 1).bind fun t158=>
(qaa t155 2).bind fun t159=>
(qa1 v0).bind fun t164=>
(faP 1 false 1 t164).bind fun t165=>
(ld1 t165 S155).bind fun p166=>
(qbv t157 p166.2).bind fun p168=>
(qa5 E0 .add 3 false false p166.1 p168.1).bind fun t169=>
(qa1 v0).bind fun t170=>
(faP 1 false 1 t170).bind fun t171=>
(stP 1 t171 t169 p168.2).bind fun p172=>
ifK t159 (
(qa1 v0).bind fun t175=>
(faP 1 false 1 t175).bind fun t176=>
(ld1 t176 p172.2).bind fun p177=>
(qa5 E0 .add 3 false true p177.1 (.int .i64 1)).bind fun t178=>
(qa1 v0).bind fun t179=>
(faP 1 false 1 t179).bind fun t180=>
(stP 1 t180 t178 p177.2).bind fun p181=>
(faP 1 false 1 v3).bind fun t183=>
(ld1 t183 p181.2).bind fun p184=>
(qa5 E0 .neq 9 false false t157 p184.1).bind fun t185=>
ifK t185 (
L45_6 self N nk ek n v0 v3 v4 p184.2) (
(qa1 v0).bind fun t187=>
(faP 2 false 1 t187).bind fun t188=>
(ld1 t188 (onS p184.2)).bind fun p189=>
(faP 0 false 1 v3).bind fun t190=>
(ld1 t190 (onS p189.2)).bind fun p191=>
(ixP 5 p189.1 p191.1).bind fun t192=>
qh7 [(3,[5])] p184.2 [[],[],[],p189.2.log,[],p191.2.log,[],[]] (onS p191.2) fun S194=>
(qa1 v0).bind fun t197=>
(faP 0 false 1 t197).bind fun t198=>
(ld1 t198 S194).bind fun p199=>
(qai E0 9 p199.1 (some v4) (some p147.1) none p199.2).bind fun p202=>
(qa1 t192).bind fun t203=>
(faP 1 false 1 t203).bind fun t204=>
(stP 1 t204 p202.1 p202.2).bind fun p205=>
(qa1 t192).bind fun t207=>
(faP 3 false 1 t207).bind fun t208=>
(ld1 t208 p205.2).bind fun p209=>
(unV .not p209.1).bind fun t210=>
ifK t210 (
(qa1 v0).bind fun t212=>
(faP 0 false 1 t212).bind fun t213=>
(ld1 t213 p209.2).bind fun p214=>
(qai E0 9 p214.1 none (some p147.1) none p214.2).bind fun p216=>
(qab E0 57 [(0,p216.1),(1,v4)]).bind fun t218=>
(boxK 57 t218 p216.2).bind fun p219=>
callP (self.f 49 [p219.1,(.int .i64 2),(.int .i64 0)] p219.2) fun t223 S223=>
(qa1 t192).bind fun t224=>
(faP 2 false 1 t224).bind fun t225=>
(stP 1 t225 t223 S223).bind fun p226=>
some (.ret (.tuple []),p226.2)) (
some (.ret (.tuple []),p209.2)))) (
(faP 1 false 1 v3).bind fun t228=>
(ld1 t228 p172.2).bind fun p229=>
(qa5 E0 .neq 9 false false t157 p229.1).bind fun t230=>
ifK t230 (
L45_6 self N nk ek n v0 v3 v4 p229.2) (
(qa1 v0).bind fun t232=>
(faP 2 false 1 t232).bind fun t233=>
(ld1 t233 (onS p229.2)).bind fun p234=>
(faP 0 false 1 v3).bind fun t235=>
(ld1 t235 (onS p234.2)).bind fun p236=>
(ixP 5 p234.1 p236.1).bind fun t237=>
qh7 [(3,[5])] p229.2 [[],[],[],p234.2.log,[],p236.2.log,[],[]] (onS p236.2) fun S239=>
(qa1 v0).bind fun t242=>
(faP 0 false 1 t242).bind fun t243=>
(ld1 t243 S239).bind fun p244=>
(qai E0 9 p244.1 (some v4) (some p147.1) none p244.2).bind fun p247=>
(qa1 t237).bind fun t248=>
(faP 1 false 1 t248).bind fun t249=>
(stP 1 t249 p247.1 p247.2).bind fun p250=>
(qa1 t237).bind fun t252=>
(faP 3 false 1 t252).bind fun t253=>
(ld1 t253 p250.2).bind fun p254=>
(unV .not p254.1).bind fun t255=>
ifK t255 (
(qa1 v0).bind fun t257=>
(faP 0 false 1 t257).bind fun t258=>
(ld1 t258 p254.2).bind fun p259=>
(qai E0 9 p259.1 none (some p147.1) none p259.2).bind fun p261=>
(qab E0 57 [(0,p261.1),(1,v4)]).bind fun t263=>
(boxK 57 t263 p261.2).bind fun p264=>
callP (self.f 49 [p264.1,(.int .i64 2),(.int .i64 0)] p264.2) fun t268 S268=>
(qa1 t237).bind fun t269=>
(faP 2 false 1 t269).bind fun t270=>
(stP 1 t270 t268 S268).bind fun p271=>
some (.ret (.tuple []),p271.2)) (
some (.ret (.tuple []),p254.2))))):=by kernel_rfl
def F45 (self:EV) (N:Nat) (x0 x1:V) (S:St):Rs:=qd9 E0 self N Tryd.f45 B45 [x0,x1] S
theorem F45_eq (self:EV) (N:Nat) (x0 x1:V) (S:St):F45 self N x0 x1 S =
(boxK 89 x1 S).bind fun p0=>
(qa1 x0).bind fun t2=>
(faP 1 false 1 t2).bind fun t3=>
(ld1 t3 p0.2).bind fun p4=>
L45_6 self N (qbz E0 self Tryd.f45) (exB 0 (qbz E0 self Tryd.f45) qav) N x0 p0.1 p4.1 p4.2:=by kernel_rfl
end
end Go.Proofs.YtafbipadnnmccaaDoor.W





namespace Go.Proofs.YtafbipadnnmccaaDoor.W
open Go.Proofs.YtafbipadnnmccaaDoor.Ev
set_option maxRecDepth 100000
noncomputable section
def C11:Code:=Tryd.f11.body.getD .skip
def B11:D:=(qaw C11 [[],[],[],[],[],[0,1,5],[],[],[],[],[],[],[0],[4],[]]).1
def RL11:List Nat:=cellsOf Tryd.f11.results.toList
def R11_7 (self:EV) (N:Nat) (nk:Ac->St->Rs) (ek:Nat->Ac->St->Rs) (a:Ac) (S:St):Rs:=qbh [] a fun a=>dr E0 self RL11 N (B11.r.r).r (mkK E0 self Tryd.f11 nk ek) a S
theorem R11_7_eq (self:EV) (N:Nat) (nk:Ac->St->Rs) (ek:Nat->Ac->St->Rs) (S:St):R11_7 self N nk ek (fr 81 []) S =
some (.ret (.bool true),S):=by kernel_rfl
def L11_10 (self:EV) (N:Nat) (nk:Ac->St->Rs) (ek:Nat->Ac->St->Rs) (n:Nat) ( v0 v1 v5:V) (S:St):Rs:=qdo [0,1,5] (dr E0 self RL11 N (B11.r.r.l.r.l.l)) (mkK E0 self Tryd.f11 nk ek) n (fr 81 [(0,v0),(1,v1),(5,v5)]) S
theorem L11_10_eq (self:EV) (N:Nat) (nk:Ac->St->Rs) (ek:Nat->Ac->St->Rs) (n:Nat) ( v0 v1 v5:V) (S:St):L11_10 self N nk ek (n+1) v0 v1 v5 S =
(lnS v0 S).bind fun p13=>
(qa5 E0 .lss 3 false false v5 p13.1).bind fun t14=>
ifK t14 (
(ixP 5 v0 v5).bind fun t17=>
(faP 0 false 1 t17).bind fun t18=>
(ld1 t18 (onS p13.2)).bind fun p19=>
(ixP 5 v1 v5).bind fun t22=>
(faP 0 false 1 t22).bind fun t23=>
(ld1 t23 (onS p19.2)).bind fun p24=>
(qa5 E0 .neq 3 false false p19.1 p24.1).bind fun t25=>
(qa2 false t25).bind fun g27=>(bif g27 then some v0 else some (.tuple [])).bind fun t27=>
(qa2 false t25).bind fun g28=>(bif g28 then some v5 else some (.tuple [])).bind fun t28=>
(qa2 false t25).bind fun g29=>(bif g29 then ixP 5 t27 t28 else some (.tuple [])).bind fun t29=>
(qa2 false t25).bind fun g30=>(bif g30 then faP 1 false 1 t29 else some (.tuple [])).bind fun t30=>
(qa2 false t25).bind fun g31=>(bif g31 then ld1 t30 (onS p24.2)else some (.tuple [],(onS p24.2))).bind fun p31=>
(qa2 false t25).bind fun g32=>(bif g32 then some v1 else some (.tuple [])).bind fun t32=>
(qa2 false t25).bind fun g33=>(bif g33 then some v5 else some (.tuple [])).bind fun t33=>
(qa2 false t25).bind fun g34=>(bif g34 then ixP 5 t32 t33 else some (.tuple [])).bind fun t34=>
(qa2 false t25).bind fun g35=>(bif g35 then faP 1 false 1 t34 else some (.tuple [])).bind fun t35=>
(qa2 false t25).bind fun g36=>(bif g36 then ld1 t35 (onS p31.2)else some (.tuple [],(onS p31.2))).bind fun p36=>
(qa2 false t25).bind fun g37=>(bif g37 then qa5 E0 .neq 9 false false p31.1 p36.1 else some (.tuple [])).bind fun t37=>
(qam t25 (some (.bool true)) (some t37)).bind fun t38=>
(qa2 false t38).bind fun g40=>(bif g40 then some v0 else some (.tuple [])).bind fun t40=>
(qa2 false t38).bind fun g41=>(bif g41 then some v5 else some (.tuple [])).bind fun t41=>
(qa2 false t38).bind fun g42=>(bif g42 then ixP 5 t40 t41 else some (.tuple [])).bind fun t42=>
(qa2 false t38).bind fun g43=>(bif g43 then faP 3 false 1 t42 else some (.tuple [])).bind fun t43=>
(qa2 false t38).bind fun g44=>(bif g44 then ld1 t43 (onS p36.2)else some (.tuple [],(onS p36.2))).bind fun p44=>
(qa2 false t38).bind fun g45=>(bif g45 then some v1 else some (.tuple [])).bind fun t45=>
(qa2 false t38).bind fun g46=>(bif g46 then some v5 else some (.tuple [])).bind fun t46=>
(qa2 false t38).bind fun g47=>(bif g47 then ixP 5 t45 t46 else some (.tuple [])).bind fun t47=>
(qa2 false t38).bind fun g48=>(bif g48 then faP 3 false 1 t47 else some (.tuple [])).bind fun t48=>
(qa2 false t38).bind fun g49=>(bif g49 then ld1 t48 (onS p44.2)else some (.tuple [],(onS p44.2))).bind fun p49=>
(qa2 false t38).bind fun g50=>(bif g50 then qa5 E0 .neq 4 false false p44.1 p49.1 else some (.tuple [])).bind fun t50=>
(qam t38 (some (.bool true)) (some t50)).bind fun t51=>
(qa2 false t51).bind fun g53=>(bif g53 then some v0 else some (.tuple [])).bind fun t53=>
(qa2 false t51).bind fun g54=>(bif g54 then some v5 else some (.tuple [])).bind fun t54=>
(qa2 false t51).bind fun g55=>(bif g55 then ixP 5 t53 t54 else some (.tuple [])).bind fun t55=>
(qa2 false t51).bind fun g56=>(bif g56 then faP 4 false 1 t55 else some (.tuple [])).bind fun t56=>
(qa2 false t51).bind fun g57=>(bif g57 then ld1 t56 (onS p49.2)else some (.tuple [],(onS p49.2))).bind fun p57=>
(qa2 false t51).bind fun g58=>(bif g58 then some v1 else some (.tuple [])).bind fun t58=>
(qa2 false t51).bind fun g59=>(bif g59 then some v5 else some (.tuple [])).bind fun t59=>
(qa2 false t51).bind fun g60=>(bif g60 then ixP 5 t58 t59 else some (.tuple [])).bind fun t60=>
(qa2 false t51).bind fun g61=>(bif g61 then faP 4 false 1 t60 else some (.tuple [])).bind fun t61=>
(qa2 false t51).bind fun g62=>(bif g62 then ld1 t61 (onS p57.2)else some (.tuple [],(onS p57.2))).bind fun p62=>
(qa2 false t51).bind fun g63=>(bif g63 then qa5 E0 .neq 3 false false p57.1 p62.1 else some (.tuple [])).bind fun t63=>
(qam t51 (some (.bool true)) (some t63)).bind fun t64=>
(qa2 false t64).bind fun g66=>(bif g66 then some v0 else some (.tuple [])).bind fun t66=>
(qa2 false t64).bind fun g67=>(bif g67 then some v5 else some (.tuple [])).bind fun t67=>
(qa2 false t64).bind fun g68=>(bif g68 then ixP 5 t66 t67 else some (.tuple [])).bind fun t68=>
(qa2 false t64).bind fun g69=>(bif g69 then faP 2 false 1 t68 else some (.tuple [])).bind fun t69=>
(qa2 false t64).bind fun g70=>(bif g70 then ld1 t69 (onS p62.2)else some (.tuple [],(onS p62.2))).bind fun p70=>
(qa2 false t64).bind fun g71=>(bif g71 then some v1 else some (.tuple [])).bind fun t71=>
(qa2 false t64).bind fun g72=>(bif g72 then some v5 else some (.tuple [])).bind fun t72=>
(qa2 false t64).bind fun g73=>(bif g73 then ixP 5 t71 t72 else some (.tuple [])).bind fun t73=>
(qa2 false t64).bind fun g74=>(bif g74 then faP 2 false 1 t73 else some (.tuple [])).bind fun t74=>
(qa2 false t64).bind fun g75=>(bif g75 then ld1 t74 (onS p70.2)else some (.tuple [],(onS p70.2))).bind fun p75=>
(qa2 false t64).bind fun g76=>qki (qat E0 (B11.r.r.l.r.l.l.r.l.l.l).ops) p13.2 61 [[],[],[],[],p19.2.log,[],[],[],[],p24.2.log,[],[],[],[],[],[],p31.2.log,[],[],[],[],p36.2.log,[],[],[],[],[],[],[],p44.2.log,[],[],[],[],p49.2.log,[],[],[],[],[],[],[],p57.2.log,[],[],[],[],p62.2.log,[],[],[],[],[],[],[],p70.2.log,[],[],[],[],p75.2.log] (bif g76 then self.f 34 [p70.1,p75.1] (onS p75.2)else some (.ret (.tuple []),(onS p75.2))) fun t76 S76=>
(qa2 false t64).bind fun g77=>(bif g77 then unV .not t76 else some (.tuple [])).bind fun t77=>
(qam t64 (some (.bool true)) (some t77)).bind fun t78=>
qh7 [(4,[9]),(16,[21]),(29,[34]),(42,[47]),(55,[60])] p13.2 [[],[],[],[],p19.2.log,[],[],[],[],p24.2.log,[],[],[],[],[],[],p31.2.log,[],[],[],[],p36.2.log,[],[],[],[],[],[],[],p44.2.log,[],[],[],[],p49.2.log,[],[],[],[],[],[],[],p57.2.log,[],[],[],[],p62.2.log,[],[],[],[],[],[],[],p70.2.log,[],[],[],[],p75.2.log,S76.log,[],[]] (onS S76) fun S79=>
ifK t78 (
some (.ret (.bool false),S79)) (
(qa5 E0 .add 3 false true v5 (.int .i64 1)).bind fun t82=>
L11_10 self N nk ek n v0 v1 t82 S79)) (
ek 0 (fr 81 []) p13.2):=by kernel_rfl
def F11 (self:EV) (N:Nat) (x0 x1:V) (S:St):Rs:=qd9 E0 self N Tryd.f11 B11 [x0,x1] S
theorem F11_eq (self:EV) (N:Nat) (x0 x1:V) (S:St):F11 self N x0 x1 S =
(lnS x0 S).bind fun p2=>
(lnS x1 p2.2).bind fun p4=>
(qa5 E0 .neq 3 false false p2.1 p4.1).bind fun t5=>
ifK t5 (
some (.ret (.bool false),p4.2)) (
L11_10 self N (R11_7 self N (qbz E0 self Tryd.f11) qav) (exB 0 (R11_7 self N (qbz E0 self Tryd.f11) qav) qav) N x0 x1 (.int .i64 0) p4.2):=by kernel_rfl
def C34:Code:=Tryd.f34.body.getD .skip
def B34:D:=(qaw C34 [[],[],[],[],[],[0,1,5],[],[],[],[],[],[],[0],[4],[]]).1
def RL34:List Nat:=cellsOf Tryd.f34.results.toList
def R34_7 (self:EV) (N:Nat) (nk:Ac->St->Rs) (ek:Nat->Ac->St->Rs) (a:Ac) (S:St):Rs:=qbh [] a fun a=>dr E0 self RL34 N (B34.r.r).r (mkK E0 self Tryd.f34 nk ek) a S
theorem R34_7_eq (self:EV) (N:Nat) (nk:Ac->St->Rs) (ek:Nat->Ac->St->Rs) (S:St):R34_7 self N nk ek (fr 81 []) S =
some (.ret (.bool true),S):=by kernel_rfl
def L34_10 (self:EV) (N:Nat) (nk:Ac->St->Rs) (ek:Nat->Ac->St->Rs) (n:Nat) ( v0 v1 v5:V) (S:St):Rs:=qdo [0,1,5] (dr E0 self RL34 N (B34.r.r.l.r.l.l)) (mkK E0 self Tryd.f34 nk ek) n (fr 81 [(0,v0),(1,v1),(5,v5)]) S
theorem L34_10_eq (self:EV) (N:Nat) (nk:Ac->St->Rs) (ek:Nat->Ac->St->Rs) (n:Nat) ( v0 v1 v5:V) (S:St):L34_10 self N nk ek (n+1) v0 v1 v5 S =
(lnS v0 S).bind fun p13=>
(qa5 E0 .lss 3 false false v5 p13.1).bind fun t14=>
ifK t14 (
(ixP 6 v0 v5).bind fun t17=>
(faP 0 false 1 t17).bind fun t18=>
(ld1 t18 (onS p13.2)).bind fun p19=>
(ixP 6 v1 v5).bind fun t22=>
(faP 0 false 1 t22).bind fun t23=>
(ld1 t23 (onS p19.2)).bind fun p24=>
(qa5 E0 .neq 3 false false p19.1 p24.1).bind fun t25=>
(qa2 false t25).bind fun g27=>(bif g27 then some v0 else some (.tuple [])).bind fun t27=>
(qa2 false t25).bind fun g28=>(bif g28 then some v5 else some (.tuple [])).bind fun t28=>
(qa2 false t25).bind fun g29=>(bif g29 then ixP 6 t27 t28 else some (.tuple [])).bind fun t29=>
(qa2 false t25).bind fun g30=>(bif g30 then faP 1 false 1 t29 else some (.tuple [])).bind fun t30=>
(qa2 false t25).bind fun g31=>(bif g31 then ld1 t30 (onS p24.2)else some (.tuple [],(onS p24.2))).bind fun p31=>
(qa2 false t25).bind fun g32=>(bif g32 then some v1 else some (.tuple [])).bind fun t32=>
(qa2 false t25).bind fun g33=>(bif g33 then some v5 else some (.tuple [])).bind fun t33=>
(qa2 false t25).bind fun g34=>(bif g34 then ixP 6 t32 t33 else some (.tuple [])).bind fun t34=>
(qa2 false t25).bind fun g35=>(bif g35 then faP 1 false 1 t34 else some (.tuple [])).bind fun t35=>
(qa2 false t25).bind fun g36=>(bif g36 then ld1 t35 (onS p31.2)else some (.tuple [],(onS p31.2))).bind fun p36=>
(qa2 false t25).bind fun g37=>(bif g37 then qa5 E0 .neq 9 false false p31.1 p36.1 else some (.tuple [])).bind fun t37=>
(qam t25 (some (.bool true)) (some t37)).bind fun t38=>
(qa2 false t38).bind fun g40=>(bif g40 then some v0 else some (.tuple [])).bind fun t40=>
(qa2 false t38).bind fun g41=>(bif g41 then some v5 else some (.tuple [])).bind fun t41=>
(qa2 false t38).bind fun g42=>(bif g42 then ixP 6 t40 t41 else some (.tuple [])).bind fun t42=>
(qa2 false t38).bind fun g43=>(bif g43 then faP 2 false 1 t42 else some (.tuple [])).bind fun t43=>
(qa2 false t38).bind fun g44=>(bif g44 then ld1 t43 (onS p36.2)else some (.tuple [],(onS p36.2))).bind fun p44=>
(qa2 false t38).bind fun g45=>(bif g45 then some v1 else some (.tuple [])).bind fun t45=>
(qa2 false t38).bind fun g46=>(bif g46 then some v5 else some (.tuple [])).bind fun t46=>
(qa2 false t38).bind fun g47=>(bif g47 then ixP 6 t45 t46 else some (.tuple [])).bind fun t47=>
(qa2 false t38).bind fun g48=>(bif g48 then faP 2 false 1 t47 else some (.tuple [])).bind fun t48=>
(qa2 false t38).bind fun g49=>(bif g49 then ld1 t48 (onS p44.2)else some (.tuple [],(onS p44.2))).bind fun p49=>
(qa2 false t38).bind fun g50=>(bif g50 then qa5 E0 .neq 9 false false p44.1 p49.1 else some (.tuple [])).bind fun t50=>
(qam t38 (some (.bool true)) (some t50)).bind fun t51=>
(qa2 false t51).bind fun g53=>(bif g53 then some v0 else some (.tuple [])).bind fun t53=>
(qa2 false t51).bind fun g54=>(bif g54 then some v5 else some (.tuple [])).bind fun t54=>
(qa2 false t51).bind fun g55=>(bif g55 then ixP 6 t53 t54 else some (.tuple [])).bind fun t55=>
(qa2 false t51).bind fun g56=>(bif g56 then faP 3 false 1 t55 else some (.tuple [])).bind fun t56=>
(qa2 false t51).bind fun g57=>(bif g57 then ld1 t56 (onS p49.2)else some (.tuple [],(onS p49.2))).bind fun p57=>
(qa2 false t51).bind fun g58=>(bif g58 then some v1 else some (.tuple [])).bind fun t58=>
(qa2 false t51).bind fun g59=>(bif g59 then some v5 else some (.tuple [])).bind fun t59=>
(qa2 false t51).bind fun g60=>(bif g60 then ixP 6 t58 t59 else some (.tuple [])).bind fun t60=>
(qa2 false t51).bind fun g61=>(bif g61 then faP 3 false 1 t60 else some (.tuple [])).bind fun t61=>
(qa2 false t51).bind fun g62=>(bif g62 then ld1 t61 (onS p57.2)else some (.tuple [],(onS p57.2))).bind fun p62=>
(qa2 false t51).bind fun g63=>(bif g63 then qa5 E0 .neq 4 false false p57.1 p62.1 else some (.tuple [])).bind fun t63=>
(qam t51 (some (.bool true)) (some t63)).bind fun t64=>
(qa2 false t64).bind fun g66=>(bif g66 then some v0 else some (.tuple [])).bind fun t66=>
(qa2 false t64).bind fun g67=>(bif g67 then some v5 else some (.tuple [])).bind fun t67=>
(qa2 false t64).bind fun g68=>(bif g68 then ixP 6 t66 t67 else some (.tuple [])).bind fun t68=>
(qa2 false t64).bind fun g69=>(bif g69 then faP 4 false 1 t68 else some (.tuple [])).bind fun t69=>
(qa2 false t64).bind fun g70=>(bif g70 then ld1 t69 (onS p62.2)else some (.tuple [],(onS p62.2))).bind fun p70=>
(qa2 false t64).bind fun g71=>(bif g71 then some v1 else some (.tuple [])).bind fun t71=>
(qa2 false t64).bind fun g72=>(bif g72 then some v5 else some (.tuple [])).bind fun t72=>
(qa2 false t64).bind fun g73=>(bif g73 then ixP 6 t71 t72 else some (.tuple [])).bind fun t73=>
(qa2 false t64).bind fun g74=>(bif g74 then faP 4 false 1 t73 else some (.tuple [])).bind fun t74=>
(qa2 false t64).bind fun g75=>(bif g75 then ld1 t74 (onS p70.2)else some (.tuple [],(onS p70.2))).bind fun p75=>
(qa2 false t64).bind fun g76=>qki (qat E0 (B34.r.r.l.r.l.l.r.l.l.l).ops) p13.2 61 [[],[],[],[],p19.2.log,[],[],[],[],p24.2.log,[],[],[],[],[],[],p31.2.log,[],[],[],[],p36.2.log,[],[],[],[],[],[],[],p44.2.log,[],[],[],[],p49.2.log,[],[],[],[],[],[],[],p57.2.log,[],[],[],[],p62.2.log,[],[],[],[],[],[],[],p70.2.log,[],[],[],[],p75.2.log] (bif g76 then self.f 34 [p70.1,p75.1] (onS p75.2)else some (.ret (.tuple []),(onS p75.2))) fun t76 S76=>
(qa2 false t64).bind fun g77=>(bif g77 then unV .not t76 else some (.tuple [])).bind fun t77=>
(qam t64 (some (.bool true)) (some t77)).bind fun t78=>
qh7 [(4,[9]),(16,[21]),(29,[34]),(42,[47]),(55,[60])] p13.2 [[],[],[],[],p19.2.log,[],[],[],[],p24.2.log,[],[],[],[],[],[],p31.2.log,[],[],[],[],p36.2.log,[],[],[],[],[],[],[],p44.2.log,[],[],[],[],p49.2.log,[],[],[],[],[],[],[],p57.2.log,[],[],[],[],p62.2.log,[],[],[],[],[],[],[],p70.2.log,[],[],[],[],p75.2.log,S76.log,[],[]] (onS S76) fun S79=>
ifK t78 (
some (.ret (.bool false),S79)) (
(qa5 E0 .add 3 false true v5 (.int .i64 1)).bind fun t82=>
L34_10 self N nk ek n v0 v1 t82 S79)) (
ek 0 (fr 81 []) p13.2):=by kernel_rfl
def F34 (self:EV) (N:Nat) (x0 x1:V) (S:St):Rs:=qd9 E0 self N Tryd.f34 B34 [x0,x1] S
theorem F34_eq (self:EV) (N:Nat) (x0 x1:V) (S:St):F34 self N x0 x1 S =
(lnS x0 S).bind fun p2=>
(lnS x1 p2.2).bind fun p4=>
(qa5 E0 .neq 3 false false p2.1 p4.1).bind fun t5=>
ifK t5 (
some (.ret (.bool false),p4.2)) (
L34_10 self N (R34_7 self N (qbz E0 self Tryd.f34) qav) (exB 0 (R34_7 self N (qbz E0 self Tryd.f34) qav) qav) N x0 x1 (.int .i64 0) p4.2):=by kernel_rfl
def C10:Code:=Tryd.f10.body.getD .skip
def B10:D:=(qaw C10 [[],[],[],[],[],[]]).1
def F10 (self:EV) (N:Nat) (x0 x1:V) (S:St):Rs:=qd9 E0 self N Tryd.f10 B10 [x0,x1] S
theorem F10_eq (self:EV) (N:Nat) (x0 x1:V) (S:St):F10 self N x0 x1 S =
(boxK 29 x1 S).bind fun p0=>
(qa5 E0 .eql 24 false true x0 .niliface).bind fun t3=>
(qa2 false t3).bind fun g5=>(bif g5 then faP 0 false 1 p0.1 else some (.tuple [])).bind fun t5=>
(qa2 false t3).bind fun g6=>(bif g6 then ld1 t5 p0.2 else some (.tuple [],p0.2)).bind fun p6=>
(qa2 false t3).bind fun g7=>(bif g7 then qa5 E0 .eql 27 false true p6.1 (.int .i64 0)else some (.tuple [])).bind fun t7=>
(qam t3 (some (.bool true)) (some t7)).bind fun t8=>
ifK t8 (
(qa5 E0 .eql 24 false true x0 .niliface).bind fun t10=>
(qa2 true t10).bind fun g12=>(bif g12 then faP 0 false 1 p0.1 else some (.tuple [])).bind fun t12=>
(qa2 true t10).bind fun g13=>(bif g13 then ld1 t12 p6.2 else some (.tuple [],p6.2)).bind fun p13=>
(qa2 true t10).bind fun g14=>(bif g14 then qa5 E0 .eql 27 false true p13.1 (.int .i64 0)else some (.tuple [])).bind fun t14=>
(qam t10 (some t14) (some (.bool false))).bind fun t15=>
some (.ret t15,p13.2)) (
(some (nwP 51 1 (Ev.one .nilptr) p6.2)).bind fun p17=>
qki (qat E0 (B10.r.r.r.l).ops) p17.2 2 [[],[]] (self.f 32 [x0,(.iface 71 p17.1)] (onS p17.2)) fun t20 S20=>
(qa2 true t20).bind fun g22=>(bif g22 then ld1 p17.1 (onS S20)else some (.tuple [],(onS S20))).bind fun p22=>
(qa2 true t20).bind fun g23=>(bif g23 then qa1 p22.1 else some (.tuple [])).bind fun t23=>
(qa2 true t20).bind fun g24=>(bif g24 then faP 0 false 1 t23 else some (.tuple [])).bind fun t24=>
(qa2 true t20).bind fun g25=>(bif g25 then ld1 t24 (onS p22.2)else some (.tuple [],(onS p22.2))).bind fun p25=>
(qa2 true t20).bind fun g26=>(bif g26 then faP 0 false 1 p0.1 else some (.tuple [])).bind fun t26=>
(qa2 true t20).bind fun g27=>(bif g27 then ld1 t26 (onS p25.2)else some (.tuple [],(onS p25.2))).bind fun p27=>
(qa2 true t20).bind fun g28=>(bif g28 then qa5 E0 .eql 27 false false p25.1 p27.1 else some (.tuple [])).bind fun t28=>
(qam t20 (some t28) (some (.bool false))).bind fun t29=>
(qa2 true t29).bind fun g31=>(bif g31 then ld1 p17.1 (onS p27.2)else some (.tuple [],(onS p27.2))).bind fun p31=>
(qa2 true t29).bind fun g32=>(bif g32 then qa1 p31.1 else some (.tuple [])).bind fun t32=>
(qa2 true t29).bind fun g33=>(bif g33 then faP 1 false 1 t32 else some (.tuple [])).bind fun t33=>
(qa2 true t29).bind fun g34=>(bif g34 then ld1 t33 (onS p31.2)else some (.tuple [],(onS p31.2))).bind fun p34=>
(qa2 true t29).bind fun g35=>(bif g35 then faP 1 false 1 p0.1 else some (.tuple [])).bind fun t35=>
(qa2 true t29).bind fun g36=>(bif g36 then ld1 t35 (onS p34.2)else some (.tuple [],(onS p34.2))).bind fun p36=>
(qa2 true t29).bind fun g37=>(bif g37 then qa5 E0 .eql 3 false false p34.1 p36.1 else some (.tuple [])).bind fun t37=>
(qam t29 (some t37) (some (.bool false))).bind fun t38=>
(qa2 true t38).bind fun g40=>(bif g40 then some x0 else some (.tuple [])).bind fun t40=>
(qa2 true t38).bind fun g41=>(bif g41 then faP 0 false 1 p0.1 else some (.tuple [])).bind fun t41=>
(qa2 true t38).bind fun g42=>(bif g42 then ld1 t41 (onS p36.2)else some (.tuple [],(onS p36.2))).bind fun p42=>
(qa2 true t38).bind fun g43=>(bif g43 then some (.iface 27 p42.1)else some (.tuple [])).bind fun t43=>
(qa2 true t38).bind fun g44=>qki (qat E0 (B10.r.r.r.l).ops) p17.2 26 [[],[],S20.log,[],p22.2.log,[],[],p25.2.log,[],p27.2.log,[],[],[],p31.2.log,[],[],p34.2.log,[],p36.2.log,[],[],[],[],[],p42.2.log,[]] (bif g44 then self.f 33 [t40,t43] (onS p42.2)else some (.ret (.tuple []),(onS p42.2))) fun t44 S44=>
(qam t38 (some t44) (some (.bool false))).bind fun t45=>
qh7 [(4,[9]),(7,[9]),(13,[18]),(16,[18])] p17.2 [[],[],S20.log,[],p22.2.log,[],[],p25.2.log,[],p27.2.log,[],[],[],p31.2.log,[],[],p34.2.log,[],p36.2.log,[],[],[],[],[],p42.2.log,[],S44.log,[],[]] (onS S44) fun S47=>
some (.ret t45,S47)):=by kernel_rfl
end
end Go.Proofs.YtafbipadnnmccaaDoor.W
end
