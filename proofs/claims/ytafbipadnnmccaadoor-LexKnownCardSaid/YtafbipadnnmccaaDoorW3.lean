/-
  WHAT THE FUNCTIONS COME TO: each is read by the evaluator,printed,and told as a function of data,part 3 of 11 (no condition).
-/
import Derived.Test.YtafbipadnnmccaaDoorW2
import Derived.Test.YtafbipadnnmccaaDoorProg
import Derived.KernelRfl
noncomputable section
namespace Go.Proofs.YtafbipadnnmccaaDoor.W
open Go.Proofs.YtafbipadnnmccaaDoor.Ev
set_option maxRecDepth 100000
noncomputable section
def C22:Code:=Tryd.f22.body.getD .skip
def B22:D:=(qb3 C22 [[],[],[],[],[],[],[],[],[],[],[],[0,3,7,8,65,66,67],[],[0,7,8],[],[],[],[],[],[],[0,0,7,8],[2],[],[],[]]).1
def RL22:List Nat:=cellsOf Tryd.f22.results.toList
def qki (self:EV) (N:Nat) (nk:Ac->St->Rs) (ek:Nat->Ac->St->Rs) (a:Ac) (S:St):Rs:=qby [0,7,8] a fun a=>dr E0 self RL22 N (B22.r.r.r.r.r.r.r.r).r (mkK E0 self Tryd.f22 nk ek) a S
theorem R22_65_eq (self:EV) (N:Nat) (nk:Ac->St->Rs) (ek:Nat->Ac->St->Rs) ( v0 v7 v8:V) (S:St):qki self N nk ek (fr 120 [(0,v0),(7,v7),(8,v8)]) S =
(qa1 v0).bind fun t68=>
(faP 3 false 1 t68).bind fun t69=>
(ld1 t69 (onS S)).bind fun p70=>
(qa1 v0).bind fun t72=>
(faP 2 false 1 t72).bind fun t73=>
(ld1 t73 (onS p70.2)).bind fun p74=>
(lnS p74.1 (onS p74.2)).bind fun p75=>
(qa9 E0 89 [(0,p75.1),(1,v8)]).bind fun t77=>
(bsP 89 2 1 (Tr.ofListFrom .nil [(.int .i64 0),(sv [])] 0) [(0,t77)] (onS p75.2)).bind fun p78=>
(apP 89 2 24 p70.1 p78.1 (onS p78.2)).bind fun p79=>
(qa1 v0).bind fun t80=>
(faP 3 false 1 t80).bind fun t81=>
(stP 1 t81 p79.1 (onS p79.2)).bind fun p82=>
qhk [(4,[8,9,12])] S [[],[],[],[],p70.2.log,[],[],[],p74.2.log,p75.2.log,[],[],p78.2.log,p79.2.log,[],[],p82.2.log] p82.2 fun S83=>
(qa1 v0).bind fun t86=>
(faP 2 false 1 t86).bind fun t87=>
(ld1 t87 (onS S83)).bind fun p88=>
(ldA 5 v7 (onS p88.2)).bind fun p89=>
(bsP 39 5 1 (Tr.ofListFrom .nil [(.int .i64 0),(sv []),.nilslice,(.bool false),(.int .i64 0)] 0) [(0,p89.1)] (onS p89.2)).bind fun p90=>
(apP 39 5 64 p88.1 p90.1 (onS p90.2)).bind fun p91=>
(qa1 v0).bind fun t92=>
(faP 2 false 1 t92).bind fun t93=>
(stP 1 t93 p91.1 (onS p91.2)).bind fun p94=>
qhk [(4,[5,6])] S83 [[],[],[],[],p88.2.log,p89.2.log,p90.2.log,p91.2.log,[],[],p94.2.log] p94.2 fun S95=>
some (.ret (.bool true),S95):=by kernel_rfl
def qdz (self:EV) (N:Nat) (nk:Ac->St->Rs) (ek:Nat->Ac->St->Rs) (n:Nat) ( v0 v3 v7 v8 v65 v66 v67:V) (S:St):Rs:=qew [0,3,7,8,65,66,67] (dr E0 self RL22 N (B22.r.r.r.r.r.r.r.r.l.r.l.l)) (mkK E0 self Tryd.f22 nk ek) n (fr 120 [(0,v0),(3,v3),(7,v7),(8,v8),(65,v65),(66,v66),(67,v67)]) S
theorem L22_101_eq (self:EV) (N:Nat) (nk:Ac->St->Rs) (ek:Nat->Ac->St->Rs) (n:Nat) ( v0 v3 v7 v8 v65 v66 v67:V) (S:St):qdz self N nk ek (n+1) v0 v3 v7 v8 v65 v66 v67 S =
(qa4 E0 .lss 3 false false v67 v66).bind fun t102=>
ifK t102 (
(ixP 6 v65 v67).bind fun t103=>
(ldA 6 t103 S).bind fun p104=>
(some (nwP 49 6 (Tr.ofListFrom .nil [(.int .i64 0),(sv []),(sv []),(.bool false),.nilslice,.nilptr] 0) p104.2)).bind fun p105=>
(stP 6 p105.1 p104.1 p105.2).bind fun p106=>
(faP 0 false 1 p105.1).bind fun t107=>
(ld1 t107 p106.2).bind fun p108=>
(qa4 E0 .neq 3 false true p108.1 (.int .i64 0)).bind fun t109=>
(qa3 true t109).bind fun g111=>(bif g111 then faP 0 false 1 p105.1 else some (.tuple [])).bind fun t111=>
(qa3 true t109).bind fun g112=>(bif g112 then ld1 t111 p108.2 else some (.tuple [],p108.2)).bind fun p112=>
(qa3 true t109).bind fun g113=>(bif g113 then qa4 E0 .neq 3 false true p112.1 (.int .i64 1)else some (.tuple [])).bind fun t113=>
(qau t109 (some t113) (some (.bool false))).bind fun t114=>
ifK t114 (
callP (self.f 25 [(.int .i64 19),v3] p112.2) fun t116 S116=>
(faP 1 false 1 p105.1).bind fun t118=>
(ld1 t118 S116).bind fun p119=>
(qa4 E0 .add 9 false false v8 p119.1).bind fun t120=>
(faP 3 false 1 v7).bind fun t122=>
(ld1 t122 p119.2).bind fun p123=>
(qa3 false p123.1).bind fun g125=>(bif g125 then faP 0 false 1 p105.1 else some (.tuple [])).bind fun t125=>
(qa3 false p123.1).bind fun g126=>(bif g126 then ld1 t125 p123.2 else some (.tuple [],p123.2)).bind fun p126=>
(qa3 false p123.1).bind fun g127=>(bif g127 then qa4 E0 .eql 3 false true p126.1 (.int .i64 1)else some (.tuple [])).bind fun t127=>
(qau p123.1 (some (.bool true)) (some t127)).bind fun t128=>
(faP 3 false 1 v7).bind fun t129=>
(stP 1 t129 t128 p126.2).bind fun p130=>
(qa4 E0 .add 3 false true v67 (.int .i64 1)).bind fun t131=>
qdz self N nk ek n v0 v3 v7 t120 v65 v66 t131 p130.2) (
(faP 1 false 1 p105.1).bind fun t134=>
(ld1 t134 p112.2).bind fun p135=>
(qa4 E0 .add 9 false false v8 p135.1).bind fun t136=>
(faP 3 false 1 v7).bind fun t138=>
(ld1 t138 p135.2).bind fun p139=>
(qa3 false p139.1).bind fun g141=>(bif g141 then faP 0 false 1 p105.1 else some (.tuple [])).bind fun t141=>
(qa3 false p139.1).bind fun g142=>(bif g142 then ld1 t141 p139.2 else some (.tuple [],p139.2)).bind fun p142=>
(qa3 false p139.1).bind fun g143=>(bif g143 then qa4 E0 .eql 3 false true p142.1 (.int .i64 1)else some (.tuple [])).bind fun t143=>
(qau p139.1 (some (.bool true)) (some t143)).bind fun t144=>
(faP 3 false 1 v7).bind fun t145=>
(stP 1 t145 t144 p142.2).bind fun p146=>
(qa4 E0 .add 3 false true v67 (.int .i64 1)).bind fun t147=>
qdz self N nk ek n v0 v3 v7 t136 v65 v66 t147 p146.2)) (
ek 0 (fr 120 [(0,v0),(7,v7),(8,v8)]) S):=by kernel_rfl
def F22 (self:EV) (N:Nat) (x0:V) (S:St):Rs:=qbk E0 self N Tryd.f22 B22 [x0] S
theorem F22_eq (self:EV) (N:Nat) (x0:V) (S:St):F22 self N x0 S =
(qa1 x0).bind fun t2=>
(faP 1 false 1 t2).bind fun t3=>
(ld1 t3 S).bind fun p4=>
(qa1 x0).bind fun t7=>
(faP 2 false 1 t7).bind fun t8=>
(ld1 t8 p4.2).bind fun p9=>
(lnS p9.1 p9.2).bind fun p10=>
(qa4 E0 .gtr 3 false true p10.1 (.int .i64 0)).bind fun t13=>
(qa3 true t13).bind fun g15=>(bif g15 then some x0 else some (.tuple [])).bind fun t15=>
(qa3 true t13).bind fun g16=>(bif g16 then qa1 t15 else some (.tuple [])).bind fun t16=>
(qa3 true t13).bind fun g17=>(bif g17 then faP 2 false 1 t16 else some (.tuple [])).bind fun t17=>
(qa3 true t13).bind fun g18=>(bif g18 then ld1 t17 p10.2 else some (.tuple [],p10.2)).bind fun p18=>
(qa3 true t13).bind fun g19=>(bif g19 then some p10.1 else some (.tuple [])).bind fun t19=>
(qa3 true t13).bind fun g20=>(bif g20 then qa4 E0 .sub 3 false true t19 (.int .i64 1)else some (.tuple [])).bind fun t20=>
(qa3 true t13).bind fun g21=>(bif g21 then ixP 5 p18.1 t20 else some (.tuple [])).bind fun t21=>
(qa3 true t13).bind fun g22=>(bif g22 then faP 0 false 1 t21 else some (.tuple [])).bind fun t22=>
(qa3 true t13).bind fun g23=>(bif g23 then ld1 t22 p18.2 else some (.tuple [],p18.2)).bind fun p23=>
(qa3 true t13).bind fun g24=>(bif g24 then qa4 E0 .eql 3 false true p23.1 (.int .i64 1)else some (.tuple [])).bind fun t24=>
(qau t13 (some t24) (some (.bool false))).bind fun t25=>
(qa3 true t25).bind fun g27=>(bif g27 then some x0 else some (.tuple [])).bind fun t27=>
(qa3 true t25).bind fun g28=>(bif g28 then qa1 t27 else some (.tuple [])).bind fun t28=>
(qa3 true t25).bind fun g29=>(bif g29 then faP 2 false 1 t28 else some (.tuple [])).bind fun t29=>
(qa3 true t25).bind fun g30=>(bif g30 then ld1 t29 p23.2 else some (.tuple [],p23.2)).bind fun p30=>
(qa3 true t25).bind fun g31=>(bif g31 then some p10.1 else some (.tuple [])).bind fun t31=>
(qa3 true t25).bind fun g32=>(bif g32 then qa4 E0 .sub 3 false true t31 (.int .i64 1)else some (.tuple [])).bind fun t32=>
(qa3 true t25).bind fun g33=>(bif g33 then ixP 5 p30.1 t32 else some (.tuple [])).bind fun t33=>
(qa3 true t25).bind fun g34=>(bif g34 then faP 1 false 1 t33 else some (.tuple [])).bind fun t34=>
(qa3 true t25).bind fun g35=>(bif g35 then ld1 t34 p30.2 else some (.tuple [],p30.2)).bind fun p35=>
(qa3 true t25).bind fun g36=>callP (bif g36 then self.f 13 [p35.1,(sv [60,60])] p35.2 else some (.ret (.tuple []),p35.2)) fun t36 S36=>
(qau t25 (some t36) (some (.bool false))).bind fun t37=>
callP (self.f 49 [x0,(.int .i64 0),(.int .i64 0)] S36) fun t40 S40=>
(qa9 E0 39 [(0,(.int .i64 0)),(2,t40),(4,p4.1)]).bind fun t42=>
(some (nwP 39 5 (Tr.ofListFrom .nil [(.int .i64 0),(sv []),.nilslice,(.bool false),(.int .i64 0)] 0) S40)).bind fun p43=>
(stP 5 p43.1 t42 p43.2).bind fun p44=>
(qa1 x0).bind fun t47=>
(faP 2 false 1 t47).bind fun t48=>
(ld1 t48 (onS p44.2)).bind fun p49=>
(ldA 5 p43.1 (onS p49.2)).bind fun p50=>
(bsP 39 5 1 (Tr.ofListFrom .nil [(.int .i64 0),(sv []),.nilslice,(.bool false),(.int .i64 0)] 0) [(0,p50.1)] (onS p50.2)).bind fun p51=>
(apP 39 5 64 p49.1 p51.1 (onS p51.2)).bind fun p52=>
(qa1 x0).bind fun t53=>
(faP 2 false 1 t53).bind fun t54=>
(stP 1 t54 p52.1 (onS p52.2)).bind fun p55=>
qhk [(4,[5,6])] p44.2 [[],[],[],[],p49.2.log,p50.2.log,p51.2.log,p52.2.log,[],[],p55.2.log] p55.2 fun S56=>
(unV .not t37).bind fun t58=>
ifK t58 (
some (.ret (.bool true),S56)) (
(qa9 E0 39 [(0,(.int .i64 3)),(4,p4.1)]).bind fun t61=>
(some (nwP 39 5 (Tr.ofListFrom .nil [(.int .i64 0),(sv []),.nilslice,(.bool false),(.int .i64 0)] 0) S56)).bind fun p62=>
(stP 5 p62.1 t61 p62.2).bind fun p63=>
(faP 2 false 1 p43.1).bind fun t97=>
(ld1 t97 p63.2).bind fun p98=>
(lnS p98.1 p98.2).bind fun p99=>
qdz self N (qki self N (qct E0 self Tryd.f22) qb4) (exB 0 (qki self N (qct E0 self Tryd.f22) qb4) qb4) N x0 p4.1 p62.1 (sv []) p98.1 p99.1 (.int .i64 0) p99.2):=by kernel_rfl
end
noncomputable section
theorem E18r (self:EV) (fn:Func) (a:Ac) (ds:List AD) (x0 x1:V) (S:St):lvK E0 self fn a (ad 18 [] [x0,x1]::ds) .ret S =
(qa4 E0 .neq 20 false true .niliface .niliface).bind fun t3=>
(ifK t3 (
(qkl E0 51 true .niliface).bind fun t5=>
(qaa t5 0).bind fun t7=>
(qaa t5 1).bind fun t8=>
(unV .not t8).bind fun t12=>
(ifK t12 (
callE (qlo .niliface S) fun t14 S14=>
(stP 1 x0 .nilslice S14).bind fun p17=>
(stP 1 x1 (.iface 51 t7) p17.2).bind fun p18=>
lvK E0 self fn a ds .ret p18.2) (
(stP 1 x0 .nilslice S).bind fun p21=>
(stP 1 x1 (.iface 51 t7) p21.2).bind fun p22=>
lvK E0 self fn a ds .ret p22.2))) (
lvK E0 self fn a ds .ret S)):=by kernel_rfl
theorem E18p (self:EV) (fn:Func) (a:Ac) (ds:List AD) (x0 x1:V) (v:V) (S:St):lvK E0 self fn a (ad 18 [] [x0,x1]::ds) (.pan v) S =
(qa4 E0 .neq 20 false true v .niliface).bind fun t3=>
(ifK t3 (
(qkl E0 51 true v).bind fun t5=>
(qaa t5 0).bind fun t7=>
(qaa t5 1).bind fun t8=>
(unV .not t8).bind fun t12=>
(ifK t12 (
callE (qlo v S) fun t14 S14=>
(stP 1 x0 .nilslice S14).bind fun p17=>
(stP 1 x1 (.iface 51 t7) p17.2).bind fun p18=>
lvK E0 self fn a ds .ret p18.2) (
(stP 1 x0 .nilslice S).bind fun p21=>
(stP 1 x1 (.iface 51 t7) p21.2).bind fun p22=>
lvK E0 self fn a ds .ret p22.2))) (
lvK E0 self fn a ds .ret S)):=by kernel_rfl
def C8:Code:=Tryd.f8.body.getD .skip
def B8:D:=(qb3 C8 [[],[],[],[],[],[],[],[0,2,3,4,5],[0,2,3,4,5],[],[0,2,3,4,5],[],[0,0,2,3,4,5],[0,2,3,4,5],[],[0,2,3,4],[],[],[0,2,3,4,5,40,41,42],[],[0,2,3,4,5],[],[],[],[0,2,3,4,5],[],[0,0,2,3,4],[2,3],[],[],[]]).1
def RL8:List Nat:=cellsOf Tryd.f8.results.toList
def R8_28 (self:EV) (N:Nat) (nk:Ac->St->Rs) (ek:Nat->Ac->St->Rs) (a:Ac) (S:St):Rs:=qby [0,2,3,4] a fun a=>dr E0 self RL8 N (B8.r.r.r.r.r).r (mkK E0 self Tryd.f8 nk ek) a S
theorem R8_28_eq (self:EV) (N:Nat) (nk:Ac->St->Rs) (ek:Nat->Ac->St->Rs) (ds:List AD) ( v0 v2 v3 v4:V) (S:St):R8_28 self N nk ek (frD 62 [(0,v0),(2,v2),(3,v3),(4,v4)] ds) S =
(qa1 v4).bind fun t30=>
(faP 3 false 1 t30).bind fun t31=>
(ld1 t31 S).bind fun p32=>
(lnS p32.1 p32.2).bind fun p33=>
(qa4 E0 .gtr 3 false true p33.1 (.int .i64 0)).bind fun t34=>
ifK t34 (
(qe8 v0 p33.2).bind fun p36=>
qh5 E0 self Tryd.f8 (frD 62 [(0,v0),(2,v2),(3,v3),(4,v4),(49,v4),(50,t30),(51,t31),(52,p32.1),(53,p33.1),(54,t34),(55,v0),(56,p36.1)] ds) (self.f 25 [(.int .i64 19),p36.1] p36.2) fun t37 S37=>
(qa1 v4).bind fun t39=>
(faP 2 false 1 t39).bind fun t40=>
(ld1 t40 S37).bind fun p41=>
(stP 1 v2 p41.1 p41.2).bind fun p42=>
(stP 1 v3 .niliface p42.2).bind fun p43=>
finR E0 self Tryd.f8 (frD 62 [(0,v0),(2,v2),(3,v3),(4,v4),(49,v4),(50,t30),(51,t31),(52,p32.1),(53,p33.1),(54,t34),(55,v0),(56,p36.1),(57,t37),(58,v4),(59,t39),(60,t40),(61,p41.1)] ds) p43.2) (
(qa1 v4).bind fun t45=>
(faP 2 false 1 t45).bind fun t46=>
(ld1 t46 p33.2).bind fun p47=>
(stP 1 v2 p47.1 p47.2).bind fun p48=>
(stP 1 v3 .niliface p48.2).bind fun p49=>
finR E0 self Tryd.f8 (frD 62 [(0,v0),(2,v2),(3,v3),(4,v4),(49,v4),(50,t30),(51,t31),(52,p32.1),(53,p33.1),(54,t34),(58,v4),(59,t45),(60,t46),(61,p47.1)] ds) p49.2):=by kernel_rfl
def qi0 (self:EV) (N:Nat) (nk:Ac->St->Rs) (ek:Nat->Ac->St->Rs) (n:Nat):Ac->St->Rs:=fun a S=>qby [0,2,3,4,5] a fun a=>qew [0,2,3,4,5] (dr E0 self RL8 N (B8.r.r.r.r.r.l.l.l)) (mkK E0 self Tryd.f8 nk ek) n a S
def L8_50 (self:EV) (N:Nat) (nk:Ac->St->Rs) (ek:Nat->Ac->St->Rs) (n:Nat) (ds:List AD) ( v0 v2 v3 v4 v5:V) (S:St):Rs:=qew [0,2,3,4,5] (dr E0 self RL8 N (B8.r.r.r.r.r.l.l.l)) (mkK E0 self Tryd.f8 nk ek) n (frD 62 [(0,v0),(2,v2),(3,v3),(4,v4),(5,v5)] ds) S
def R8_51 (self:EV) (N:Nat) (nk:Ac->St->Rs) (ek:Nat->Ac->St->Rs) (a:Ac) (S:St):Rs:=qby [0,2,3,4,5] a fun a=>dr E0 self RL8 N (B8.r.r.r.r.r.l.l.l.l).r (mkK E0 self Tryd.f8 nk ek) a S
def L8_58 (self:EV) (N:Nat) (nk:Ac->St->Rs) (ek:Nat->Ac->St->Rs) (n:Nat) (ds:List AD) ( v0 v2 v3 v4 v5 v40 v41 v42:V) (S:St):Rs:=qew [0,2,3,4,5,40,41,42] (dr E0 self RL8 N (B8.r.r.r.r.r.l.l.l.l.r.l.r.r.l.l)) (mkK E0 self Tryd.f8 nk ek) n (frD 62 [(0,v0),(2,v2),(3,v3),(4,v4),(5,v5),(40,v40),(41,v41),(42,v42)] ds) S
theorem L8_58_eq (self:EV) (N:Nat) (nk:Ac->St->Rs) (ek:Nat->Ac->St->Rs) (n:Nat) (ds:List AD) ( v0 v2 v3 v4 v5 v40 v41 v42:V) (S:St):L8_58 self N nk ek (n+1) ds v0 v2 v3 v4 v5 v40 v41 v42 S =
(qa4 E0 .lss 3 false false v42 v41).bind fun t59=>
ifK t59 (
(ixP 1 v40 v42).bind fun t60=>
(ld1 t60 S).bind fun p61=>
qh5 E0 self Tryd.f8 (frD 62 [(0,v0),(2,v2),(3,v3),(4,v4),(5,v5),(7,p61.1),(40,v40),(41,v41),(42,v42),(43,t59),(44,t60),(45,p61.1),(46,p61.1)] ds) (qc4 E0 self p61.1 [] p61.2) fun t64 S64=>
ifK t64 (
ek 4 (frD 62 [(0,v0),(2,v2),(3,v3),(4,v4),(5,v5)] ds) S64) (
(qa4 E0 .add 3 false true v42 (.int .i64 1)).bind fun t65=>
L8_58 self N nk ek n ds v0 v2 v3 v4 v5 v40 v41 t65 S64)) (
ek 4 (frD 62 [(0,v0),(2,v2),(3,v3),(4,v4),(5,v5)] ds) S):=by kernel_rfl
theorem R8_51_eq (self:EV) (N:Nat) (nk:Ac->St->Rs) (ek:Nat->Ac->St->Rs) (ds:List AD) ( v0 v2 v3 v4 v5:V) (S:St):R8_51 self N nk ek (frD 62 [(0,v0),(2,v2),(3,v3),(4,v4),(5,v5)] ds) S =
qh5 E0 self Tryd.f8 (frD 62 [(0,v0),(2,v2),(3,v3),(4,v4),(5,v5),(37,v4)] ds) (self.f 24 [v4] S) fun t53 S53=>
(unV .not t53).bind fun t54=>
ifK t54 (
ek 0 (frD 62 [(0,v0),(2,v2),(3,v3),(4,v4)] ds) S53) (
(lnS v5 S53).bind fun p56=>
L8_58 self N (fun a s=>qby [0,2,3,4,5] a fun a=>nk a s) (exB 4 (fun a s=>qby [0,2,3,4,5] a fun a=>nk a s) ek) N ds v0 v2 v3 v4 v5 v5 p56.1 (.int .i64 0) p56.2):=by kernel_rfl
def L8_67 (self:EV) (N:Nat) (nk:Ac->St->Rs) (ek:Nat->Ac->St->Rs) (n:Nat) (ds:List AD) ( v0 v2 v3 v4 v5:V) (S:St):Rs:=qew [0,2,3,4,5] (dr E0 self RL8 N (B8.r.r.r.r.r.l.l.l.l.l.l.l)) (mkK E0 self Tryd.f8 nk ek) n (frD 62 [(0,v0),(2,v2),(3,v3),(4,v4),(5,v5)] ds) S
theorem L8_67_eq (self:EV) (N:Nat) (nk:Ac->St->Rs) (ek:Nat->Ac->St->Rs) (n:Nat) (ds:List AD) ( v0 v2 v3 v4 v5:V) (S:St):L8_67 self N nk ek (n+1) ds v0 v2 v3 v4 v5 S =
qh5 E0 self Tryd.f8 (frD 62 [(0,v0),(2,v2),(3,v3),(4,v4),(5,v5),(27,v4)] ds) (self.f 23 [v4,(sv [32])] S) fun t69 S69=>
(qa3 false t69).bind fun g71=>(bif g71 then some v4 else some (.tuple [])).bind fun t71=>
(qa3 false t69).bind fun g72=>qh5 E0 self Tryd.f8 (frD 62 [(0,v0),(2,v2),(3,v3),(4,v4),(5,v5),(27,v4),(28,t69),(29,t69),(30,t71)] ds) (bif g72 then self.f 23 [t71,(sv [9])] S69 else some (.ret (.tuple []),S69)) fun t72 S72=>
(qau t69 (some (.bool true)) (some t72)).bind fun t73=>
(qa3 false t73).bind fun g75=>(bif g75 then some v4 else some (.tuple [])).bind fun t75=>
(qa3 false t73).bind fun g76=>qh5 E0 self Tryd.f8 (frD 62 [(0,v0),(2,v2),(3,v3),(4,v4),(5,v5),(27,v4),(28,t69),(29,t69),(30,t71),(31,t72),(32,t73),(33,t73),(34,t75)] ds) (bif g76 then self.f 23 [t75,(sv [92,10])] S72 else some (.ret (.tuple []),S72)) fun t76 S76=>
(qau t73 (some (.bool true)) (some t76)).bind fun t77=>
ifK t77 (
L8_67 self N nk ek n ds v0 v2 v3 v4 v5 S76) (
ek 2 (frD 62 [(0,v0),(2,v2),(3,v3),(4,v4),(5,v5)] ds) S76):=by kernel_rfl
theorem L8_50_eq (self:EV) (N:Nat) (nk:Ac->St->Rs) (ek:Nat->Ac->St->Rs) (n:Nat) (ds:List AD) ( v0 v2 v3 v4 v5:V) (S:St):L8_50 self N nk ek (n+1) ds v0 v2 v3 v4 v5 S =
L8_67 self N (R8_51 self N (qi0 self N nk ek n) (exB 1 (qi0 self N nk ek n) ek)) (exB 2 (R8_51 self N (qi0 self N nk ek n) (exB 1 (qi0 self N nk ek n) ek)) (exB 1 (qi0 self N nk ek n) ek)) N ds v0 v2 v3 v4 v5 S:=by kernel_rfl
theorem N8_50_eq (self:EV) (N:Nat) (nk:Ac->St->Rs) (ek:Nat->Ac->St->Rs) (n:Nat) (ds:List AD) ( v0 v2 v3 v4 v5:V) (S:St):qi0 self N nk ek n (frD 62 [(0,v0),(2,v2),(3,v3),(4,v4),(5,v5)] ds) S=L8_50 self N nk ek n ds v0 v2 v3 v4 v5 S:=by kernel_rfl
def F8 (self:EV) (N:Nat) (x0:V) (S:St):Rs:=qbk E0 self N Tryd.f8 B8 [x0] S
theorem F8_eq (self:EV) (N:Nat) (x0:V) (S:St):F8 self N x0 S =
(some (nwP 22 1 (Ev.one .nilslice) S)).bind fun p0=>
(some (nwP 24 1 (Ev.one .niliface) p0.2)).bind fun p1=>
(qe8 x0 p1.2).bind fun p3=>
(qa4 E0 .gtr 3 false true p3.1 (.int .i64 4000)).bind fun t4=>
ifK t4 (
(qa9 E0 52 [(0,(.int .i64 3)),(1,(.int .i64 4000))]).bind fun t5=>
(boxK 52 t5 p3.2).bind fun p6=>
(stP 1 p0.1 .nilslice p6.2).bind fun p8=>
(stP 1 p1.1 (.iface 51 p6.1) p8.2).bind fun p9=>
(ldr1 p0.1 p9.2).bind fun p10=>
(ldr1 p1.1 p10.2).bind fun p11=>
some (.ret (.tuple [p10.1,p11.1]),p11.2)) (
(qa9 E0 57 [(0,x0)]).bind fun t15=>
(boxK 57 t15 p3.2).bind fun p16=>
(bsP 34 1 4 (Ev.one .nilfn) [(0,(.fn (.func 19) [p16.1] [])),(1,(.fn (.func 20) [p16.1] [])),(2,(.fn (.func 21) [p16.1] [])),(3,(.fn (.func 22) [p16.1] []))] p16.2).bind fun p26=>
L8_50 self N (R8_28 self N (qct E0 self Tryd.f8) qb4) (exB 0 (R8_28 self N (qct E0 self Tryd.f8) qb4) qb4) N (adOf (.fn (.func 18) [] [p0.1,p1.1]) []::[]) x0 p0.1 p1.1 p16.1 p26.1 p26.2):=by kernel_rfl
end
noncomputable section
def C89:Code:=Tryd.f89.body.getD .skip
def B89:D:=(qb3 C89 [[],[],[0,0,1,2,3,8],[8],[],[],[],[],[],[],[],[],[0,0,1,2,3,8,9],[8],[],[],[0,0,1,2,3,8,9],[8],[],[],[],[],[],[0,0,1,2,3,8,9,11],[8],[],[],[],[0,0,1,3,8,9,12],[8],[],[],[],[]]).1
def F89 (self:EV) (N:Nat) (x0 x1 x2 x3:V) (S:St):Rs:=qbk E0 self N Tryd.f89 B89 [x0,x1,x2,x3] S
theorem F89_eq (self:EV) (N:Nat) (x0 x1 x2 x3:V) (S:St):F89 self N x0 x1 x2 x3 S =
(some (nwP 49 6 (Tr.ofListFrom .nil [(.int .i64 0),(sv []),(sv []),(.bool false),.nilslice,.nilptr] 0) S)).bind fun p0=>
(qa4 E0 .geq 3 false true x3 (.int .i64 20)).bind fun t2=>
ifK t2 (
callP (self.f 25 [(.int .i64 3),x1] p0.2) fun t4 S4=>
callP (self.f 68 [x2] S4) fun t6 S6=>
(qa9 E0 49 [(0,(.int .i64 2)),(3,t6)]).bind fun t7=>
(some (nwP 49 6 (Tr.ofListFrom .nil [(.int .i64 0),(sv []),(sv []),(.bool false),.nilslice,.nilptr] 0) S6)).bind fun p8=>
(stP 6 p8.1 t7 p8.2).bind fun p9=>
(qa1 x0).bind fun t11=>
(faP 1 false 1 t11).bind fun t12=>
(ld1 t12 p9.2).bind fun p13=>
callP (self.f 23 [x0,(sv [35])] p13.2) fun t16 S16=>
ifK t16 (
callP (self.f 90 [x0,(sv [63,64,42])] S16) fun t18 S18=>
(faP 1 false 1 p8.1).bind fun t19=>
(stP 1 t19 t18 S18).bind fun p20=>
(faP 1 false 1 p8.1).bind fun t21=>
(ld1 t21 p20.2).bind fun p22=>
(qa4 E0 .neq 9 false true p22.1 (sv [])).bind fun t23=>
(qa3 true t23).bind fun g25=>(bif g25 then some x0 else some (.tuple [])).bind fun t25=>
(qa3 true t23).bind fun g26=>callP (bif g26 then self.f 23 [t25,(sv [125])] p22.2 else some (.ret (.tuple []),p22.2)) fun t26 S26=>
(qau t23 (some t26) (some (.bool false))).bind fun t27=>
ifK t27 (
(faP 2 false 1 p8.1).bind fun t28=>
(stP 1 t28 (sv [108,101,110]) S26).bind fun p29=>
(ldA 6 p8.1 p29.2).bind fun p30=>
(stP 6 p0.1 p30.1 p30.2).bind fun p31=>
(ldrA 6 p0.1 p31.2).bind fun p32=>
some (.ret p32.1,p32.2)) (
(qa1 x0).bind fun t35=>
(faP 1 false 1 t35).bind fun t36=>
(stP 1 t36 p13.1 S26).bind fun p37=>
callP (self.f 90 [x0,(sv [63,35,64,42])] p37.2) fun t39 S39=>
(faP 1 false 1 p8.1).bind fun t40=>
(stP 1 t40 t39 S39).bind fun p41=>
(faP 1 false 1 p8.1).bind fun t42=>
(ld1 t42 p41.2).bind fun p43=>
(qa4 E0 .eql 9 false true p43.1 (sv [])).bind fun t44=>
ifK t44 (
callP (self.f 25 [(.int .i64 19),x1] p43.2) fun t46 S46=>
callP (self.f 23 [x0,(sv [125])] S46) fun t48 S48=>
ifK t48 (
(ldA 6 p8.1 S48).bind fun p49=>
(stP 6 p0.1 p49.1 p49.2).bind fun p50=>
(ldrA 6 p0.1 p50.2).bind fun p51=>
some (.ret p51.1,p51.2)) (
callP (self.f 99 [] S48) fun t52 S52=>
callP (self.f 67 [t52,(.fn (.func 23) [x0] [])] S52) fun t55 S55=>
(qa4 E0 .lss 3 false true t55 (.int .i64 0)).bind fun t58=>
ifK t58 (
callP (self.f 25 [(.int .i64 19),x1] S55) fun t60 S60=>
callP (self.f 99 [] S60) fun t61 S61=>
(ixP 1 t61 t55).bind fun t63=>
(ld1 t63 S61).bind fun p64=>
(faP 2 false 1 p8.1).bind fun t65=>
(stP 1 t65 p64.1 p64.2).bind fun p66=>
callP (self.f 68 [x2] p66.2) fun t69 S69=>
ifK t69 (
(qa4 E0 .add 3 false true x3 (.int .i64 1)).bind fun t74=>
callP (self.f 49 [x0,(.int .i64 4),t74] S69) fun t75 S75=>
(faP 4 false 1 p8.1).bind fun t76=>
(stP 1 t76 t75 S75).bind fun p77=>
callP (self.f 23 [x0,(sv [125])] p77.2) fun t79 S79=>
(unV .not t79).bind fun t80=>
ifK t80 (
callP (self.f 25 [(.int .i64 19),x1] S79) fun t82 S82=>
(ldA 6 p8.1 S82).bind fun p83=>
(stP 6 p0.1 p83.1 p83.2).bind fun p84=>
(ldrA 6 p0.1 p84.2).bind fun p85=>
some (.ret p85.1,p85.2)) (
(ldA 6 p8.1 S79).bind fun p86=>
(stP 6 p0.1 p86.1 p86.2).bind fun p87=>
(ldrA 6 p0.1 p87.2).bind fun p88=>
some (.ret p88.1,p88.2))) (
(qa4 E0 .add 3 false true x3 (.int .i64 1)).bind fun t92=>
callP (self.f 49 [x0,(.int .i64 3),t92] S69) fun t93 S93=>
(faP 4 false 1 p8.1).bind fun t94=>
(stP 1 t94 t93 S93).bind fun p95=>
callP (self.f 23 [x0,(sv [125])] p95.2) fun t97 S97=>
(unV .not t97).bind fun t98=>
ifK t98 (
callP (self.f 25 [(.int .i64 19),x1] S97) fun t100 S100=>
(ldA 6 p8.1 S100).bind fun p101=>
(stP 6 p0.1 p101.1 p101.2).bind fun p102=>
(ldrA 6 p0.1 p102.2).bind fun p103=>
some (.ret p103.1,p103.2)) (
(ldA 6 p8.1 S97).bind fun p104=>
(stP 6 p0.1 p104.1 p104.2).bind fun p105=>
(ldrA 6 p0.1 p105.2).bind fun p106=>
some (.ret p106.1,p106.2)))) (
callP (self.f 99 [] S55) fun t107 S107=>
(ixP 1 t107 t55).bind fun t109=>
(ld1 t109 S107).bind fun p110=>
(faP 2 false 1 p8.1).bind fun t111=>
(stP 1 t111 p110.1 p110.2).bind fun p112=>
callP (self.f 68 [x2] p112.2) fun t115 S115=>
ifK t115 (
(qa4 E0 .add 3 false true x3 (.int .i64 1)).bind fun t120=>
callP (self.f 49 [x0,(.int .i64 4),t120] S115) fun t121 S121=>
(faP 4 false 1 p8.1).bind fun t122=>
(stP 1 t122 t121 S121).bind fun p123=>
callP (self.f 23 [x0,(sv [125])] p123.2) fun t125 S125=>
(unV .not t125).bind fun t126=>
ifK t126 (
callP (self.f 25 [(.int .i64 19),x1] S125) fun t128 S128=>
(ldA 6 p8.1 S128).bind fun p129=>
(stP 6 p0.1 p129.1 p129.2).bind fun p130=>
(ldrA 6 p0.1 p130.2).bind fun p131=>
some (.ret p131.1,p131.2)) (
(ldA 6 p8.1 S125).bind fun p132=>
(stP 6 p0.1 p132.1 p132.2).bind fun p133=>
(ldrA 6 p0.1 p133.2).bind fun p134=>
some (.ret p134.1,p134.2))) (
(qa4 E0 .add 3 false true x3 (.int .i64 1)).bind fun t138=>
callP (self.f 49 [x0,(.int .i64 3),t138] S115) fun t139 S139=>
(faP 4 false 1 p8.1).bind fun t140=>
(stP 1 t140 t139 S139).bind fun p141=>
callP (self.f 23 [x0,(sv [125])] p141.2) fun t143 S143=>
(unV .not t143).bind fun t144=>
ifK t144 (
callP (self.f 25 [(.int .i64 19),x1] S143) fun t146 S146=>
(ldA 6 p8.1 S146).bind fun p147=>
(stP 6 p0.1 p147.1 p147.2).bind fun p148=>
(ldrA 6 p0.1 p148.2).bind fun p149=>
some (.ret p149.1,p149.2)) (
(ldA 6 p8.1 S143).bind fun p150=>
(stP 6 p0.1 p150.1 p150.2).bind fun p151=>
(ldrA 6 p0.1 p151.2).bind fun p152=>
some (.ret p152.1,p152.2)))))) (
callP (self.f 23 [x0,(sv [125])] p43.2) fun t154 S154=>
ifK t154 (
(ldA 6 p8.1 S154).bind fun p155=>
(stP 6 p0.1 p155.1 p155.2).bind fun p156=>
(ldrA 6 p0.1 p156.2).bind fun p157=>
some (.ret p157.1,p157.2)) (
callP (self.f 99 [] S154) fun t158 S158=>
callP (self.f 67 [t158,(.fn (.func 23) [x0] [])] S158) fun t161 S161=>
(qa4 E0 .lss 3 false true t161 (.int .i64 0)).bind fun t164=>
ifK t164 (
callP (self.f 25 [(.int .i64 19),x1] S161) fun t166 S166=>
callP (self.f 99 [] S166) fun t167 S167=>
(ixP 1 t167 t161).bind fun t169=>
(ld1 t169 S167).bind fun p170=>
(faP 2 false 1 p8.1).bind fun t171=>
(stP 1 t171 p170.1 p170.2).bind fun p172=>
callP (self.f 68 [x2] p172.2) fun t175 S175=>
ifK t175 (
(qa4 E0 .add 3 false true x3 (.int .i64 1)).bind fun t180=>
callP (self.f 49 [x0,(.int .i64 4),t180] S175) fun t181 S181=>
(faP 4 false 1 p8.1).bind fun t182=>
(stP 1 t182 t181 S181).bind fun p183=>
callP (self.f 23 [x0,(sv [125])] p183.2) fun t185 S185=>
(unV .not t185).bind fun t186=>
ifK t186 (
callP (self.f 25 [(.int .i64 19),x1] S185) fun t188 S188=>
(ldA 6 p8.1 S188).bind fun p189=>
(stP 6 p0.1 p189.1 p189.2).bind fun p190=>
(ldrA 6 p0.1 p190.2).bind fun p191=>
some (.ret p191.1,p191.2)) (
(ldA 6 p8.1 S185).bind fun p192=>
(stP 6 p0.1 p192.1 p192.2).bind fun p193=>
(ldrA 6 p0.1 p193.2).bind fun p194=>
some (.ret p194.1,p194.2))) (
(qa4 E0 .add 3 false true x3 (.int .i64 1)).bind fun t198=>
callP (self.f 49 [x0,(.int .i64 3),t198] S175) fun t199 S199=>
(faP 4 false 1 p8.1).bind fun t200=>
(stP 1 t200 t199 S199).bind fun p201=>
callP (self.f 23 [x0,(sv [125])] p201.2) fun t203 S203=>
(unV .not t203).bind fun t204=>
ifK t204 (
callP (self.f 25 [(.int .i64 19),x1] S203) fun t206 S206=>
(ldA 6 p8.1 S206).bind fun p207=>
(stP 6 p0.1 p207.1 p207.2).bind fun p208=>
(ldrA 6 p0.1 p208.2).bind fun p209=>
some (.ret p209.1,p209.2)) (
(ldA 6 p8.1 S203).bind fun p210=>
(stP 6 p0.1 p210.1 p210.2).bind fun p211=>
(ldrA 6 p0.1 p211.2).bind fun p212=>
some (.ret p212.1,p212.2)))) (
callP (self.f 99 [] S161) fun t213 S213=>
(ixP 1 t213 t161).bind fun t215=>
(ld1 t215 S213).bind fun p216=>
(faP 2 false 1 p8.1).bind fun t217=>
(stP 1 t217 p216.1 p216.2).bind fun p218=>
callP (self.f 68 [x2] p218.2) fun t221 S221=>
ifK t221 (
(qa4 E0 .add 3 false true x3 (.int .i64 1)).bind fun t226=>
callP (self.f 49 [x0,(.int .i64 4),t226] S221) fun t227 S227=>
(faP 4 false 1 p8.1).bind fun t228=>
(stP 1 t228 t227 S227).bind fun p229=>
callP (self.f 23 [x0,(sv [125])] p229.2) fun t231 S231=>
(unV .not t231).bind fun t232=>
ifK t232 (
callP (self.f 25 [(.int .i64 19),x1] S231) fun t234 S234=>
(ldA 6 p8.1 S234).bind fun p235=>
(stP 6 p0.1 p235.1 p235.2).bind fun p236=>
(ldrA 6 p0.1 p236.2).bind fun p237=>
some (.ret p237.1,p237.2)) (
(ldA 6 p8.1 S231).bind fun p238=>
(stP 6 p0.1 p238.1 p238.2).bind fun p239=>
(ldrA 6 p0.1 p239.2).bind fun p240=>
some (.ret p240.1,p240.2))) (
(qa4 E0 .add 3 false true x3 (.int .i64 1)).bind fun t244=>
callP (self.f 49 [x0,(.int .i64 3),t244] S221) fun t245 S245=>
(faP 4 false 1 p8.1).bind fun t246=>
(stP 1 t246 t245 S245).bind fun p247=>
callP (self.f 23 [x0,(sv [125])] p247.2) fun t249 S249=>
(unV .not t249).bind fun t250=>
ifK t250 (
callP (self.f 25 [(.int .i64 19),x1] S249) fun t252 S252=>
(ldA 6 p8.1 S252).bind fun p253=>
(stP 6 p0.1 p253.1 p253.2).bind fun p254=>
(ldrA 6 p0.1 p254.2).bind fun p255=>
some (.ret p255.1,p255.2)) (
(ldA 6 p8.1 S249).bind fun p256=>
(stP 6 p0.1 p256.1 p256.2).bind fun p257=>
(ldrA 6 p0.1 p257.2).bind fun p258=>
some (.ret p258.1,p258.2)))))))) (
callP (self.f 90 [x0,(sv [63,35,64,42])] S16) fun t260 S260=>
(faP 1 false 1 p8.1).bind fun t261=>
(stP 1 t261 t260 S260).bind fun p262=>
(faP 1 false 1 p8.1).bind fun t263=>
(ld1 t263 p262.2).bind fun p264=>
(qa4 E0 .eql 9 false true p264.1 (sv [])).bind fun t265=>
ifK t265 (
callP (self.f 25 [(.int .i64 19),x1] p264.2) fun t267 S267=>
callP (self.f 23 [x0,(sv [125])] S267) fun t269 S269=>
ifK t269 (
(ldA 6 p8.1 S269).bind fun p270=>
(stP 6 p0.1 p270.1 p270.2).bind fun p271=>
(ldrA 6 p0.1 p271.2).bind fun p272=>
some (.ret p272.1,p272.2)) (
callP (self.f 99 [] S269) fun t273 S273=>
callP (self.f 67 [t273,(.fn (.func 23) [x0] [])] S273) fun t276 S276=>
(qa4 E0 .lss 3 false true t276 (.int .i64 0)).bind fun t279=>
ifK t279 (
callP (self.f 25 [(.int .i64 19),x1] S276) fun t281 S281=>
callP (self.f 99 [] S281) fun t282 S282=>
(ixP 1 t282 t276).bind fun t284=>
(ld1 t284 S282).bind fun p285=>
(faP 2 false 1 p8.1).bind fun t286=>
(stP 1 t286 p285.1 p285.2).bind fun p287=>
callP (self.f 68 [x2] p287.2) fun t290 S290=>
ifK t290 (
(qa4 E0 .add 3 false true x3 (.int .i64 1)).bind fun t295=>
callP (self.f 49 [x0,(.int .i64 4),t295] S290) fun t296 S296=>
(faP 4 false 1 p8.1).bind fun t297=>
(stP 1 t297 t296 S296).bind fun p298=>
callP (self.f 23 [x0,(sv [125])] p298.2) fun t300 S300=>
(unV .not t300).bind fun t301=>
ifK t301 (
callP (self.f 25 [(.int .i64 19),x1] S300) fun t303 S303=>
(ldA 6 p8.1 S303).bind fun p304=>
(stP 6 p0.1 p304.1 p304.2).bind fun p305=>
(ldrA 6 p0.1 p305.2).bind fun p306=>
some (.ret p306.1,p306.2)) (
(ldA 6 p8.1 S300).bind fun p307=>
(stP 6 p0.1 p307.1 p307.2).bind fun p308=>
(ldrA 6 p0.1 p308.2).bind fun p309=>
some (.ret p309.1,p309.2))) (
(qa4 E0 .add 3 false true x3 (.int .i64 1)).bind fun t313=>
callP (self.f 49 [x0,(.int .i64 3),t313] S290) fun t314 S314=>
(faP 4 false 1 p8.1).bind fun t315=>
(stP 1 t315 t314 S314).bind fun p316=>
callP (self.f 23 [x0,(sv [125])] p316.2) fun t318 S318=>
(unV .not t318).bind fun t319=>
ifK t319 (
callP (self.f 25 [(.int .i64 19),x1] S318) fun t321 S321=>
(ldA 6 p8.1 S321).bind fun p322=>
(stP 6 p0.1 p322.1 p322.2).bind fun p323=>
(ldrA 6 p0.1 p323.2).bind fun p324=>
some (.ret p324.1,p324.2)) (
(ldA 6 p8.1 S318).bind fun p325=>
(stP 6 p0.1 p325.1 p325.2).bind fun p326=>
(ldrA 6 p0.1 p326.2).bind fun p327=>
some (.ret p327.1,p327.2)))) (
callP (self.f 99 [] S276) fun t328 S328=>
(ixP 1 t328 t276).bind fun t330=>
(ld1 t330 S328).bind fun p331=>
(faP 2 false 1 p8.1).bind fun t332=>
(stP 1 t332 p331.1 p331.2).bind fun p333=>
callP (self.f 68 [x2] p333.2) fun t336 S336=>
ifK t336 (
(qa4 E0 .add 3 false true x3 (.int .i64 1)).bind fun t341=>
callP (self.f 49 [x0,(.int .i64 4),t341] S336) fun t342 S342=>
(faP 4 false 1 p8.1).bind fun t343=>
(stP 1 t343 t342 S342).bind fun p344=>
callP (self.f 23 [x0,(sv [125])] p344.2) fun t346 S346=>
(unV .not t346).bind fun t347=>
ifK t347 (
callP (self.f 25 [(.int .i64 19),x1] S346) fun t349 S349=>
(ldA 6 p8.1 S349).bind fun p350=>
(stP 6 p0.1 p350.1 p350.2).bind fun p351=>
(ldrA 6 p0.1 p351.2).bind fun p352=>
some (.ret p352.1,p352.2)) (
(ldA 6 p8.1 S346).bind fun p353=>
(stP 6 p0.1 p353.1 p353.2).bind fun p354=>
(ldrA 6 p0.1 p354.2).bind fun p355=>
some (.ret p355.1,p355.2))) (
(qa4 E0 .add 3 false true x3 (.int .i64 1)).bind fun t359=>
callP (self.f 49 [x0,(.int .i64 3),t359] S336) fun t360 S360=>
(faP 4 false 1 p8.1).bind fun t361=>
(stP 1 t361 t360 S360).bind fun p362=>
callP (self.f 23 [x0,(sv [125])] p362.2) fun t364 S364=>
(unV .not t364).bind fun t365=>
ifK t365 (
callP (self.f 25 [(.int .i64 19),x1] S364) fun t367 S367=>
(ldA 6 p8.1 S367).bind fun p368=>
(stP 6 p0.1 p368.1 p368.2).bind fun p369=>
(ldrA 6 p0.1 p369.2).bind fun p370=>
some (.ret p370.1,p370.2)) (
(ldA 6 p8.1 S364).bind fun p371=>
(stP 6 p0.1 p371.1 p371.2).bind fun p372=>
(ldrA 6 p0.1 p372.2).bind fun p373=>
some (.ret p373.1,p373.2)))))) (
callP (self.f 23 [x0,(sv [125])] p264.2) fun t375 S375=>
ifK t375 (
(ldA 6 p8.1 S375).bind fun p376=>
(stP 6 p0.1 p376.1 p376.2).bind fun p377=>
(ldrA 6 p0.1 p377.2).bind fun p378=>
some (.ret p378.1,p378.2)) (
callP (self.f 99 [] S375) fun t379 S379=>
callP (self.f 67 [t379,(.fn (.func 23) [x0] [])] S379) fun t382 S382=>
(qa4 E0 .lss 3 false true t382 (.int .i64 0)).bind fun t385=>
ifK t385 (
callP (self.f 25 [(.int .i64 19),x1] S382) fun t387 S387=>
callP (self.f 99 [] S387) fun t388 S388=>
(ixP 1 t388 t382).bind fun t390=>
(ld1 t390 S388).bind fun p391=>
(faP 2 false 1 p8.1).bind fun t392=>
(stP 1 t392 p391.1 p391.2).bind fun p393=>
callP (self.f 68 [x2] p393.2) fun t396 S396=>
ifK t396 (
(qa4 E0 .add 3 false true x3 (.int .i64 1)).bind fun t401=>
callP (self.f 49 [x0,(.int .i64 4),t401] S396) fun t402 S402=>
(faP 4 false 1 p8.1).bind fun t403=>
(stP 1 t403 t402 S402).bind fun p404=>
callP (self.f 23 [x0,(sv [125])] p404.2) fun t406 S406=>
(unV .not t406).bind fun t407=>
ifK t407 (
callP (self.f 25 [(.int .i64 19),x1] S406) fun t409 S409=>
(ldA 6 p8.1 S409).bind fun p410=>
(stP 6 p0.1 p410.1 p410.2).bind fun p411=>
(ldrA 6 p0.1 p411.2).bind fun p412=>
some (.ret p412.1,p412.2)) (
(ldA 6 p8.1 S406).bind fun p413=>
(stP 6 p0.1 p413.1 p413.2).bind fun p414=>
(ldrA 6 p0.1 p414.2).bind fun p415=>
some (.ret p415.1,p415.2))) (
(qa4 E0 .add 3 false true x3 (.int .i64 1)).bind fun t419=>
callP (self.f 49 [x0,(.int .i64 3),t419] S396) fun t420 S420=>
(faP 4 false 1 p8.1).bind fun t421=>
(stP 1 t421 t420 S420).bind fun p422=>
callP (self.f 23 [x0,(sv [125])] p422.2) fun t424 S424=>
(unV .not t424).bind fun t425=>
ifK t425 (
callP (self.f 25 [(.int .i64 19),x1] S424) fun t427 S427=>
(ldA 6 p8.1 S427).bind fun p428=>
(stP 6 p0.1 p428.1 p428.2).bind fun p429=>
(ldrA 6 p0.1 p429.2).bind fun p430=>
some (.ret p430.1,p430.2)) (
(ldA 6 p8.1 S424).bind fun p431=>
(stP 6 p0.1 p431.1 p431.2).bind fun p432=>
(ldrA 6 p0.1 p432.2).bind fun p433=>
some (.ret p433.1,p433.2)))) (
callP (self.f 99 [] S382) fun t434 S434=>
(ixP 1 t434 t382).bind fun t436=>
(ld1 t436 S434).bind fun p437=>
(faP 2 false 1 p8.1).bind fun t438=>
(stP 1 t438 p437.1 p437.2).bind fun p439=>
callP (self.f 68 [x2] p439.2) fun t442 S442=>
ifK t442 (
(qa4 E0 .add 3 false true x3 (.int .i64 1)).bind fun t447=>
callP (self.f 49 [x0,(.int .i64 4),t447] S442) fun t448 S448=>
(faP 4 false 1 p8.1).bind fun t449=>
(stP 1 t449 t448 S448).bind fun p450=>
callP (self.f 23 [x0,(sv [125])] p450.2) fun t452 S452=>
(unV .not t452).bind fun t453=>
ifK t453 (
callP (self.f 25 [(.int .i64 19),x1] S452) fun t455 S455=>
(ldA 6 p8.1 S455).bind fun p456=>
(stP 6 p0.1 p456.1 p456.2).bind fun p457=>
(ldrA 6 p0.1 p457.2).bind fun p458=>
some (.ret p458.1,p458.2)) (
(ldA 6 p8.1 S452).bind fun p459=>
(stP 6 p0.1 p459.1 p459.2).bind fun p460=>
(ldrA 6 p0.1 p460.2).bind fun p461=>
some (.ret p461.1,p461.2))) (
(qa4 E0 .add 3 false true x3 (.int .i64 1)).bind fun t465=>
callP (self.f 49 [x0,(.int .i64 3),t465] S442) fun t466 S466=>
(faP 4 false 1 p8.1).bind fun t467=>
(stP 1 t467 t466 S466).bind fun p468=>
callP (self.f 23 [x0,(sv [125])] p468.2) fun t470 S470=>
(unV .not t470).bind fun t471=>
ifK t471 (
callP (self.f 25 [(.int .i64 19),x1] S470) fun t473 S473=>
(ldA 6 p8.1 S473).bind fun p474=>
(stP 6 p0.1 p474.1 p474.2).bind fun p475=>
(ldrA 6 p0.1 p475.2).bind fun p476=>
some (.ret p476.1,p476.2)) (
(ldA 6 p8.1 S470).bind fun p477=>
(stP 6 p0.1 p477.1 p477.2).bind fun p478=>
(ldrA 6 p0.1 p478.2).bind fun p479=>
some (.ret p479.1,p479.2)))))))) (
callP (self.f 68 [x2] p0.2) fun t481 S481=>
(qa9 E0 49 [(0,(.int .i64 2)),(3,t481)]).bind fun t482=>
(some (nwP 49 6 (Tr.ofListFrom .nil [(.int .i64 0),(sv []),(sv []),(.bool false),.nilslice,.nilptr] 0) S481)).bind fun p483=>
(stP 6 p483.1 t482 p483.2).bind fun p484=>
(qa1 x0).bind fun t486=>
(faP 1 false 1 t486).bind fun t487=>
(ld1 t487 p484.2).bind fun p488=>
callP (self.f 23 [x0,(sv [35])] p488.2) fun t491 S491=>
ifK t491 (
callP (self.f 90 [x0,(sv [63,64,42])] S491) fun t493 S493=>
(faP 1 false 1 p483.1).bind fun t494=>
(stP 1 t494 t493 S493).bind fun p495=>
(faP 1 false 1 p483.1).bind fun t496=>
(ld1 t496 p495.2).bind fun p497=>
(qa4 E0 .neq 9 false true p497.1 (sv [])).bind fun t498=>
(qa3 true t498).bind fun g500=>(bif g500 then some x0 else some (.tuple [])).bind fun t500=>
(qa3 true t498).bind fun g501=>callP (bif g501 then self.f 23 [t500,(sv [125])] p497.2 else some (.ret (.tuple []),p497.2)) fun t501 S501=>
(qau t498 (some t501) (some (.bool false))).bind fun t502=>
ifK t502 (
(faP 2 false 1 p483.1).bind fun t503=>
(stP 1 t503 (sv [108,101,110]) S501).bind fun p504=>
(ldA 6 p483.1 p504.2).bind fun p505=>
(stP 6 p0.1 p505.1 p505.2).bind fun p506=>
(ldrA 6 p0.1 p506.2).bind fun p507=>
some (.ret p507.1,p507.2)) (
(qa1 x0).bind fun t510=>
(faP 1 false 1 t510).bind fun t511=>
(stP 1 t511 p488.1 S501).bind fun p512=>
callP (self.f 90 [x0,(sv [63,35,64,42])] p512.2) fun t514 S514=>
(faP 1 false 1 p483.1).bind fun t515=>
(stP 1 t515 t514 S514).bind fun p516=>
(faP 1 false 1 p483.1).bind fun t517=>
(ld1 t517 p516.2).bind fun p518=>
(qa4 E0 .eql 9 false true p518.1 (sv [])).bind fun t519=>
ifK t519 (
callP (self.f 25 [(.int .i64 19),x1] p518.2) fun t521 S521=>
callP (self.f 23 [x0,(sv [125])] S521) fun t523 S523=>
ifK t523 (
(ldA 6 p483.1 S523).bind fun p524=>
(stP 6 p0.1 p524.1 p524.2).bind fun p525=>
(ldrA 6 p0.1 p525.2).bind fun p526=>
some (.ret p526.1,p526.2)) (
callP (self.f 99 [] S523) fun t527 S527=>
callP (self.f 67 [t527,(.fn (.func 23) [x0] [])] S527) fun t530 S530=>
(qa4 E0 .lss 3 false true t530 (.int .i64 0)).bind fun t533=>
ifK t533 (
callP (self.f 25 [(.int .i64 19),x1] S530) fun t535 S535=>
callP (self.f 99 [] S535) fun t536 S536=>
(ixP 1 t536 t530).bind fun t538=>
(ld1 t538 S536).bind fun p539=>
(faP 2 false 1 p483.1).bind fun t540=>
(stP 1 t540 p539.1 p539.2).bind fun p541=>
callP (self.f 68 [x2] p541.2) fun t544 S544=>
ifK t544 (
(qa4 E0 .add 3 false true x3 (.int .i64 1)).bind fun t549=>
callP (self.f 49 [x0,(.int .i64 4),t549] S544) fun t550 S550=>
(faP 4 false 1 p483.1).bind fun t551=>
(stP 1 t551 t550 S550).bind fun p552=>
callP (self.f 23 [x0,(sv [125])] p552.2) fun t554 S554=>
(unV .not t554).bind fun t555=>
ifK t555 (
callP (self.f 25 [(.int .i64 19),x1] S554) fun t557 S557=>
(ldA 6 p483.1 S557).bind fun p558=>
(stP 6 p0.1 p558.1 p558.2).bind fun p559=>
(ldrA 6 p0.1 p559.2).bind fun p560=>
some (.ret p560.1,p560.2)) (
(ldA 6 p483.1 S554).bind fun p561=>
(stP 6 p0.1 p561.1 p561.2).bind fun p562=>
(ldrA 6 p0.1 p562.2).bind fun p563=>
some (.ret p563.1,p563.2))) (
(qa4 E0 .add 3 false true x3 (.int .i64 1)).bind fun t567=>
callP (self.f 49 [x0,(.int .i64 3),t567] S544) fun t568 S568=>
(faP 4 false 1 p483.1).bind fun t569=>
(stP 1 t569 t568 S568).bind fun p570=>
callP (self.f 23 [x0,(sv [125])] p570.2) fun t572 S572=>
(unV .not t572).bind fun t573=>
ifK t573 (
callP (self.f 25 [(.int .i64 19),x1] S572) fun t575 S575=>
(ldA 6 p483.1 S575).bind fun p576=>
(stP 6 p0.1 p576.1 p576.2).bind fun p577=>
(ldrA 6 p0.1 p577.2).bind fun p578=>
some (.ret p578.1,p578.2)) (
(ldA 6 p483.1 S572).bind fun p579=>
(stP 6 p0.1 p579.1 p579.2).bind fun p580=>
(ldrA 6 p0.1 p580.2).bind fun p581=>
some (.ret p581.1,p581.2)))) (
callP (self.f 99 [] S530) fun t582 S582=>
(ixP 1 t582 t530).bind fun t584=>
(ld1 t584 S582).bind fun p585=>
(faP 2 false 1 p483.1).bind fun t586=>
(stP 1 t586 p585.1 p585.2).bind fun p587=>
callP (self.f 68 [x2] p587.2) fun t590 S590=>
ifK t590 (
(qa4 E0 .add 3 false true x3 (.int .i64 1)).bind fun t595=>
callP (self.f 49 [x0,(.int .i64 4),t595] S590) fun t596 S596=>
(faP 4 false 1 p483.1).bind fun t597=>
(stP 1 t597 t596 S596).bind fun p598=>
callP (self.f 23 [x0,(sv [125])] p598.2) fun t600 S600=>
(unV .not t600).bind fun t601=>
ifK t601 (
callP (self.f 25 [(.int .i64 19),x1] S600) fun t603 S603=>
(ldA 6 p483.1 S603).bind fun p604=>
(stP 6 p0.1 p604.1 p604.2).bind fun p605=>
(ldrA 6 p0.1 p605.2).bind fun p606=>
some (.ret p606.1,p606.2)) (
(ldA 6 p483.1 S600).bind fun p607=>
(stP 6 p0.1 p607.1 p607.2).bind fun p608=>
(ldrA 6 p0.1 p608.2).bind fun p609=>
some (.ret p609.1,p609.2))) (
(qa4 E0 .add 3 false true x3 (.int .i64 1)).bind fun t613=>
callP (self.f 49 [x0,(.int .i64 3),t613] S590) fun t614 S614=>
(faP 4 false 1 p483.1).bind fun t615=>
(stP 1 t615 t614 S614).bind fun p616=>
callP (self.f 23 [x0,(sv [125])] p616.2) fun t618 S618=>
(unV .not t618).bind fun t619=>
ifK t619 (
callP (self.f 25 [(.int .i64 19),x1] S618) fun t621 S621=>
(ldA 6 p483.1 S621).bind fun p622=>
(stP 6 p0.1 p622.1 p622.2).bind fun p623=>
(ldrA 6 p0.1 p623.2).bind fun p624=>
some (.ret p624.1,p624.2)) (
(ldA 6 p483.1 S618).bind fun p625=>
(stP 6 p0.1 p625.1 p625.2).bind fun p626=>
(ldrA 6 p0.1 p626.2).bind fun p627=>
some (.ret p627.1,p627.2)))))) (
callP (self.f 23 [x0,(sv [125])] p518.2) fun t629 S629=>
ifK t629 (
(ldA 6 p483.1 S629).bind fun p630=>
(stP 6 p0.1 p630.1 p630.2).bind fun p631=>
(ldrA 6 p0.1 p631.2).bind fun p632=>
some (.ret p632.1,p632.2)) (
callP (self.f 99 [] S629) fun t633 S633=>
callP (self.f 67 [t633,(.fn (.func 23) [x0] [])] S633) fun t636 S636=>
(qa4 E0 .lss 3 false true t636 (.int .i64 0)).bind fun t639=>
ifK t639 (
callP (self.f 25 [(.int .i64 19),x1] S636) fun t641 S641=>
callP (self.f 99 [] S641) fun t642 S642=>
(ixP 1 t642 t636).bind fun t644=>
(ld1 t644 S642).bind fun p645=>
(faP 2 false 1 p483.1).bind fun t646=>
(stP 1 t646 p645.1 p645.2).bind fun p647=>
callP (self.f 68 [x2] p647.2) fun t650 S650=>
ifK t650 (
(qa4 E0 .add 3 false true x3 (.int .i64 1)).bind fun t655=>
callP (self.f 49 [x0,(.int .i64 4),t655] S650) fun t656 S656=>
(faP 4 false 1 p483.1).bind fun t657=>
(stP 1 t657 t656 S656).bind fun p658=>
callP (self.f 23 [x0,(sv [125])] p658.2) fun t660 S660=>
(unV .not t660).bind fun t661=>
ifK t661 (
callP (self.f 25 [(.int .i64 19),x1] S660) fun t663 S663=>
(ldA 6 p483.1 S663).bind fun p664=>
(stP 6 p0.1 p664.1 p664.2).bind fun p665=>
(ldrA 6 p0.1 p665.2).bind fun p666=>
some (.ret p666.1,p666.2)) (
(ldA 6 p483.1 S660).bind fun p667=>
(stP 6 p0.1 p667.1 p667.2).bind fun p668=>
(ldrA 6 p0.1 p668.2).bind fun p669=>
some (.ret p669.1,p669.2))) (
(qa4 E0 .add 3 false true x3 (.int .i64 1)).bind fun t673=>
callP (self.f 49 [x0,(.int .i64 3),t673] S650) fun t674 S674=>
(faP 4 false 1 p483.1).bind fun t675=>
(stP 1 t675 t674 S674).bind fun p676=>
callP (self.f 23 [x0,(sv [125])] p676.2) fun t678 S678=>
(unV .not t678).bind fun t679=>
ifK t679 (
callP (self.f 25 [(.int .i64 19),x1] S678) fun t681 S681=>
(ldA 6 p483.1 S681).bind fun p682=>
(stP 6 p0.1 p682.1 p682.2).bind fun p683=>
(ldrA 6 p0.1 p683.2).bind fun p684=>
some (.ret p684.1,p684.2)) (
(ldA 6 p483.1 S678).bind fun p685=>
(stP 6 p0.1 p685.1 p685.2).bind fun p686=>
(ldrA 6 p0.1 p686.2).bind fun p687=>
some (.ret p687.1,p687.2)))) (
callP (self.f 99 [] S636) fun t688 S688=>
(ixP 1 t688 t636).bind fun t690=>
(ld1 t690 S688).bind fun p691=>
(faP 2 false 1 p483.1).bind fun t692=>
(stP 1 t692 p691.1 p691.2).bind fun p693=>
callP (self.f 68 [x2] p693.2) fun t696 S696=>
ifK t696 (
(qa4 E0 .add 3 false true x3 (.int .i64 1)).bind fun t701=>
callP (self.f 49 [x0,(.int .i64 4),t701] S696) fun t702 S702=>
(faP 4 false 1 p483.1).bind fun t703=>
(stP 1 t703 t702 S702).bind fun p704=>
callP (self.f 23 [x0,(sv [125])] p704.2) fun t706 S706=>
(unV .not t706).bind fun t707=>
ifK t707 (
callP (self.f 25 [(.int .i64 19),x1] S706) fun t709 S709=>
(ldA 6 p483.1 S709).bind fun p710=>
(stP 6 p0.1 p710.1 p710.2).bind fun p711=>
(ldrA 6 p0.1 p711.2).bind fun p712=>
some (.ret p712.1,p712.2)) (
(ldA 6 p483.1 S706).bind fun p713=>
(stP 6 p0.1 p713.1 p713.2).bind fun p714=>
(ldrA 6 p0.1 p714.2).bind fun p715=>
some (.ret p715.1,p715.2))) (
(qa4 E0 .add 3 false true x3 (.int .i64 1)).bind fun t719=>
callP (self.f 49 [x0,(.int .i64 3),t719] S696) fun t720 S720=>
(faP 4 false 1 p483.1).bind fun t721=>
(stP 1 t721 t720 S720).bind fun p722=>
callP (self.f 23 [x0,(sv [125])] p722.2) fun t724 S724=>
(unV .not t724).bind fun t725=>
ifK t725 (
callP (self.f 25 [(.int .i64 19),x1] S724) fun t727 S727=>
(ldA 6 p483.1 S727).bind fun p728=>
(stP 6 p0.1 p728.1 p728.2).bind fun p729=>
(ldrA 6 p0.1 p729.2).bind fun p730=>
some (.ret p730.1,p730.2)) (
(ldA 6 p483.1 S724).bind fun p731=>
(stP 6 p0.1 p731.1 p731.2).bind fun p732=>
(ldrA 6 p0.1 p732.2).bind fun p733=>
some (.ret p733.1,p733.2)))))))) (
callP (self.f 90 [x0,(sv [63,35,64,42])] S491) fun t735 S735=>
(faP 1 false 1 p483.1).bind fun t736=>
(stP 1 t736 t735 S735).bind fun p737=>
(faP 1 false 1 p483.1).bind fun t738=>
(ld1 t738 p737.2).bind fun p739=>
(qa4 E0 .eql 9 false true p739.1 (sv [])).bind fun t740=>
ifK t740 (
callP (self.f 25 [(.int .i64 19),x1] p739.2) fun t742 S742=>
callP (self.f 23 [x0,(sv [125])] S742) fun t744 S744=>
ifK t744 (
(ldA 6 p483.1 S744).bind fun p745=>
(stP 6 p0.1 p745.1 p745.2).bind fun p746=>
(ldrA 6 p0.1 p746.2).bind fun p747=>
some (.ret p747.1,p747.2)) (
callP (self.f 99 [] S744) fun t748 S748=>
callP (self.f 67 [t748,(.fn (.func 23) [x0] [])] S748) fun t751 S751=>
(qa4 E0 .lss 3 false true t751 (.int .i64 0)).bind fun t754=>
ifK t754 (
callP (self.f 25 [(.int .i64 19),x1] S751) fun t756 S756=>
callP (self.f 99 [] S756) fun t757 S757=>
(ixP 1 t757 t751).bind fun t759=>
(ld1 t759 S757).bind fun p760=>
(faP 2 false 1 p483.1).bind fun t761=>
(stP 1 t761 p760.1 p760.2).bind fun p762=>
callP (self.f 68 [x2] p762.2) fun t765 S765=>
ifK t765 (
(qa4 E0 .add 3 false true x3 (.int .i64 1)).bind fun t770=>
callP (self.f 49 [x0,(.int .i64 4),t770] S765) fun t771 S771=>
(faP 4 false 1 p483.1).bind fun t772=>
(stP 1 t772 t771 S771).bind fun p773=>
callP (self.f 23 [x0,(sv [125])] p773.2) fun t775 S775=>
(unV .not t775).bind fun t776=>
ifK t776 (
callP (self.f 25 [(.int .i64 19),x1] S775) fun t778 S778=>
(ldA 6 p483.1 S778).bind fun p779=>
(stP 6 p0.1 p779.1 p779.2).bind fun p780=>
(ldrA 6 p0.1 p780.2).bind fun p781=>
some (.ret p781.1,p781.2)) (
(ldA 6 p483.1 S775).bind fun p782=>
(stP 6 p0.1 p782.1 p782.2).bind fun p783=>
(ldrA 6 p0.1 p783.2).bind fun p784=>
some (.ret p784.1,p784.2))) (
(qa4 E0 .add 3 false true x3 (.int .i64 1)).bind fun t788=>
callP (self.f 49 [x0,(.int .i64 3),t788] S765) fun t789 S789=>
(faP 4 false 1 p483.1).bind fun t790=>
(stP 1 t790 t789 S789).bind fun p791=>
callP (self.f 23 [x0,(sv [125])] p791.2) fun t793 S793=>
(unV .not t793).bind fun t794=>
ifK t794 (
callP (self.f 25 [(.int .i64 19),x1] S793) fun t796 S796=>
(ldA 6 p483.1 S796).bind fun p797=>
(stP 6 p0.1 p797.1 p797.2).bind fun p798=>
(ldrA 6 p0.1 p798.2).bind fun p799=>
some (.ret p799.1,p799.2)) (
(ldA 6 p483.1 S793).bind fun p800=>
(stP 6 p0.1 p800.1 p800.2).bind fun p801=>
(ldrA 6 p0.1 p801.2).bind fun p802=>
some (.ret p802.1,p802.2)))) (
callP (self.f 99 [] S751) fun t803 S803=>
(ixP 1 t803 t751).bind fun t805=>
(ld1 t805 S803).bind fun p806=>
(faP 2 false 1 p483.1).bind fun t807=>
(stP 1 t807 p806.1 p806.2).bind fun p808=>
callP (self.f 68 [x2] p808.2) fun t811 S811=>
ifK t811 (
(qa4 E0 .add 3 false true x3 (.int .i64 1)).bind fun t816=>
callP (self.f 49 [x0,(.int .i64 4),t816] S811) fun t817 S817=>
(faP 4 false 1 p483.1).bind fun t818=>
(stP 1 t818 t817 S817).bind fun p819=>
callP (self.f 23 [x0,(sv [125])] p819.2) fun t821 S821=>
(unV .not t821).bind fun t822=>
ifK t822 (
callP (self.f 25 [(.int .i64 19),x1] S821) fun t824 S824=>
(ldA 6 p483.1 S824).bind fun p825=>
(stP 6 p0.1 p825.1 p825.2).bind fun p826=>
(ldrA 6 p0.1 p826.2).bind fun p827=>
some (.ret p827.1,p827.2)) (
(ldA 6 p483.1 S821).bind fun p828=>
(stP 6 p0.1 p828.1 p828.2).bind fun p829=>
(ldrA 6 p0.1 p829.2).bind fun p830=>
some (.ret p830.1,p830.2))) (
(qa4 E0 .add 3 false true x3 (.int .i64 1)).bind fun t834=>
callP (self.f 49 [x0,(.int .i64 3),t834] S811) fun t835 S835=>
(faP 4 false 1 p483.1).bind fun t836=>
(stP 1 t836 t835 S835).bind fun p837=>
callP (self.f 23 [x0,(sv [125])] p837.2) fun t839 S839=>
(unV .not t839).bind fun t840=>
ifK t840 (
callP (self.f 25 [(.int .i64 19),x1] S839) fun t842 S842=>
(ldA 6 p483.1 S842).bind fun p843=>
(stP 6 p0.1 p843.1 p843.2).bind fun p844=>
(ldrA 6 p0.1 p844.2).bind fun p845=>
some (.ret p845.1,p845.2)) (
(ldA 6 p483.1 S839).bind fun p846=>
(stP 6 p0.1 p846.1 p846.2).bind fun p847=>
(ldrA 6 p0.1 p847.2).bind fun p848=>
some (.ret p848.1,p848.2)))))) (
callP (self.f 23 [x0,(sv [125])] p739.2) fun t850 S850=>
ifK t850 (
(ldA 6 p483.1 S850).bind fun p851=>
(stP 6 p0.1 p851.1 p851.2).bind fun p852=>
(ldrA 6 p0.1 p852.2).bind fun p853=>
some (.ret p853.1,p853.2)) (
callP (self.f 99 [] S850) fun t854 S854=>
callP (self.f 67 [t854,(.fn (.func 23) [x0] [])] S854) fun t857 S857=>
(qa4 E0 .lss 3 false true t857 (.int .i64 0)).bind fun t860=>
ifK t860 (
callP (self.f 25 [(.int .i64 19),x1] S857) fun t862 S862=>
callP (self.f 99 [] S862) fun t863 S863=>
(ixP 1 t863 t857).bind fun t865=>
(ld1 t865 S863).bind fun p866=>
(faP 2 false 1 p483.1).bind fun t867=>
(stP 1 t867 p866.1 p866.2).bind fun p868=>
callP (self.f 68 [x2] p868.2) fun t871 S871=>
ifK t871 (
(qa4 E0 .add 3 false true x3 (.int .i64 1)).bind fun t876=>
callP (self.f 49 [x0,(.int .i64 4),t876] S871) fun t877 S877=>
(faP 4 false 1 p483.1).bind fun t878=>
(stP 1 t878 t877 S877).bind fun p879=>
callP (self.f 23 [x0,(sv [125])] p879.2) fun t881 S881=>
(unV .not t881).bind fun t882=>
ifK t882 (
callP (self.f 25 [(.int .i64 19),x1] S881) fun t884 S884=>
(ldA 6 p483.1 S884).bind fun p885=>
(stP 6 p0.1 p885.1 p885.2).bind fun p886=>
(ldrA 6 p0.1 p886.2).bind fun p887=>
some (.ret p887.1,p887.2)) (
(ldA 6 p483.1 S881).bind fun p888=>
(stP 6 p0.1 p888.1 p888.2).bind fun p889=>
(ldrA 6 p0.1 p889.2).bind fun p890=>
some (.ret p890.1,p890.2))) (
(qa4 E0 .add 3 false true x3 (.int .i64 1)).bind fun t894=>
callP (self.f 49 [x0,(.int .i64 3),t894] S871) fun t895 S895=>
(faP 4 false 1 p483.1).bind fun t896=>
(stP 1 t896 t895 S895).bind fun p897=>
callP (self.f 23 [x0,(sv [125])] p897.2) fun t899 S899=>
(unV .not t899).bind fun t900=>
ifK t900 (
callP (self.f 25 [(.int .i64 19),x1] S899) fun t902 S902=>
(ldA 6 p483.1 S902).bind fun p903=>
(stP 6 p0.1 p903.1 p903.2).bind fun p904=>
(ldrA 6 p0.1 p904.2).bind fun p905=>
some (.ret p905.1,p905.2)) (
(ldA 6 p483.1 S899).bind fun p906=>
(stP 6 p0.1 p906.1 p906.2).bind fun p907=>
(ldrA 6 p0.1 p907.2).bind fun p908=>
some (.ret p908.1,p908.2)))) (
callP (self.f 99 [] S857) fun t909 S909=>
(ixP 1 t909 t857).bind fun t911=>
(ld1 t911 S909).bind fun p912=>
(faP 2 false 1 p483.1).bind fun t913=>
(stP 1 t913 p912.1 p912.2).bind fun p914=>
callP (self.f 68 [x2] p914.2) fun t917 S917=>
ifK t917 (
(qa4 E0 .add 3 false true x3 (.int .i64 1)).bind fun t922=>
callP (self.f 49 [x0,(.int .i64 4),t922] S917) fun t923 S923=>
(faP 4 false 1 p483.1).bind fun t924=>
(stP 1 t924 t923 S923).bind fun p925=>
callP (self.f 23 [x0,(sv [125])] p925.2) fun t927 S927=>
(unV .not t927).bind fun t928=>
ifK t928 (
callP (self.f 25 [(.int .i64 19),x1] S927) fun t930 S930=>
(ldA 6 p483.1 S930).bind fun p931=>
(stP 6 p0.1 p931.1 p931.2).bind fun p932=>
(ldrA 6 p0.1 p932.2).bind fun p933=>
some (.ret p933.1,p933.2)) (
(ldA 6 p483.1 S927).bind fun p934=>
(stP 6 p0.1 p934.1 p934.2).bind fun p935=>
(ldrA 6 p0.1 p935.2).bind fun p936=>
some (.ret p936.1,p936.2))) (
(qa4 E0 .add 3 false true x3 (.int .i64 1)).bind fun t940=>
callP (self.f 49 [x0,(.int .i64 3),t940] S917) fun t941 S941=>
(faP 4 false 1 p483.1).bind fun t942=>
(stP 1 t942 t941 S941).bind fun p943=>
callP (self.f 23 [x0,(sv [125])] p943.2) fun t945 S945=>
(unV .not t945).bind fun t946=>
ifK t946 (
callP (self.f 25 [(.int .i64 19),x1] S945) fun t948 S948=>
(ldA 6 p483.1 S948).bind fun p949=>
(stP 6 p0.1 p949.1 p949.2).bind fun p950=>
(ldrA 6 p0.1 p950.2).bind fun p951=>
some (.ret p951.1,p951.2)) (
(ldA 6 p483.1 S945).bind fun p952=>
(stP 6 p0.1 p952.1 p952.2).bind fun p953=>
(ldrA 6 p0.1 p953.2).bind fun p954=>
some (.ret p954.1,p954.2)))))))):=by kernel_rfl
end
end Go.Proofs.YtafbipadnnmccaaDoor.W
end
