/-
  WHAT THE FUNCTIONS COME TO: each is read by the evaluator,printed,and told as a function of data,part 3 of 13 (no condition).
-/
import Derived.Test.YtafbipadnnmccaaDoorW2
import Derived.Test.YtafbipadnnmccaaDoorProg
import Derived.KernelRfl
noncomputable section
namespace Go.Proofs.YtafbipadnnmccaaDoor.W
open Go.Proofs.YtafbipadnnmccaaDoor.Ev
set_option maxRecDepth 100000
noncomputable section
def C49:Code:=Tryd.f49.body.getD .skip
def B49:D:=(qaz C49 [[],[],[],[],[],[],[0,1,2,7,8,9,10,11],[],[7,10],[],[],[],[],[],[],[],[],[],[],[],[],[0,0,1,2,7,8,9,10,11,12,13,122],[0,1,2,7,8,9,10,11],[],[],[],[0,0,1,2,7,8,9,10,11,12,17],[0,1,2,7,8,9,10,11],[],[],[],[],[],[],[],[],[],[0,7,10],[6],[],[]]).1
def RL49:List Nat:=cellsOf Tryd.f49.results.toList
def qle (self:EV) (N:Nat) (nk:Ac->St->Rs) (ek:Nat->Ac->St->Rs) (a:Ac) (S:St):Rs:=qb8 [7,10] a fun a=>dr E0 self RL49 N (B49.r.r.r.r.r.r).r (mkK E0 self Tryd.f49 nk ek) a S
theorem R49_12_eq (self:EV) (N:Nat) (nk:Ac->St->Rs) (ek:Nat->Ac->St->Rs) ( v7 v10:V) (S:St):qle self N nk ek (fr 209 [(7,v7),(10,v10)]) S =
(ld1 v10 S).bind fun p13=>
callP (qbo E0 self p13.1 [] p13.2) fun t14 S14=>
(ld1 v7 S14).bind fun p15=>
some (.ret p15.1,p15.2):=by kernel_rfl
def qb6 (self:EV) (N:Nat) (nk:Ac->St->Rs) (ek:Nat->Ac->St->Rs) (n:Nat) ( v0 v1 v2 v7 v8 v9 v10 v11:V) (S:St):Rs:=qdq [0,1,2,7,8,9,10,11] (dr E0 self RL49 N (B49.r.r.r.r.r.r.l.l.l)) (mkK E0 self Tryd.f49 nk ek) n (fr 209 [(0,v0),(1,v1),(2,v2),(7,v7),(8,v8),(9,v9),(10,v10),(11,v11)]) S
theorem L49_17_eq (self:EV) (N:Nat) (nk:Ac->St->Rs) (ek:Nat->Ac->St->Rs) (n:Nat) ( v0 v1 v2 v7 v8 v9 v10 v11:V) (S:St):qb6 self N nk ek (n+1) v0 v1 v2 v7 v8 v9 v10 v11 S =
qlm (qas E0 (B49.r.r.r.r.r.r.l.l.l.l.l).ops) S 1 [[]] (self.f 24 [v0] (onS S)) fun t19 S19=>
(qa2 true t19).bind fun g21=>(bif g21 then some v1 else some (.tuple [])).bind fun t21=>
(qa2 true t19).bind fun g22=>(bif g22 then some v0 else some (.tuple [])).bind fun t22=>
(qa2 true t19).bind fun g23=>(bif g23 then qa1 t22 else some (.tuple [])).bind fun t23=>
(qa2 true t19).bind fun g24=>(bif g24 then faP 0 false 1 t23 else some (.tuple [])).bind fun t24=>
(qa2 true t19).bind fun g25=>(bif g25 then ld1 t24 (onS S19)else some (.tuple [],(onS S19))).bind fun p25=>
(qa2 true t19).bind fun g26=>(bif g26 then some v0 else some (.tuple [])).bind fun t26=>
(qa2 true t19).bind fun g27=>(bif g27 then qa1 t26 else some (.tuple [])).bind fun t27=>
(qa2 true t19).bind fun g28=>(bif g28 then faP 1 false 1 t27 else some (.tuple [])).bind fun t28=>
(qa2 true t19).bind fun g29=>(bif g29 then ld1 t28 (onS p25.2)else some (.tuple [],(onS p25.2))).bind fun p29=>
(qa2 true t19).bind fun g30=>(bif g30 then ixS p25.1 p29.1 else some (.tuple [])).bind fun t30=>
(qa2 true t19).bind fun g31=>qlm (qas E0 (B49.r.r.r.r.r.r.l.l.l.l.l).ops) S 13 [[],S19.log,[],[],[],[],[],p25.2.log,[],[],[],p29.2.log,[]] (bif g31 then self.f 71 [t21,t30] (onS p29.2)else some (.ret (.tuple []),(onS p29.2))) fun t31 S31=>
(qa2 true t19).bind fun g32=>(bif g32 then unV .not t31 else some (.tuple [])).bind fun t32=>
(qao t19 (some t32) (some (.bool false))).bind fun t33=>
qh7 [(7,[11])] S [[],S19.log,[],[],[],[],[],p25.2.log,[],[],[],p29.2.log,[],S31.log,[],[]] (onS S31) fun S34=>
ifK t33 (
(qa1 v0).bind fun t36=>
(faP 1 false 1 t36).bind fun t37=>
(ld1 t37 (onS S34)).bind fun p38=>
(qa1 v0).bind fun t40=>
(faP 0 false 1 t40).bind fun t41=>
(ld1 t41 (onS p38.2)).bind fun p42=>
(qa1 v0).bind fun t44=>
(faP 1 false 1 t44).bind fun t45=>
(ld1 t45 (onS p42.2)).bind fun p46=>
(ixS p42.1 p46.1).bind fun t47=>
qh7 [(3,[7,11]),(7,[11])] S34 [[],[],[],p38.2.log,[],[],[],p42.2.log,[],[],[],p46.2.log,[],[],[]] (onS p46.2) fun S50=>
callP (self.f 23 [v0,(sv [92,10])] S50) fun t52 S52=>
ifK t52 (
qb6 self N nk ek n v0 v1 v2 v7 v8 v9 v10 v11 S52) (
(qa5 E0 .eql 5 false true t47 (.int .u8 92)).bind fun t55=>
(qa2 true t55).bind fun g57=>(bif g57 then ld1 v9 S52 else some (.tuple [],S52)).bind fun p57=>
(qao t55 (some p57.1) (some (.bool false))).bind fun t58=>
ifK t58 (
callP (self.f 72 [v0] p57.2) fun t61 S61=>
callP (self.f 73 [(sv [36,96,92]),t61] S61) fun t64 S64=>
(qa5 E0 .lss 3 false true t64 (.int .i64 0)).bind fun t65=>
(qa2 true t65).bind fun g67=>(bif g67 then some t61 else some (.tuple [])).bind fun t67=>
(qa2 true t65).bind fun g68=>(bif g68 then qa5 E0 .neq 5 false true t67 (.int .u8 34)else some (.tuple [])).bind fun t68=>
(qa2 true t65).bind fun g69=>(bif g69 then some t68 else some (.tuple [])).bind fun t69=>
(qa2 false t69).bind fun g70=>(bif g70 then some v1 else some (.tuple [])).bind fun t70=>
(qa2 false t69).bind fun g71=>(bif g71 then qa5 E0 .eql 96 false true t70 (.int .i64 2)else some (.tuple [])).bind fun t71=>
(qa2 true t65).bind fun g72=>(bif g72 then qao t69 (some (.bool true)) (some t71)else some (.tuple [])).bind fun t72=>
(qao t65 (some t72) (some (.bool false))).bind fun t73=>
ifK t73 (
(ld1 v8 S64).bind fun p74=>
(bsP 5 1 1 (Ev.one (.int .u8 0)) [(0,(.int .u8 92))] p74.2).bind fun p75=>
(apP 5 1 1 p74.1 p75.1 p75.2).bind fun p76=>
(stP 1 v8 p76.1 p76.2).bind fun p77=>
(ld1 v8 p77.2).bind fun p78=>
(bsP 5 1 1 (Ev.one (.int .u8 0)) [(0,t61)] p78.2).bind fun p80=>
(apP 5 1 1 p78.1 p80.1 p80.2).bind fun p81=>
(stP 1 v8 p81.1 p81.2).bind fun p82=>
qb6 self N nk ek n v0 v1 v2 v7 v8 v9 v10 v11 p82.2) (
(ld1 v8 S64).bind fun p83=>
(bsP 5 1 1 (Ev.one (.int .u8 0)) [(0,t61)] p83.2).bind fun p85=>
(apP 5 1 1 p83.1 p85.1 p85.2).bind fun p86=>
(stP 1 v8 p86.1 p86.2).bind fun p87=>
qb6 self N nk ek n v0 v1 v2 v7 v8 v9 v10 v11 p87.2)) (
(qa5 E0 .eql 5 false true t47 (.int .u8 92)).bind fun t89=>
ifK t89 (
callP (self.f 72 [v0] p57.2) fun t93 S93=>
(bsP 5 1 1 (Ev.one (.int .u8 0)) [(0,t93)] S93).bind fun p94=>
(qc2 E0 79 9 p94.1 p94.2).bind fun p95=>
(qab E0 49 [(0,(.int .i64 1)),(1,p95.1)]).bind fun t96=>
(bsP 49 6 1 (Tr.ofListFrom .nil [(.int .i64 0),(sv []),(sv []),(.bool false),.nilslice,.nilptr] 0) [(0,t96)] p95.2).bind fun p97=>
callP (qbo E0 self v11 [p97.1] p97.2) fun t98 S98=>
qb6 self N nk ek n v0 v1 v2 v7 v8 v9 v10 v11 S98) (
(qa5 E0 .eql 5 false true t47 (.int .u8 36)).bind fun t100=>
ifK t100 (
callP (self.f 74 [v0,v1,v2] p57.2) fun t105 S105=>
(qac t105 0).bind fun t107=>
(qac t105 1).bind fun t108=>
(some (nwP 49 6 (Tr.ofListFrom .nil [(.int .i64 0),(sv []),(sv []),(.bool false),.nilslice,.nilptr] 0) S105)).bind fun p109=>
(stP 6 p109.1 t107 p109.2).bind fun p110=>
ifK t108 (
(ldA 6 p109.1 p110.2).bind fun p114=>
(bsP 49 6 1 (Tr.ofListFrom .nil [(.int .i64 0),(sv []),(sv []),(.bool false),.nilslice,.nilptr] 0) [(0,p114.1)] p114.2).bind fun p115=>
callP (qbo E0 self v11 [p115.1] p115.2) fun t116 S116=>
qb6 self N nk ek n v0 v1 v2 v7 v8 v9 v10 v11 S116) (
(ld1 v8 p110.2).bind fun p117=>
(bsP 5 1 1 (Ev.one (.int .u8 0)) [(0,t47)] p117.2).bind fun p119=>
(apP 5 1 1 p117.1 p119.1 p119.2).bind fun p120=>
(stP 1 v8 p120.1 p120.2).bind fun p121=>
qb6 self N nk ek n v0 v1 v2 v7 v8 v9 v10 v11 p121.2)) (
(qa5 E0 .eql 5 false true t47 (.int .u8 96)).bind fun t123=>
ifK t123 (
ifK t123 (
callP (self.f 25 [(.int .i64 19),p38.1] p57.2) fun t126 S126=>
qb6 self N nk ek n v0 v1 v2 v7 v8 v9 v10 v11 S126) (
(qa5 E0 .eql 5 false true t47 (.int .u8 39)).bind fun t128=>
(qa2 true t128).bind fun g130=>(bif g130 then ld1 v9 p57.2 else some (.tuple [],p57.2)).bind fun p130=>
(qa2 true t128).bind fun g131=>(bif g131 then unV .not p130.1 else some (.tuple [])).bind fun t131=>
(qao t128 (some t131) (some (.bool false))).bind fun t132=>
ifK t132 (
(qa1 v0).bind fun t135=>
(faP 0 false 1 t135).bind fun t136=>
(ld1 t136 p130.2).bind fun p137=>
(qa5 E0 .add 3 false true p38.1 (.int .i64 1)).bind fun t139=>
(qak E0 9 p137.1 (some t139) none none p137.2).bind fun p140=>
callP (self.f 73 [p140.1,(.int .u8 39)] p140.2) fun t141 S141=>
(qa5 E0 .lss 3 false true t141 (.int .i64 0)).bind fun t144=>
ifK t144 (
callP (self.f 25 [(.int .i64 19),p38.1] S141) fun t146 S146=>
(qa1 v0).bind fun t149=>
(faP 0 false 1 t149).bind fun t150=>
(ld1 t150 S146).bind fun p151=>
(qa5 E0 .add 3 false true p38.1 (.int .i64 1)).bind fun t153=>
(qa5 E0 .add 3 false true p38.1 (.int .i64 1)).bind fun t155=>
(qa5 E0 .add 3 false false t155 t141).bind fun t157=>
(qak E0 9 p151.1 (some t153) (some t157) none p151.2).bind fun p158=>
(qab E0 49 [(0,(.int .i64 1)),(1,p158.1)]).bind fun t159=>
(bsP 49 6 1 (Tr.ofListFrom .nil [(.int .i64 0),(sv []),(sv []),(.bool false),.nilslice,.nilptr] 0) [(0,t159)] p158.2).bind fun p160=>
callP (qbo E0 self v11 [p160.1] p160.2) fun t161 S161=>
(qa1 v0).bind fun t163=>
(faP 1 false 1 t163).bind fun t164=>
(ld1 t164 S161).bind fun p165=>
(qa5 E0 .add 3 false true t141 (.int .i64 2)).bind fun t167=>
(qa5 E0 .add 3 false false p165.1 t167).bind fun t168=>
(qa1 v0).bind fun t169=>
(faP 1 false 1 t169).bind fun t170=>
(stP 1 t170 t168 p165.2).bind fun p171=>
qb6 self N nk ek n v0 v1 v2 v7 v8 v9 v10 v11 p171.2) (
(qa1 v0).bind fun t174=>
(faP 0 false 1 t174).bind fun t175=>
(ld1 t175 S141).bind fun p176=>
(qa5 E0 .add 3 false true p38.1 (.int .i64 1)).bind fun t178=>
(qa5 E0 .add 3 false true p38.1 (.int .i64 1)).bind fun t180=>
(qa5 E0 .add 3 false false t180 t141).bind fun t182=>
(qak E0 9 p176.1 (some t178) (some t182) none p176.2).bind fun p183=>
(qab E0 49 [(0,(.int .i64 1)),(1,p183.1)]).bind fun t184=>
(bsP 49 6 1 (Tr.ofListFrom .nil [(.int .i64 0),(sv []),(sv []),(.bool false),.nilslice,.nilptr] 0) [(0,t184)] p183.2).bind fun p185=>
callP (qbo E0 self v11 [p185.1] p185.2) fun t186 S186=>
(qa1 v0).bind fun t188=>
(faP 1 false 1 t188).bind fun t189=>
(ld1 t189 S186).bind fun p190=>
(qa5 E0 .add 3 false true t141 (.int .i64 2)).bind fun t192=>
(qa5 E0 .add 3 false false p190.1 t192).bind fun t193=>
(qa1 v0).bind fun t194=>
(faP 1 false 1 t194).bind fun t195=>
(stP 1 t195 t193 p190.2).bind fun p196=>
qb6 self N nk ek n v0 v1 v2 v7 v8 v9 v10 v11 p196.2)) (
(qa5 E0 .eql 5 false true t47 (.int .u8 34)).bind fun t198=>
(qa2 true t198).bind fun g200=>(bif g200 then ld1 v9 p130.2 else some (.tuple [],p130.2)).bind fun p200=>
(qa2 true t198).bind fun g201=>(bif g201 then unV .not p200.1 else some (.tuple [])).bind fun t201=>
(qao t198 (some t201) (some (.bool false))).bind fun t202=>
ifK t202 (
(qa1 v0).bind fun t205=>
(faP 1 false 1 t205).bind fun t206=>
(ld1 t206 p200.2).bind fun p207=>
(qa5 E0 .add 3 false true p207.1 (.int .i64 1)).bind fun t208=>
(qa1 v0).bind fun t209=>
(faP 1 false 1 t209).bind fun t210=>
(stP 1 t210 t208 p207.2).bind fun p211=>
callP (self.f 49 [v0,(.int .i64 1),v2] p211.2) fun t214 S214=>
callP (self.f 23 [v0,(sv [34])] S214) fun t217 S217=>
(unV .not t217).bind fun t218=>
ifK t218 (
callP (self.f 25 [(.int .i64 19),p38.1] S217) fun t220 S220=>
(lnS t214 S220).bind fun p222=>
(qa5 E0 .eql 3 false true p222.1 (.int .i64 0)).bind fun t223=>
ifK t223 (
(qab E0 49 [(0,(.int .i64 1)),(3,(.bool true))]).bind fun t224=>
(bsP 49 6 1 (Tr.ofListFrom .nil [(.int .i64 0),(sv []),(sv []),(.bool false),.nilslice,.nilptr] 0) [(0,t224)] p222.2).bind fun p225=>
callP (qbo E0 self v11 [p225.1] p225.2) fun t229 S229=>
qb6 self N nk ek n v0 v1 v2 v7 v8 v9 v10 v11 S229) (
callP (qbo E0 self v11 [t214] p222.2) fun t232 S232=>
qb6 self N nk ek n v0 v1 v2 v7 v8 v9 v10 v11 S232)) (
(lnS t214 S217).bind fun p234=>
(qa5 E0 .eql 3 false true p234.1 (.int .i64 0)).bind fun t235=>
ifK t235 (
(qab E0 49 [(0,(.int .i64 1)),(3,(.bool true))]).bind fun t236=>
(bsP 49 6 1 (Tr.ofListFrom .nil [(.int .i64 0),(sv []),(sv []),(.bool false),.nilslice,.nilptr] 0) [(0,t236)] p234.2).bind fun p237=>
callP (qbo E0 self v11 [p237.1] p237.2) fun t241 S241=>
qb6 self N nk ek n v0 v1 v2 v7 v8 v9 v10 v11 S241) (
callP (qbo E0 self v11 [t214] p234.2) fun t244 S244=>
qb6 self N nk ek n v0 v1 v2 v7 v8 v9 v10 v11 S244))) (
(ld1 v8 p200.2).bind fun p245=>
(bsP 5 1 1 (Ev.one (.int .u8 0)) [(0,t47)] p245.2).bind fun p247=>
(apP 5 1 1 p245.1 p247.1 p247.2).bind fun p248=>
(stP 1 v8 p248.1 p248.2).bind fun p249=>
(qa1 v0).bind fun t251=>
(faP 1 false 1 t251).bind fun t252=>
(ld1 t252 p249.2).bind fun p253=>
(qa5 E0 .add 3 false true p253.1 (.int .i64 1)).bind fun t254=>
(qa1 v0).bind fun t255=>
(faP 1 false 1 t255).bind fun t256=>
(stP 1 t256 t254 p253.2).bind fun p257=>
qb6 self N nk ek n v0 v1 v2 v7 v8 v9 v10 v11 p257.2)))) (
(qa5 E0 .eql 5 false true t47 (.int .u8 34)).bind fun t259=>
(qa2 true t259).bind fun g261=>(bif g261 then some v1 else some (.tuple [])).bind fun t261=>
(qa2 true t259).bind fun g262=>(bif g262 then qa5 E0 .eql 96 false true t261 (.int .i64 4)else some (.tuple [])).bind fun t262=>
(qao t259 (some t262) (some (.bool false))).bind fun t263=>
ifK t263 (
callP (self.f 25 [(.int .i64 19),p38.1] p57.2) fun t266 S266=>
qb6 self N nk ek n v0 v1 v2 v7 v8 v9 v10 v11 S266) (
(qa5 E0 .eql 5 false true t47 (.int .u8 39)).bind fun t268=>
(qa2 true t268).bind fun g270=>(bif g270 then ld1 v9 p57.2 else some (.tuple [],p57.2)).bind fun p270=>
(qa2 true t268).bind fun g271=>(bif g271 then unV .not p270.1 else some (.tuple [])).bind fun t271=>
(qao t268 (some t271) (some (.bool false))).bind fun t272=>
ifK t272 (
(qa1 v0).bind fun t275=>
(faP 0 false 1 t275).bind fun t276=>
(ld1 t276 p270.2).bind fun p277=>
(qa5 E0 .add 3 false true p38.1 (.int .i64 1)).bind fun t279=>
(qak E0 9 p277.1 (some t279) none none p277.2).bind fun p280=>
callP (self.f 73 [p280.1,(.int .u8 39)] p280.2) fun t281 S281=>
(qa5 E0 .lss 3 false true t281 (.int .i64 0)).bind fun t284=>
ifK t284 (
callP (self.f 25 [(.int .i64 19),p38.1] S281) fun t286 S286=>
(qa1 v0).bind fun t289=>
(faP 0 false 1 t289).bind fun t290=>
(ld1 t290 S286).bind fun p291=>
(qa5 E0 .add 3 false true p38.1 (.int .i64 1)).bind fun t293=>
(qa5 E0 .add 3 false true p38.1 (.int .i64 1)).bind fun t295=>
(qa5 E0 .add 3 false false t295 t281).bind fun t297=>
(qak E0 9 p291.1 (some t293) (some t297) none p291.2).bind fun p298=>
(qab E0 49 [(0,(.int .i64 1)),(1,p298.1)]).bind fun t299=>
(bsP 49 6 1 (Tr.ofListFrom .nil [(.int .i64 0),(sv []),(sv []),(.bool false),.nilslice,.nilptr] 0) [(0,t299)] p298.2).bind fun p300=>
callP (qbo E0 self v11 [p300.1] p300.2) fun t301 S301=>
(qa1 v0).bind fun t303=>
(faP 1 false 1 t303).bind fun t304=>
(ld1 t304 S301).bind fun p305=>
(qa5 E0 .add 3 false true t281 (.int .i64 2)).bind fun t307=>
(qa5 E0 .add 3 false false p305.1 t307).bind fun t308=>
(qa1 v0).bind fun t309=>
(faP 1 false 1 t309).bind fun t310=>
(stP 1 t310 t308 p305.2).bind fun p311=>
qb6 self N nk ek n v0 v1 v2 v7 v8 v9 v10 v11 p311.2) (
(qa1 v0).bind fun t314=>
(faP 0 false 1 t314).bind fun t315=>
(ld1 t315 S281).bind fun p316=>
(qa5 E0 .add 3 false true p38.1 (.int .i64 1)).bind fun t318=>
(qa5 E0 .add 3 false true p38.1 (.int .i64 1)).bind fun t320=>
(qa5 E0 .add 3 false false t320 t281).bind fun t322=>
(qak E0 9 p316.1 (some t318) (some t322) none p316.2).bind fun p323=>
(qab E0 49 [(0,(.int .i64 1)),(1,p323.1)]).bind fun t324=>
(bsP 49 6 1 (Tr.ofListFrom .nil [(.int .i64 0),(sv []),(sv []),(.bool false),.nilslice,.nilptr] 0) [(0,t324)] p323.2).bind fun p325=>
callP (qbo E0 self v11 [p325.1] p325.2) fun t326 S326=>
(qa1 v0).bind fun t328=>
(faP 1 false 1 t328).bind fun t329=>
(ld1 t329 S326).bind fun p330=>
(qa5 E0 .add 3 false true t281 (.int .i64 2)).bind fun t332=>
(qa5 E0 .add 3 false false p330.1 t332).bind fun t333=>
(qa1 v0).bind fun t334=>
(faP 1 false 1 t334).bind fun t335=>
(stP 1 t335 t333 p330.2).bind fun p336=>
qb6 self N nk ek n v0 v1 v2 v7 v8 v9 v10 v11 p336.2)) (
(qa5 E0 .eql 5 false true t47 (.int .u8 34)).bind fun t338=>
(qa2 true t338).bind fun g340=>(bif g340 then ld1 v9 p270.2 else some (.tuple [],p270.2)).bind fun p340=>
(qa2 true t338).bind fun g341=>(bif g341 then unV .not p340.1 else some (.tuple [])).bind fun t341=>
(qao t338 (some t341) (some (.bool false))).bind fun t342=>
ifK t342 (
(qa1 v0).bind fun t345=>
(faP 1 false 1 t345).bind fun t346=>
(ld1 t346 p340.2).bind fun p347=>
(qa5 E0 .add 3 false true p347.1 (.int .i64 1)).bind fun t348=>
(qa1 v0).bind fun t349=>
(faP 1 false 1 t349).bind fun t350=>
(stP 1 t350 t348 p347.2).bind fun p351=>
callP (self.f 49 [v0,(.int .i64 1),v2] p351.2) fun t354 S354=>
callP (self.f 23 [v0,(sv [34])] S354) fun t357 S357=>
(unV .not t357).bind fun t358=>
ifK t358 (
callP (self.f 25 [(.int .i64 19),p38.1] S357) fun t360 S360=>
(lnS t354 S360).bind fun p362=>
(qa5 E0 .eql 3 false true p362.1 (.int .i64 0)).bind fun t363=>
ifK t363 (
(qab E0 49 [(0,(.int .i64 1)),(3,(.bool true))]).bind fun t364=>
(bsP 49 6 1 (Tr.ofListFrom .nil [(.int .i64 0),(sv []),(sv []),(.bool false),.nilslice,.nilptr] 0) [(0,t364)] p362.2).bind fun p365=>
callP (qbo E0 self v11 [p365.1] p365.2) fun t369 S369=>
qb6 self N nk ek n v0 v1 v2 v7 v8 v9 v10 v11 S369) (
callP (qbo E0 self v11 [t354] p362.2) fun t372 S372=>
qb6 self N nk ek n v0 v1 v2 v7 v8 v9 v10 v11 S372)) (
(lnS t354 S357).bind fun p374=>
(qa5 E0 .eql 3 false true p374.1 (.int .i64 0)).bind fun t375=>
ifK t375 (
(qab E0 49 [(0,(.int .i64 1)),(3,(.bool true))]).bind fun t376=>
(bsP 49 6 1 (Tr.ofListFrom .nil [(.int .i64 0),(sv []),(sv []),(.bool false),.nilslice,.nilptr] 0) [(0,t376)] p374.2).bind fun p377=>
callP (qbo E0 self v11 [p377.1] p377.2) fun t381 S381=>
qb6 self N nk ek n v0 v1 v2 v7 v8 v9 v10 v11 S381) (
callP (qbo E0 self v11 [t354] p374.2) fun t384 S384=>
qb6 self N nk ek n v0 v1 v2 v7 v8 v9 v10 v11 S384))) (
(ld1 v8 p340.2).bind fun p385=>
(bsP 5 1 1 (Ev.one (.int .u8 0)) [(0,t47)] p385.2).bind fun p387=>
(apP 5 1 1 p385.1 p387.1 p387.2).bind fun p388=>
(stP 1 v8 p388.1 p388.2).bind fun p389=>
(qa1 v0).bind fun t391=>
(faP 1 false 1 t391).bind fun t392=>
(ld1 t392 p389.2).bind fun p393=>
(qa5 E0 .add 3 false true p393.1 (.int .i64 1)).bind fun t394=>
(qa1 v0).bind fun t395=>
(faP 1 false 1 t395).bind fun t396=>
(stP 1 t396 t394 p393.2).bind fun p397=>
qb6 self N nk ek n v0 v1 v2 v7 v8 v9 v10 v11 p397.2))))))))) (
ek 0 (fr 209 [(7,v7),(10,v10)]) S34):=by kernel_rfl
def F49 (self:EV) (N:Nat) (x0 x1 x2:V) (S:St):Rs:=qdg E0 self N Tryd.f49 B49 [x0,x1,x2] S
theorem F49_eq (self:EV) (N:Nat) (x0 x1 x2:V) (S:St):F49 self N x0 x1 x2 S =
(some (nwP 37 1 (Ev.one .nilslice) S)).bind fun p1=>
(some (nwP 79 1 (Ev.one .nilslice) p1.2)).bind fun p2=>
callP (self.f 68 [x1] p2.2) fun t4 S4=>
(some (nwP 4 1 (Ev.one (.bool false)) S4)).bind fun p5=>
(stP 1 p5.1 t4 p5.2).bind fun p6=>
(some (nwP 1 1 (Ev.one .nilfn) p6.2)).bind fun p8=>
(stP 1 p8.1 (.fn (.func 69) [] [p2.1,p5.1,p1.1]) p8.2).bind fun p9=>
qb6 self N (qle self N (qbu E0 self Tryd.f49) qav) (exB 0 (qle self N (qbu E0 self Tryd.f49) qav) qav) N x0 x1 x2 p1.1 p2.1 p5.1 p8.1 (.fn (.func 70) [] [p8.1,p1.1]) p9.2:=by kernel_rfl
end
noncomputable section
def C19:Code:=Tryd.f19.body.getD .skip
def B19:D:=(qaz C19 [[],[],[],[],[],[],[],[0,32,33,34],[],[0],[],[],[],[0,0],[2],[],[]]).1
def RL19:List Nat:=cellsOf Tryd.f19.results.toList
def R19_29 (self:EV) (N:Nat) (nk:Ac->St->Rs) (ek:Nat->Ac->St->Rs) (a:Ac) (S:St):Rs:=qb8 [0] a fun a=>dr E0 self RL19 N (B19.r.r.r.r).r (mkK E0 self Tryd.f19 nk ek) a S
theorem R19_29_eq (self:EV) (N:Nat) (nk:Ac->St->Rs) (ek:Nat->Ac->St->Rs) ( v0:V) (S:St):R19_29 self N nk ek (fr 45 [(0,v0)]) S =
(qa1 v0).bind fun t31=>
(faP 3 false 1 t31).bind fun t32=>
(stP 1 t32 .nilslice S).bind fun p33=>
some (.ret (.bool true),p33.2):=by kernel_rfl
def L19_41 (self:EV) (N:Nat) (nk:Ac->St->Rs) (ek:Nat->Ac->St->Rs) (n:Nat) ( v0 v32 v33 v34:V) (S:St):Rs:=qdq [0,32,33,34] (dr E0 self RL19 N (B19.r.r.r.r.l.r.l.l)) (mkK E0 self Tryd.f19 nk ek) n (fr 45 [(0,v0),(32,v32),(33,v33),(34,v34)]) S
theorem L19_41_eq (self:EV) (N:Nat) (nk:Ac->St->Rs) (ek:Nat->Ac->St->Rs) (n:Nat) ( v0 v32 v33 v34:V) (S:St):L19_41 self N nk ek (n+1) v0 v32 v33 v34 S =
(qa5 E0 .lss 3 false false v34 v33).bind fun t42=>
ifK t42 (
(ixP 2 v32 v34).bind fun t43=>
(ldA 2 t43 S).bind fun p44=>
(some (nwP 89 2 (Tr.ofListFrom .nil [(.int .i64 0),(sv [])] 0) p44.2)).bind fun p45=>
(stP 2 p45.1 p44.1 p45.2).bind fun p46=>
(ldA 2 p45.1 p46.2).bind fun p48=>
callP (self.f 45 [v0,p48.1] p48.2) fun t49 S49=>
(qa5 E0 .add 3 false true v34 (.int .i64 1)).bind fun t50=>
L19_41 self N nk ek n v0 v32 v33 t50 S49) (
ek 0 (fr 45 [(0,v0)]) S):=by kernel_rfl
def F19 (self:EV) (N:Nat) (x0:V) (S:St):Rs:=qdg E0 self N Tryd.f19 B19 [x0] S
theorem F19_eq (self:EV) (N:Nat) (x0:V) (S:St):F19 self N x0 S =
callP (self.f 44 [x0,(sv [10])] S) fun t2 S2=>
(unV .not t2).bind fun t3=>
ifK t3 (
some (.ret (.bool false),S2)) (
(qa1 x0).bind fun t7=>
(faP 2 false 1 t7).bind fun t8=>
(ld1 t8 (onS S2)).bind fun p9=>
(qa1 x0).bind fun t11=>
(faP 1 false 1 t11).bind fun t12=>
(ld1 t12 (onS p9.2)).bind fun p13=>
(qab E0 39 [(0,(.int .i64 2)),(4,p13.1)]).bind fun t14=>
(bsP 39 5 1 (Tr.ofListFrom .nil [(.int .i64 0),(sv []),.nilslice,(.bool false),(.int .i64 0)] 0) [(0,t14)] (onS p13.2)).bind fun p15=>
(apP 39 5 64 p9.1 p15.1 (onS p15.2)).bind fun p16=>
(qa1 x0).bind fun t17=>
(faP 2 false 1 t17).bind fun t18=>
(stP 1 t18 p16.1 (onS p16.2)).bind fun p19=>
qh7 [(4,[8,10])] S2 [[],[],[],[],p9.2.log,[],[],[],p13.2.log,[],p15.2.log,p16.2.log,[],[],p19.2.log] p19.2 fun S20=>
(qa1 x0).bind fun t22=>
(faP 1 false 1 t22).bind fun t23=>
(ld1 t23 S20).bind fun p24=>
(qa5 E0 .add 3 false true p24.1 (.int .i64 1)).bind fun t25=>
(qa1 x0).bind fun t26=>
(faP 1 false 1 t26).bind fun t27=>
(stP 1 t27 t25 p24.2).bind fun p28=>
(qa1 x0).bind fun t36=>
(faP 3 false 1 t36).bind fun t37=>
(ld1 t37 p28.2).bind fun p38=>
(lnS p38.1 p38.2).bind fun p39=>
L19_41 self N (R19_29 self N (qbu E0 self Tryd.f19) qav) (exB 0 (R19_29 self N (qbu E0 self Tryd.f19) qav) qav) N x0 p38.1 p39.1 (.int .i64 0) p39.2):=by kernel_rfl
def C20:Code:=Tryd.f20.body.getD .skip
def B20:D:=(qaz C20 [[],[],[],[],[],[],[]]).1
def F20 (self:EV) (N:Nat) (x0:V) (S:St):Rs:=qdg E0 self N Tryd.f20 B20 [x0] S
theorem F20_eq (self:EV) (N:Nat) (x0:V) (S:St):F20 self N x0 S =
callP (self.f 44 [x0,(sv [35])] S) fun t2 S2=>
(unV .not t2).bind fun t3=>
ifK t3 (
some (.ret (.bool false),S2)) (
(qa1 x0).bind fun t6=>
(faP 0 false 1 t6).bind fun t7=>
(ld1 t7 (onS S2)).bind fun p8=>
(qa1 x0).bind fun t10=>
(faP 1 false 1 t10).bind fun t11=>
(ld1 t11 (onS p8.2)).bind fun p12=>
(qak E0 9 p8.1 (some p12.1) none none (onS p12.2)).bind fun p13=>
qlm (qas E0 (B20.r.r.l).ops) S2 9 [[],[],[],p8.2.log,[],[],[],p12.2.log,p13.2.log] (self.f 46 [p13.1,(sv [10])] (onS p13.2)) fun t14 S14=>
(qac t14 0).bind fun t16=>
(qac t14 1).bind fun t17=>
(qac t14 2).bind fun t18=>
qh7 [(3,[7])] S2 [[],[],[],p8.2.log,[],[],[],p12.2.log,p13.2.log,S14.log,[],[],[],[],[],[],[]] (onS S14) fun S22=>
(qa1 x0).bind fun t24=>
(faP 1 false 1 t24).bind fun t25=>
(ld1 t25 S22).bind fun p26=>
(qbw t16 p26.2).bind fun p28=>
(qa5 E0 .add 3 false false p26.1 p28.1).bind fun t29=>
(qa1 x0).bind fun t30=>
(faP 1 false 1 t30).bind fun t31=>
(stP 1 t31 t29 p28.2).bind fun p32=>
some (.ret (.bool true),p32.2)):=by kernel_rfl
def C21:Code:=Tryd.f21.body.getD .skip
def B21:D:=(qaz C21 [[],[],[],[],[0,0,3],[2],[],[],[],[],[],[],[]]).1
def RL21:List Nat:=cellsOf Tryd.f21.results.toList
def R21_6 (self:EV) (N:Nat) (nk:Ac->St->Rs) (ek:Nat->Ac->St->Rs) (a:Ac) (S:St):Rs:=qb8 [0,3] a fun a=>dr E0 self RL21 N (B21.r.r).r (mkK E0 self Tryd.f21 nk ek) a S
theorem R21_6_eq (self:EV) (N:Nat) (nk:Ac->St->Rs) (ek:Nat->Ac->St->Rs) ( v0 v3:V) (S:St):R21_6 self N nk ek (fr 88 [(0,v0),(3,v3)]) S =
callP (self.f 48 [] S) fun t7 S7=>
callP (self.f 47 [t7,(.fn (.func 23) [v0] [])] S7) fun t10 S10=>
(unV .not t10).bind fun t11=>
ifK t11 (
callP (self.f 44 [v0,(sv [38])] S10) fun t13 S13=>
ifK t13 (
callP (self.f 25 [(.int .i64 19),v3] S13) fun t15 S15=>
some (.ret (.bool false),S15)) (
some (.ret (.bool false),S13))) (
(qa1 v0).bind fun t20=>
(faP 2 false 1 t20).bind fun t21=>
(ld1 t21 (onS S10)).bind fun p22=>
(qa1 v0).bind fun t24=>
(faP 0 false 1 t24).bind fun t25=>
(ld1 t25 (onS p22.2)).bind fun p26=>
(qa1 v0).bind fun t29=>
(faP 1 false 1 t29).bind fun t30=>
(ld1 t30 (onS p26.2)).bind fun p31=>
(qak E0 9 p26.1 (some v3) (some p31.1) none (onS p31.2)).bind fun p32=>
(qab E0 39 [(0,(.int .i64 1)),(1,p32.1),(4,v3)]).bind fun t34=>
(bsP 39 5 1 (Tr.ofListFrom .nil [(.int .i64 0),(sv []),.nilslice,(.bool false),(.int .i64 0)] 0) [(0,t34)] (onS p32.2)).bind fun p35=>
(apP 39 5 64 p22.1 p35.1 (onS p35.2)).bind fun p36=>
(qa1 v0).bind fun t37=>
(faP 2 false 1 t37).bind fun t38=>
(stP 1 t38 p36.1 (onS p36.2)).bind fun p39=>
qh7 [(4,[8,13,14,17]),(8,[13])] S10 [[],[],[],[],p22.2.log,[],[],[],p26.2.log,[],[],[],[],p31.2.log,p32.2.log,[],[],p35.2.log,p36.2.log,[],[],p39.2.log] p39.2 fun S40=>
some (.ret (.bool true),S40)):=by kernel_rfl
def F21 (self:EV) (N:Nat) (x0:V) (S:St):Rs:=qdg E0 self N Tryd.f21 B21 [x0] S
theorem F21_eq (self:EV) (N:Nat) (x0:V) (S:St):F21 self N x0 S =
(qa1 x0).bind fun t2=>
(faP 1 false 1 t2).bind fun t3=>
(ld1 t3 S).bind fun p4=>
(qa1 x0).bind fun t43=>
(faP 0 false 1 t43).bind fun t44=>
(ld1 t44 p4.2).bind fun p45=>
(ixS p45.1 p4.1).bind fun t47=>
(qa5 E0 .geq 5 false true t47 (.int .u8 48)).bind fun t50=>
(qa2 true t50).bind fun g52=>(bif g52 then some t47 else some (.tuple [])).bind fun t52=>
(qa2 true t50).bind fun g53=>(bif g53 then qa5 E0 .leq 5 false true t52 (.int .u8 50)else some (.tuple [])).bind fun t53=>
(qao t50 (some t53) (some (.bool false))).bind fun t54=>
(qa2 true t54).bind fun g56=>(bif g56 then some p4.1 else some (.tuple [])).bind fun t56=>
(qa2 true t54).bind fun g57=>(bif g57 then qa5 E0 .add 3 false true t56 (.int .i64 1)else some (.tuple [])).bind fun t57=>
(qa2 true t54).bind fun g58=>(bif g58 then some x0 else some (.tuple [])).bind fun t58=>
(qa2 true t54).bind fun g59=>(bif g59 then qa1 t58 else some (.tuple [])).bind fun t59=>
(qa2 true t54).bind fun g60=>(bif g60 then faP 0 false 1 t59 else some (.tuple [])).bind fun t60=>
(qa2 true t54).bind fun g61=>(bif g61 then ld1 t60 p45.2 else some (.tuple [],p45.2)).bind fun p61=>
(qa2 true t54).bind fun g62=>(bif g62 then qbw p61.1 p61.2 else some (.tuple [],p61.2)).bind fun p62=>
(qa2 true t54).bind fun g63=>(bif g63 then qa5 E0 .lss 3 false false t57 p62.1 else some (.tuple [])).bind fun t63=>
(qao t54 (some t63) (some (.bool false))).bind fun t64=>
(qa2 true t64).bind fun g66=>(bif g66 then some x0 else some (.tuple [])).bind fun t66=>
(qa2 true t64).bind fun g67=>(bif g67 then qa1 t66 else some (.tuple [])).bind fun t67=>
(qa2 true t64).bind fun g68=>(bif g68 then faP 0 false 1 t67 else some (.tuple [])).bind fun t68=>
(qa2 true t64).bind fun g69=>(bif g69 then ld1 t68 p62.2 else some (.tuple [],p62.2)).bind fun p69=>
(qa2 true t64).bind fun g70=>(bif g70 then some p4.1 else some (.tuple [])).bind fun t70=>
(qa2 true t64).bind fun g71=>(bif g71 then qa5 E0 .add 3 false true t70 (.int .i64 1)else some (.tuple [])).bind fun t71=>
(qa2 true t64).bind fun g72=>(bif g72 then ixS p69.1 t71 else some (.tuple [])).bind fun t72=>
(qa2 true t64).bind fun g73=>(bif g73 then qa5 E0 .eql 5 false true t72 (.int .u8 60)else some (.tuple [])).bind fun t73=>
(qa2 true t64).bind fun g74=>(bif g74 then some t73 else some (.tuple [])).bind fun t74=>
(qa2 false t74).bind fun g75=>(bif g75 then some x0 else some (.tuple [])).bind fun t75=>
(qa2 false t74).bind fun g76=>(bif g76 then qa1 t75 else some (.tuple [])).bind fun t76=>
(qa2 false t74).bind fun g77=>(bif g77 then faP 0 false 1 t76 else some (.tuple [])).bind fun t77=>
(qa2 false t74).bind fun g78=>(bif g78 then ld1 t77 p69.2 else some (.tuple [],p69.2)).bind fun p78=>
(qa2 false t74).bind fun g79=>(bif g79 then some p4.1 else some (.tuple [])).bind fun t79=>
(qa2 false t74).bind fun g80=>(bif g80 then qa5 E0 .add 3 false true t79 (.int .i64 1)else some (.tuple [])).bind fun t80=>
(qa2 false t74).bind fun g81=>(bif g81 then ixS p78.1 t80 else some (.tuple [])).bind fun t81=>
(qa2 false t74).bind fun g82=>(bif g82 then qa5 E0 .eql 5 false true t81 (.int .u8 62)else some (.tuple [])).bind fun t82=>
(qa2 true t64).bind fun g83=>(bif g83 then qao t74 (some (.bool true)) (some t82)else some (.tuple [])).bind fun t83=>
(qao t64 (some t83) (some (.bool false))).bind fun t84=>
ifK t84 (
(qa1 x0).bind fun t86=>
(faP 1 false 1 t86).bind fun t87=>
(ld1 t87 p78.2).bind fun p88=>
(qa5 E0 .add 3 false true p88.1 (.int .i64 1)).bind fun t89=>
(qa1 x0).bind fun t90=>
(faP 1 false 1 t90).bind fun t91=>
(stP 1 t91 t89 p88.2).bind fun p92=>
R21_6 self N (qbu E0 self Tryd.f21) qav (fr 88 [(0,x0),(3,p4.1)]) p92.2) (
R21_6 self N (qbu E0 self Tryd.f21) qav (fr 88 [(0,x0),(3,p4.1)]) p78.2):=by kernel_rfl
end
noncomputable section
def C22:Code:=Tryd.f22.body.getD .skip
def B22:D:=(qaz C22 [[],[],[],[],[],[],[],[],[],[],[],[0,3,7,8,65,66,67],[],[0,7,8],[],[],[],[],[],[],[0,0,7,8],[2],[],[],[]]).1
def RL22:List Nat:=cellsOf Tryd.f22.results.toList
def qlc (self:EV) (N:Nat) (nk:Ac->St->Rs) (ek:Nat->Ac->St->Rs) (a:Ac) (S:St):Rs:=qb8 [0,7,8] a fun a=>dr E0 self RL22 N (B22.r.r.r.r.r.r.r.r).r (mkK E0 self Tryd.f22 nk ek) a S
theorem R22_65_eq (self:EV) (N:Nat) (nk:Ac->St->Rs) (ek:Nat->Ac->St->Rs) ( v0 v7 v8:V) (S:St):qlc self N nk ek (fr 120 [(0,v0),(7,v7),(8,v8)]) S =
(qa1 v0).bind fun t68=>
(faP 3 false 1 t68).bind fun t69=>
(ld1 t69 (onS S)).bind fun p70=>
(qa1 v0).bind fun t72=>
(faP 2 false 1 t72).bind fun t73=>
(ld1 t73 (onS p70.2)).bind fun p74=>
(lnS p74.1 (onS p74.2)).bind fun p75=>
(qab E0 89 [(0,p75.1),(1,v8)]).bind fun t77=>
(bsP 89 2 1 (Tr.ofListFrom .nil [(.int .i64 0),(sv [])] 0) [(0,t77)] (onS p75.2)).bind fun p78=>
(apP 89 2 24 p70.1 p78.1 (onS p78.2)).bind fun p79=>
(qa1 v0).bind fun t80=>
(faP 3 false 1 t80).bind fun t81=>
(stP 1 t81 p79.1 (onS p79.2)).bind fun p82=>
qh7 [(4,[8,9,12])] S [[],[],[],[],p70.2.log,[],[],[],p74.2.log,p75.2.log,[],[],p78.2.log,p79.2.log,[],[],p82.2.log] p82.2 fun S83=>
(qa1 v0).bind fun t86=>
(faP 2 false 1 t86).bind fun t87=>
(ld1 t87 (onS S83)).bind fun p88=>
(ldA 5 v7 (onS p88.2)).bind fun p89=>
(bsP 39 5 1 (Tr.ofListFrom .nil [(.int .i64 0),(sv []),.nilslice,(.bool false),(.int .i64 0)] 0) [(0,p89.1)] (onS p89.2)).bind fun p90=>
(apP 39 5 64 p88.1 p90.1 (onS p90.2)).bind fun p91=>
(qa1 v0).bind fun t92=>
(faP 2 false 1 t92).bind fun t93=>
(stP 1 t93 p91.1 (onS p91.2)).bind fun p94=>
qh7 [(4,[5,6])] S83 [[],[],[],[],p88.2.log,p89.2.log,p90.2.log,p91.2.log,[],[],p94.2.log] p94.2 fun S95=>
some (.ret (.bool true),S95):=by kernel_rfl
def qe2 (self:EV) (N:Nat) (nk:Ac->St->Rs) (ek:Nat->Ac->St->Rs) (n:Nat) ( v0 v3 v7 v8 v65 v66 v67:V) (S:St):Rs:=qdq [0,3,7,8,65,66,67] (dr E0 self RL22 N (B22.r.r.r.r.r.r.r.r.l.r.l.l)) (mkK E0 self Tryd.f22 nk ek) n (fr 120 [(0,v0),(3,v3),(7,v7),(8,v8),(65,v65),(66,v66),(67,v67)]) S
theorem L22_101_eq (self:EV) (N:Nat) (nk:Ac->St->Rs) (ek:Nat->Ac->St->Rs) (n:Nat) ( v0 v3 v7 v8 v65 v66 v67:V) (S:St):qe2 self N nk ek (n+1) v0 v3 v7 v8 v65 v66 v67 S =
(qa5 E0 .lss 3 false false v67 v66).bind fun t102=>
ifK t102 (
(ixP 6 v65 v67).bind fun t103=>
(ldA 6 t103 S).bind fun p104=>
(some (nwP 49 6 (Tr.ofListFrom .nil [(.int .i64 0),(sv []),(sv []),(.bool false),.nilslice,.nilptr] 0) p104.2)).bind fun p105=>
(stP 6 p105.1 p104.1 p105.2).bind fun p106=>
(faP 0 false 1 p105.1).bind fun t107=>
(ld1 t107 p106.2).bind fun p108=>
(qa5 E0 .neq 3 false true p108.1 (.int .i64 0)).bind fun t109=>
(qa2 true t109).bind fun g111=>(bif g111 then faP 0 false 1 p105.1 else some (.tuple [])).bind fun t111=>
(qa2 true t109).bind fun g112=>(bif g112 then ld1 t111 p108.2 else some (.tuple [],p108.2)).bind fun p112=>
(qa2 true t109).bind fun g113=>(bif g113 then qa5 E0 .neq 3 false true p112.1 (.int .i64 1)else some (.tuple [])).bind fun t113=>
(qao t109 (some t113) (some (.bool false))).bind fun t114=>
ifK t114 (
callP (self.f 25 [(.int .i64 19),v3] p112.2) fun t116 S116=>
(faP 1 false 1 p105.1).bind fun t118=>
(ld1 t118 S116).bind fun p119=>
(qa5 E0 .add 9 false false v8 p119.1).bind fun t120=>
(faP 3 false 1 v7).bind fun t122=>
(ld1 t122 p119.2).bind fun p123=>
(qa2 false p123.1).bind fun g125=>(bif g125 then faP 0 false 1 p105.1 else some (.tuple [])).bind fun t125=>
(qa2 false p123.1).bind fun g126=>(bif g126 then ld1 t125 p123.2 else some (.tuple [],p123.2)).bind fun p126=>
(qa2 false p123.1).bind fun g127=>(bif g127 then qa5 E0 .eql 3 false true p126.1 (.int .i64 1)else some (.tuple [])).bind fun t127=>
(qao p123.1 (some (.bool true)) (some t127)).bind fun t128=>
(faP 3 false 1 v7).bind fun t129=>
(stP 1 t129 t128 p126.2).bind fun p130=>
(qa5 E0 .add 3 false true v67 (.int .i64 1)).bind fun t131=>
qe2 self N nk ek n v0 v3 v7 t120 v65 v66 t131 p130.2) (
(faP 1 false 1 p105.1).bind fun t134=>
(ld1 t134 p112.2).bind fun p135=>
(qa5 E0 .add 9 false false v8 p135.1).bind fun t136=>
(faP 3 false 1 v7).bind fun t138=>
(ld1 t138 p135.2).bind fun p139=>
(qa2 false p139.1).bind fun g141=>(bif g141 then faP 0 false 1 p105.1 else some (.tuple [])).bind fun t141=>
(qa2 false p139.1).bind fun g142=>(bif g142 then ld1 t141 p139.2 else some (.tuple [],p139.2)).bind fun p142=>
(qa2 false p139.1).bind fun g143=>(bif g143 then qa5 E0 .eql 3 false true p142.1 (.int .i64 1)else some (.tuple [])).bind fun t143=>
(qao p139.1 (some (.bool true)) (some t143)).bind fun t144=>
(faP 3 false 1 v7).bind fun t145=>
(stP 1 t145 t144 p142.2).bind fun p146=>
(qa5 E0 .add 3 false true v67 (.int .i64 1)).bind fun t147=>
qe2 self N nk ek n v0 v3 v7 t136 v65 v66 t147 p146.2)) (
ek 0 (fr 120 [(0,v0),(7,v7),(8,v8)]) S):=by kernel_rfl
def F22 (self:EV) (N:Nat) (x0:V) (S:St):Rs:=qdg E0 self N Tryd.f22 B22 [x0] S
theorem F22_eq (self:EV) (N:Nat) (x0:V) (S:St):F22 self N x0 S =
(qa1 x0).bind fun t2=>
(faP 1 false 1 t2).bind fun t3=>
(ld1 t3 S).bind fun p4=>
(qa1 x0).bind fun t7=>
(faP 2 false 1 t7).bind fun t8=>
(ld1 t8 p4.2).bind fun p9=>
(lnS p9.1 p9.2).bind fun p10=>
(qa5 E0 .gtr 3 false true p10.1 (.int .i64 0)).bind fun t13=>
(qa2 true t13).bind fun g15=>(bif g15 then some x0 else some (.tuple [])).bind fun t15=>
(qa2 true t13).bind fun g16=>(bif g16 then qa1 t15 else some (.tuple [])).bind fun t16=>
(qa2 true t13).bind fun g17=>(bif g17 then faP 2 false 1 t16 else some (.tuple [])).bind fun t17=>
(qa2 true t13).bind fun g18=>(bif g18 then ld1 t17 p10.2 else some (.tuple [],p10.2)).bind fun p18=>
(qa2 true t13).bind fun g19=>(bif g19 then some p10.1 else some (.tuple [])).bind fun t19=>
(qa2 true t13).bind fun g20=>(bif g20 then qa5 E0 .sub 3 false true t19 (.int .i64 1)else some (.tuple [])).bind fun t20=>
(qa2 true t13).bind fun g21=>(bif g21 then ixP 5 p18.1 t20 else some (.tuple [])).bind fun t21=>
(qa2 true t13).bind fun g22=>(bif g22 then faP 0 false 1 t21 else some (.tuple [])).bind fun t22=>
(qa2 true t13).bind fun g23=>(bif g23 then ld1 t22 p18.2 else some (.tuple [],p18.2)).bind fun p23=>
(qa2 true t13).bind fun g24=>(bif g24 then qa5 E0 .eql 3 false true p23.1 (.int .i64 1)else some (.tuple [])).bind fun t24=>
(qao t13 (some t24) (some (.bool false))).bind fun t25=>
(qa2 true t25).bind fun g27=>(bif g27 then some x0 else some (.tuple [])).bind fun t27=>
(qa2 true t25).bind fun g28=>(bif g28 then qa1 t27 else some (.tuple [])).bind fun t28=>
(qa2 true t25).bind fun g29=>(bif g29 then faP 2 false 1 t28 else some (.tuple [])).bind fun t29=>
(qa2 true t25).bind fun g30=>(bif g30 then ld1 t29 p23.2 else some (.tuple [],p23.2)).bind fun p30=>
(qa2 true t25).bind fun g31=>(bif g31 then some p10.1 else some (.tuple [])).bind fun t31=>
(qa2 true t25).bind fun g32=>(bif g32 then qa5 E0 .sub 3 false true t31 (.int .i64 1)else some (.tuple [])).bind fun t32=>
(qa2 true t25).bind fun g33=>(bif g33 then ixP 5 p30.1 t32 else some (.tuple [])).bind fun t33=>
(qa2 true t25).bind fun g34=>(bif g34 then faP 1 false 1 t33 else some (.tuple [])).bind fun t34=>
(qa2 true t25).bind fun g35=>(bif g35 then ld1 t34 p30.2 else some (.tuple [],p30.2)).bind fun p35=>
(qa2 true t25).bind fun g36=>callP (bif g36 then self.f 13 [p35.1,(sv [60,60])] p35.2 else some (.ret (.tuple []),p35.2)) fun t36 S36=>
(qao t25 (some t36) (some (.bool false))).bind fun t37=>
callP (self.f 49 [x0,(.int .i64 0),(.int .i64 0)] S36) fun t40 S40=>
(qab E0 39 [(0,(.int .i64 0)),(2,t40),(4,p4.1)]).bind fun t42=>
(some (nwP 39 5 (Tr.ofListFrom .nil [(.int .i64 0),(sv []),.nilslice,(.bool false),(.int .i64 0)] 0) S40)).bind fun p43=>
(stP 5 p43.1 t42 p43.2).bind fun p44=>
(qa1 x0).bind fun t47=>
(faP 2 false 1 t47).bind fun t48=>
(ld1 t48 (onS p44.2)).bind fun p49=>
(ldA 5 p43.1 (onS p49.2)).bind fun p50=>
(bsP 39 5 1 (Tr.ofListFrom .nil [(.int .i64 0),(sv []),.nilslice,(.bool false),(.int .i64 0)] 0) [(0,p50.1)] (onS p50.2)).bind fun p51=>
(apP 39 5 64 p49.1 p51.1 (onS p51.2)).bind fun p52=>
(qa1 x0).bind fun t53=>
(faP 2 false 1 t53).bind fun t54=>
(stP 1 t54 p52.1 (onS p52.2)).bind fun p55=>
qh7 [(4,[5,6])] p44.2 [[],[],[],[],p49.2.log,p50.2.log,p51.2.log,p52.2.log,[],[],p55.2.log] p55.2 fun S56=>
(unV .not t37).bind fun t58=>
ifK t58 (
some (.ret (.bool true),S56)) (
(qab E0 39 [(0,(.int .i64 3)),(4,p4.1)]).bind fun t61=>
(some (nwP 39 5 (Tr.ofListFrom .nil [(.int .i64 0),(sv []),.nilslice,(.bool false),(.int .i64 0)] 0) S56)).bind fun p62=>
(stP 5 p62.1 t61 p62.2).bind fun p63=>
(faP 2 false 1 p43.1).bind fun t97=>
(ld1 t97 p63.2).bind fun p98=>
(lnS p98.1 p98.2).bind fun p99=>
qe2 self N (qlc self N (qbu E0 self Tryd.f22) qav) (exB 0 (qlc self N (qbu E0 self Tryd.f22) qav) qav) N x0 p4.1 p62.1 (sv []) p98.1 p99.1 (.int .i64 0) p99.2):=by kernel_rfl
end
noncomputable section
theorem E18r (self:EV) (fn:Func) (a:Ac) (ds:List AD) (x0 x1:V) (S:St):lvK E0 self fn a (ad 18 [] [x0,x1]::ds) .ret S =
(qa5 E0 .neq 20 false true .niliface .niliface).bind fun t3=>
(ifK t3 (
(qlg E0 51 true .niliface).bind fun t5=>
(qac t5 0).bind fun t7=>
(qac t5 1).bind fun t8=>
(unV .not t8).bind fun t12=>
(ifK t12 (
callE (qkc .niliface S) fun t14 S14=>
(stP 1 x0 .nilslice S14).bind fun p17=>
(stP 1 x1 (.iface 51 t7) p17.2).bind fun p18=>
lvK E0 self fn a ds .ret p18.2) (
(stP 1 x0 .nilslice S).bind fun p21=>
(stP 1 x1 (.iface 51 t7) p21.2).bind fun p22=>
lvK E0 self fn a ds .ret p22.2))) (
lvK E0 self fn a ds .ret S)):=by kernel_rfl
theorem E18p (self:EV) (fn:Func) (a:Ac) (ds:List AD) (x0 x1:V) (v:V) (S:St):lvK E0 self fn a (ad 18 [] [x0,x1]::ds) (.pan v) S =
(qa5 E0 .neq 20 false true v .niliface).bind fun t3=>
(ifK t3 (
(qlg E0 51 true v).bind fun t5=>
(qac t5 0).bind fun t7=>
(qac t5 1).bind fun t8=>
(unV .not t8).bind fun t12=>
(ifK t12 (
callE (qkc v S) fun t14 S14=>
(stP 1 x0 .nilslice S14).bind fun p17=>
(stP 1 x1 (.iface 51 t7) p17.2).bind fun p18=>
lvK E0 self fn a ds .ret p18.2) (
(stP 1 x0 .nilslice S).bind fun p21=>
(stP 1 x1 (.iface 51 t7) p21.2).bind fun p22=>
lvK E0 self fn a ds .ret p22.2))) (
lvK E0 self fn a ds .ret S)):=by kernel_rfl
def C8:Code:=Tryd.f8.body.getD .skip
def B8:D:=(qaz C8 [[],[],[],[],[],[],[],[0,2,3,4,5],[0,2,3,4,5],[],[0,2,3,4,5],[],[0,0,2,3,4,5],[0,2,3,4,5],[],[0,2,3,4],[],[],[0,2,3,4,5,40,41,42],[],[0,2,3,4,5],[],[],[],[0,2,3,4,5],[],[0,0,2,3,4],[2,3],[],[],[]]).1
def RL8:List Nat:=cellsOf Tryd.f8.results.toList
def R8_28 (self:EV) (N:Nat) (nk:Ac->St->Rs) (ek:Nat->Ac->St->Rs) (a:Ac) (S:St):Rs:=qb8 [0,2,3,4] a fun a=>dr E0 self RL8 N (B8.r.r.r.r.r).r (mkK E0 self Tryd.f8 nk ek) a S
theorem R8_28_eq (self:EV) (N:Nat) (nk:Ac->St->Rs) (ek:Nat->Ac->St->Rs) (ds:List AD) ( v0 v2 v3 v4:V) (S:St):R8_28 self N nk ek (frD 62 [(0,v0),(2,v2),(3,v3),(4,v4)] ds) S =
(qa1 v4).bind fun t30=>
(faP 3 false 1 t30).bind fun t31=>
(ld1 t31 S).bind fun p32=>
(lnS p32.1 p32.2).bind fun p33=>
(qa5 E0 .gtr 3 false true p33.1 (.int .i64 0)).bind fun t34=>
ifK t34 (
(qbw v0 p33.2).bind fun p36=>
qhl E0 self Tryd.f8 (frD 62 [(0,v0),(2,v2),(3,v3),(4,v4),(49,v4),(50,t30),(51,t31),(52,p32.1),(53,p33.1),(54,t34),(55,v0),(56,p36.1)] ds) (self.f 25 [(.int .i64 19),p36.1] p36.2) fun t37 S37=>
(qa1 v4).bind fun t39=>
(faP 2 false 1 t39).bind fun t40=>
(ld1 t40 S37).bind fun p41=>
(stP 1 v2 p41.1 p41.2).bind fun p42=>
(stP 1 v3 .niliface p42.2).bind fun p43=>
finR E0 self Tryd.f8 (frD 62 [(0,v0),(2,v2),(3,v3),(4,v4),(49,v4),(50,t30),(51,t31),(52,p32.1),(53,p33.1),(54,t34),(55,v0),(56,p36.1),(57,t37),(58,v4),(59,t39),(60,t40),(61,p41.1)] ds) p43.2) (
(qa1 v4).bind fun t45=>
(faP 2 false 1 t45).bind fun t46=>
(ld1 t46 p33.2).bind fun p47=>
(stP 1 v2 p47.1 p47.2).bind fun p48=>
(stP 1 v3 .niliface p48.2).bind fun p49=>
finR E0 self Tryd.f8 (frD 62 [(0,v0),(2,v2),(3,v3),(4,v4),(49,v4),(50,t30),(51,t31),(52,p32.1),(53,p33.1),(54,t34),(58,v4),(59,t45),(60,t46),(61,p47.1)] ds) p49.2):=by kernel_rfl
def qih (self:EV) (N:Nat) (nk:Ac->St->Rs) (ek:Nat->Ac->St->Rs) (n:Nat):Ac->St->Rs:=fun a S=>qb8 [0,2,3,4,5] a fun a=>qdq [0,2,3,4,5] (dr E0 self RL8 N (B8.r.r.r.r.r.l.l.l)) (mkK E0 self Tryd.f8 nk ek) n a S
def L8_50 (self:EV) (N:Nat) (nk:Ac->St->Rs) (ek:Nat->Ac->St->Rs) (n:Nat) (ds:List AD) ( v0 v2 v3 v4 v5:V) (S:St):Rs:=qdq [0,2,3,4,5] (dr E0 self RL8 N (B8.r.r.r.r.r.l.l.l)) (mkK E0 self Tryd.f8 nk ek) n (frD 62 [(0,v0),(2,v2),(3,v3),(4,v4),(5,v5)] ds) S
def R8_51 (self:EV) (N:Nat) (nk:Ac->St->Rs) (ek:Nat->Ac->St->Rs) (a:Ac) (S:St):Rs:=qb8 [0,2,3,4,5] a fun a=>dr E0 self RL8 N (B8.r.r.r.r.r.l.l.l.l).r (mkK E0 self Tryd.f8 nk ek) a S
def L8_58 (self:EV) (N:Nat) (nk:Ac->St->Rs) (ek:Nat->Ac->St->Rs) (n:Nat) (ds:List AD) ( v0 v2 v3 v4 v5 v40 v41 v42:V) (S:St):Rs:=qdq [0,2,3,4,5,40,41,42] (dr E0 self RL8 N (B8.r.r.r.r.r.l.l.l.l.r.l.r.r.l.l)) (mkK E0 self Tryd.f8 nk ek) n (frD 62 [(0,v0),(2,v2),(3,v3),(4,v4),(5,v5),(40,v40),(41,v41),(42,v42)] ds) S
theorem L8_58_eq (self:EV) (N:Nat) (nk:Ac->St->Rs) (ek:Nat->Ac->St->Rs) (n:Nat) (ds:List AD) ( v0 v2 v3 v4 v5 v40 v41 v42:V) (S:St):L8_58 self N nk ek (n+1) ds v0 v2 v3 v4 v5 v40 v41 v42 S =
(qa5 E0 .lss 3 false false v42 v41).bind fun t59=>
ifK t59 (
(ixP 1 v40 v42).bind fun t60=>
(ld1 t60 S).bind fun p61=>
qhl E0 self Tryd.f8 (frD 62 [(0,v0),(2,v2),(3,v3),(4,v4),(5,v5),(7,p61.1),(40,v40),(41,v41),(42,v42),(43,t59),(44,t60),(45,p61.1),(46,p61.1)] ds) (qbo E0 self p61.1 [] p61.2) fun t64 S64=>
ifK t64 (
ek 4 (frD 62 [(0,v0),(2,v2),(3,v3),(4,v4),(5,v5)] ds) S64) (
(qa5 E0 .add 3 false true v42 (.int .i64 1)).bind fun t65=>
L8_58 self N nk ek n ds v0 v2 v3 v4 v5 v40 v41 t65 S64)) (
ek 4 (frD 62 [(0,v0),(2,v2),(3,v3),(4,v4),(5,v5)] ds) S):=by kernel_rfl
theorem R8_51_eq (self:EV) (N:Nat) (nk:Ac->St->Rs) (ek:Nat->Ac->St->Rs) (ds:List AD) ( v0 v2 v3 v4 v5:V) (S:St):R8_51 self N nk ek (frD 62 [(0,v0),(2,v2),(3,v3),(4,v4),(5,v5)] ds) S =
qhl E0 self Tryd.f8 (frD 62 [(0,v0),(2,v2),(3,v3),(4,v4),(5,v5),(37,v4)] ds) (self.f 24 [v4] S) fun t53 S53=>
(unV .not t53).bind fun t54=>
ifK t54 (
ek 0 (frD 62 [(0,v0),(2,v2),(3,v3),(4,v4)] ds) S53) (
(lnS v5 S53).bind fun p56=>
L8_58 self N (fun a s=>qb8 [0,2,3,4,5] a fun a=>nk a s) (exB 4 (fun a s=>qb8 [0,2,3,4,5] a fun a=>nk a s) ek) N ds v0 v2 v3 v4 v5 v5 p56.1 (.int .i64 0) p56.2):=by kernel_rfl
def L8_67 (self:EV) (N:Nat) (nk:Ac->St->Rs) (ek:Nat->Ac->St->Rs) (n:Nat) (ds:List AD) ( v0 v2 v3 v4 v5:V) (S:St):Rs:=qdq [0,2,3,4,5] (dr E0 self RL8 N (B8.r.r.r.r.r.l.l.l.l.l.l.l)) (mkK E0 self Tryd.f8 nk ek) n (frD 62 [(0,v0),(2,v2),(3,v3),(4,v4),(5,v5)] ds) S
theorem L8_67_eq (self:EV) (N:Nat) (nk:Ac->St->Rs) (ek:Nat->Ac->St->Rs) (n:Nat) (ds:List AD) ( v0 v2 v3 v4 v5:V) (S:St):L8_67 self N nk ek (n+1) ds v0 v2 v3 v4 v5 S =
qhl E0 self Tryd.f8 (frD 62 [(0,v0),(2,v2),(3,v3),(4,v4),(5,v5),(27,v4)] ds) (self.f 23 [v4,(sv [32])] S) fun t69 S69=>
(qa2 false t69).bind fun g71=>(bif g71 then some v4 else some (.tuple [])).bind fun t71=>
(qa2 false t69).bind fun g72=>qhl E0 self Tryd.f8 (frD 62 [(0,v0),(2,v2),(3,v3),(4,v4),(5,v5),(27,v4),(28,t69),(29,t69),(30,t71)] ds) (bif g72 then self.f 23 [t71,(sv [9])] S69 else some (.ret (.tuple []),S69)) fun t72 S72=>
(qao t69 (some (.bool true)) (some t72)).bind fun t73=>
(qa2 false t73).bind fun g75=>(bif g75 then some v4 else some (.tuple [])).bind fun t75=>
(qa2 false t73).bind fun g76=>qhl E0 self Tryd.f8 (frD 62 [(0,v0),(2,v2),(3,v3),(4,v4),(5,v5),(27,v4),(28,t69),(29,t69),(30,t71),(31,t72),(32,t73),(33,t73),(34,t75)] ds) (bif g76 then self.f 23 [t75,(sv [92,10])] S72 else some (.ret (.tuple []),S72)) fun t76 S76=>
(qao t73 (some (.bool true)) (some t76)).bind fun t77=>
ifK t77 (
L8_67 self N nk ek n ds v0 v2 v3 v4 v5 S76) (
ek 2 (frD 62 [(0,v0),(2,v2),(3,v3),(4,v4),(5,v5)] ds) S76):=by kernel_rfl
theorem L8_50_eq (self:EV) (N:Nat) (nk:Ac->St->Rs) (ek:Nat->Ac->St->Rs) (n:Nat) (ds:List AD) ( v0 v2 v3 v4 v5:V) (S:St):L8_50 self N nk ek (n+1) ds v0 v2 v3 v4 v5 S =
L8_67 self N (R8_51 self N (qih self N nk ek n) (exB 1 (qih self N nk ek n) ek)) (exB 2 (R8_51 self N (qih self N nk ek n) (exB 1 (qih self N nk ek n) ek)) (exB 1 (qih self N nk ek n) ek)) N ds v0 v2 v3 v4 v5 S:=by kernel_rfl
theorem N8_50_eq (self:EV) (N:Nat) (nk:Ac->St->Rs) (ek:Nat->Ac->St->Rs) (n:Nat) (ds:List AD) ( v0 v2 v3 v4 v5:V) (S:St):qih self N nk ek n (frD 62 [(0,v0),(2,v2),(3,v3),(4,v4),(5,v5)] ds) S=L8_50 self N nk ek n ds v0 v2 v3 v4 v5 S:=by kernel_rfl
def F8 (self:EV) (N:Nat) (x0:V) (S:St):Rs:=qdg E0 self N Tryd.f8 B8 [x0] S
theorem F8_eq (self:EV) (N:Nat) (x0:V) (S:St):F8 self N x0 S =
(some (nwP 22 1 (Ev.one .nilslice) S)).bind fun p0=>
(some (nwP 24 1 (Ev.one .niliface) p0.2)).bind fun p1=>
(qbw x0 p1.2).bind fun p3=>
(qa5 E0 .gtr 3 false true p3.1 (.int .i64 4000)).bind fun t4=>
ifK t4 (
(qab E0 52 [(0,(.int .i64 3)),(1,(.int .i64 4000))]).bind fun t5=>
(boxK 52 t5 p3.2).bind fun p6=>
(stP 1 p0.1 .nilslice p6.2).bind fun p8=>
(stP 1 p1.1 (.iface 51 p6.1) p8.2).bind fun p9=>
(ldr1 p0.1 p9.2).bind fun p10=>
(ldr1 p1.1 p10.2).bind fun p11=>
some (.ret (.tuple [p10.1,p11.1]),p11.2)) (
(qab E0 57 [(0,x0)]).bind fun t15=>
(boxK 57 t15 p3.2).bind fun p16=>
(bsP 34 1 4 (Ev.one .nilfn) [(0,(.fn (.func 19) [p16.1] [])),(1,(.fn (.func 20) [p16.1] [])),(2,(.fn (.func 21) [p16.1] [])),(3,(.fn (.func 22) [p16.1] []))] p16.2).bind fun p26=>
L8_50 self N (R8_28 self N (qbu E0 self Tryd.f8) qav) (exB 0 (R8_28 self N (qbu E0 self Tryd.f8) qav) qav) N (adOf (.fn (.func 18) [] [p0.1,p1.1]) []::[]) x0 p0.1 p1.1 p16.1 p26.1 p26.2):=by kernel_rfl
end
noncomputable section
def C89:Code:=Tryd.f89.body.getD .skip
def B89:D:=(qaz C89 [[],[],[0,0,1,2,3,8],[8],[],[],[],[],[],[],[],[],[0,0,1,2,3,8,9],[8],[],[],[0,0,1,2,3,8,9],[8],[],[],[],[],[],[0,0,1,2,3,8,9,11],[8],[],[],[],[0,0,1,3,8,9,12],[8],[],[],[],[]]).1
def F89 (self:EV) (N:Nat) (x0 x1 x2 x3:V) (S:St):Rs:=qdg E0 self N Tryd.f89 B89 [x0,x1,x2,x3] S
end
noncomputable section
def C45:Code:=Tryd.f45.body.getD .skip
def B45:D:=(qaz C45 [[],[],[0,3,4],[],[0,0,3,4],[0,3,4],[],[],[],[],[0,0,3,4,5,6],[0,3,4],[],[0,3,4],[],[],[],[],[],[]]).1
def RL45:List Nat:=cellsOf Tryd.f45.results.toList
def L45_6 (self:EV) (N:Nat) (nk:Ac->St->Rs) (ek:Nat->Ac->St->Rs) (n:Nat) ( v0 v3 v4:V) (S:St):Rs:=qdq [0,3,4] (dr E0 self RL45 N (B45.r.r.l.l)) (mkK E0 self Tryd.f45 nk ek) n (fr 96 [(0,v0),(3,v3),(4,v4)]) S
theorem L45_6_eq (self:EV) (N:Nat) (nk:Ac->St->Rs) (ek:Nat->Ac->St->Rs) (n:Nat) ( v0 v3 v4:V) (S:St):L45_6 self N nk ek (n+1) v0 v3 v4 S =
callP (self.f 24 [v0] S) fun t8 S8=>
(unV .not t8).bind fun t9=>
ifK t9 (
(qa1 v0).bind fun t11=>
(faP 0 false 1 t11).bind fun t12=>
(ld1 t12 S8).bind fun p13=>
(qbw p13.1 p13.2).bind fun p14=>
callP (self.f 25 [(.int .i64 19),p14.1] p14.2) fun t15 S15=>
(qa1 v0).bind fun t17=>
(faP 1 false 1 t17).bind fun t18=>
(ld1 t18 S15).bind fun p19=>
(qa1 v0).bind fun t22=>
(faP 0 false 1 t22).bind fun t23=>
(ld1 t23 p19.2).bind fun p24=>
(qak E0 9 p24.1 (some p19.1) none none p24.2).bind fun p26=>
callP (self.f 46 [p26.1,(sv [10])] p26.2) fun t27 S27=>
(qac t27 0).bind fun t29=>
(qac t27 1).bind fun t30=>
(qac t27 2).bind fun t31=>
(qa1 v0).bind fun t36=>
(faP 1 false 1 t36).bind fun t37=>
(ld1 t37 S27).bind fun p38=>
(qbw t29 p38.2).bind fun p40=>
(qa5 E0 .add 3 false false p38.1 p40.1).bind fun t41=>
(qa1 v0).bind fun t42=>
(faP 1 false 1 t42).bind fun t43=>
(stP 1 t43 t41 p40.2).bind fun p44=>
ifK t31 (
(qa1 v0).bind fun t47=>
(faP 1 false 1 t47).bind fun t48=>
(ld1 t48 p44.2).bind fun p49=>
(qa5 E0 .add 3 false true p49.1 (.int .i64 1)).bind fun t50=>
(qa1 v0).bind fun t51=>
(faP 1 false 1 t51).bind fun t52=>
(stP 1 t52 t50 p49.2).bind fun p53=>
(faP 1 false 1 v3).bind fun t55=>
(ld1 t55 p53.2).bind fun p56=>
(qa5 E0 .neq 9 false false t29 p56.1).bind fun t57=>
ifK t57 (
L45_6 self N nk ek n v0 v3 v4 p56.2) (
(qa1 v0).bind fun t59=>
(faP 2 false 1 t59).bind fun t60=>
(ld1 t60 (onS p56.2)).bind fun p61=>
(faP 0 false 1 v3).bind fun t62=>
(ld1 t62 (onS p61.2)).bind fun p63=>
(ixP 5 p61.1 p63.1).bind fun t64=>
qh7 [(3,[5])] p56.2 [[],[],[],p61.2.log,[],p63.2.log,[],[]] (onS p63.2) fun S66=>
(qa1 v0).bind fun t69=>
(faP 0 false 1 t69).bind fun t70=>
(ld1 t70 S66).bind fun p71=>
(qak E0 9 p71.1 (some v4) (some p19.1) none p71.2).bind fun p74=>
(qa1 t64).bind fun t75=>
(faP 1 false 1 t75).bind fun t76=>
(stP 1 t76 p74.1 p74.2).bind fun p77=>
(qa1 t64).bind fun t79=>
(faP 3 false 1 t79).bind fun t80=>
(ld1 t80 p77.2).bind fun p81=>
(unV .not p81.1).bind fun t82=>
ifK t82 (
(qa1 v0).bind fun t84=>
(faP 0 false 1 t84).bind fun t85=>
(ld1 t85 p81.2).bind fun p86=>
(qak E0 9 p86.1 none (some p19.1) none p86.2).bind fun p88=>
(qab E0 57 [(0,p88.1),(1,v4)]).bind fun t90=>
(boxK 57 t90 p88.2).bind fun p91=>
callP (self.f 49 [p91.1,(.int .i64 2),(.int .i64 0)] p91.2) fun t95 S95=>
(qa1 t64).bind fun t96=>
(faP 2 false 1 t96).bind fun t97=>
(stP 1 t97 t95 S95).bind fun p98=>
some (.ret (.tuple []),p98.2)) (
some (.ret (.tuple []),p81.2)))) (
(faP 1 false 1 v3).bind fun t100=>
(ld1 t100 p44.2).bind fun p101=>
(qa5 E0 .neq 9 false false t29 p101.1).bind fun t102=>
ifK t102 (
L45_6 self N nk ek n v0 v3 v4 p101.2) (
(qa1 v0).bind fun t104=>
(faP 2 false 1 t104).bind fun t105=>
(ld1 t105 (onS p101.2)).bind fun p106=>
(faP 0 false 1 v3).bind fun t107=>
(ld1 t107 (onS p106.2)).bind fun p108=>
(ixP 5 p106.1 p108.1).bind fun t109=>
qh7 [(3,[5])] p101.2 [[],[],[],p106.2.log,[],p108.2.log,[],[]] (onS p108.2) fun S111=>
(qa1 v0).bind fun t114=>
(faP 0 false 1 t114).bind fun t115=>
(ld1 t115 S111).bind fun p116=>
(qak E0 9 p116.1 (some v4) (some p19.1) none p116.2).bind fun p119=>
(qa1 t109).bind fun t120=>
(faP 1 false 1 t120).bind fun t121=>
(stP 1 t121 p119.1 p119.2).bind fun p122=>
(qa1 t109).bind fun t124=>
(faP 3 false 1 t124).bind fun t125=>
(ld1 t125 p122.2).bind fun p126=>
(unV .not p126.1).bind fun t127=>
ifK t127 (
(qa1 v0).bind fun t129=>
(faP 0 false 1 t129).bind fun t130=>
(ld1 t130 p126.2).bind fun p131=>
(qak E0 9 p131.1 none (some p19.1) none p131.2).bind fun p133=>
(qab E0 57 [(0,p133.1),(1,v4)]).bind fun t135=>
(boxK 57 t135 p133.2).bind fun p136=>
callP (self.f 49 [p136.1,(.int .i64 2),(.int .i64 0)] p136.2) fun t140 S140=>
(qa1 t109).bind fun t141=>
(faP 2 false 1 t141).bind fun t142=>
(stP 1 t142 t140 S140).bind fun p143=>
some (.ret (.tuple []),p143.2)) (
some (.ret (.tuple []),p126.2))))) (
(qa1 v0).bind fun t145=>
(faP 1 false 1 t145).bind fun t146=>
(ld1 t146 S8).bind fun p147=>
(qa1 v0).bind fun t150=>
(faP 0 false 1 t150).bind fun t151=>
(ld1 t151 p147.2).bind fun p152=>
(qak E0 9 p152.1 (some p147.1) none none p152.2).bind fun p154=>
callP (self.f 46 [p154.1,(sv [10])] p154.2) fun t155 S155=>
(qac t155 0).bind fun t157=>
(qac t155 1).bind fun t158=>
(qac t155 2).bind fun t159=>
(qa1 v0).bind fun t164=>
(faP 1 false 1 t164).bind fun t165=>
(ld1 t165 S155).bind fun p166=>
(qbw t157 p166.2).bind fun p168=>
(qa5 E0 .add 3 false false p166.1 p168.1).bind fun t169=>
(qa1 v0).bind fun t170=>
(faP 1 false 1 t170).bind fun t171=>
(stP 1 t171 t169 p168.2).bind fun p172=>
ifK t159 (
(qa1 v0).bind fun t175=>
(faP 1 false 1 t175).bind fun t176=>
(ld1 t176 p172.2).bind fun p177=>
(qa5 E0 .add 3 false true p177.1 (.int .i64 1)).bind fun t178=>
(qa1 v0).bind fun t179=>
(faP 1 false 1 t179).bind fun t180=>
(stP 1 t180 t178 p177.2).bind fun p181=>
(faP 1 false 1 v3).bind fun t183=>
(ld1 t183 p181.2).bind fun p184=>
(qa5 E0 .neq 9 false false t157 p184.1).bind fun t185=>
ifK t185 (
L45_6 self N nk ek n v0 v3 v4 p184.2) (
(qa1 v0).bind fun t187=>
(faP 2 false 1 t187).bind fun t188=>
(ld1 t188 (onS p184.2)).bind fun p189=>
(faP 0 false 1 v3).bind fun t190=>
(ld1 t190 (onS p189.2)).bind fun p191=>
(ixP 5 p189.1 p191.1).bind fun t192=>
qh7 [(3,[5])] p184.2 [[],[],[],p189.2.log,[],p191.2.log,[],[]] (onS p191.2) fun S194=>
(qa1 v0).bind fun t197=>
(faP 0 false 1 t197).bind fun t198=>
(ld1 t198 S194).bind fun p199=>
(qak E0 9 p199.1 (some v4) (some p147.1) none p199.2).bind fun p202=>
(qa1 t192).bind fun t203=>
(faP 1 false 1 t203).bind fun t204=>
(stP 1 t204 p202.1 p202.2).bind fun p205=>
(qa1 t192).bind fun t207=>
(faP 3 false 1 t207).bind fun t208=>
(ld1 t208 p205.2).bind fun p209=>
(unV .not p209.1).bind fun t210=>
ifK t210 (
(qa1 v0).bind fun t212=>
(faP 0 false 1 t212).bind fun t213=>
(ld1 t213 p209.2).bind fun p214=>
(qak E0 9 p214.1 none (some p147.1) none p214.2).bind fun p216=>
(qab E0 57 [(0,p216.1),(1,v4)]).bind fun t218=>
(boxK 57 t218 p216.2).bind fun p219=>
callP (self.f 49 [p219.1,(.int .i64 2),(.int .i64 0)] p219.2) fun t223 S223=>
(qa1 t192).bind fun t224=>
(faP 2 false 1 t224).bind fun t225=>
(stP 1 t225 t223 S223).bind fun p226=>
some (.ret (.tuple []),p226.2)) (
some (.ret (.tuple []),p209.2)))) (
(faP 1 false 1 v3).bind fun t228=>
(ld1 t228 p172.2).bind fun p229=>
(qa5 E0 .neq 9 false false t157 p229.1).bind fun t230=>
ifK t230 (
L45_6 self N nk ek n v0 v3 v4 p229.2) (
(qa1 v0).bind fun t232=>
(faP 2 false 1 t232).bind fun t233=>
(ld1 t233 (onS p229.2)).bind fun p234=>
(faP 0 false 1 v3).bind fun t235=>
(ld1 t235 (onS p234.2)).bind fun p236=>
(ixP 5 p234.1 p236.1).bind fun t237=>
qh7 [(3,[5])] p229.2 [[],[],[],p234.2.log,[],p236.2.log,[],[]] (onS p236.2) fun S239=>
(qa1 v0).bind fun t242=>
(faP 0 false 1 t242).bind fun t243=>
(ld1 t243 S239).bind fun p244=>
(qak E0 9 p244.1 (some v4) (some p147.1) none p244.2).bind fun p247=>
(qa1 t237).bind fun t248=>
(faP 1 false 1 t248).bind fun t249=>
(stP 1 t249 p247.1 p247.2).bind fun p250=>
(qa1 t237).bind fun t252=>
(faP 3 false 1 t252).bind fun t253=>
(ld1 t253 p250.2).bind fun p254=>
(unV .not p254.1).bind fun t255=>
ifK t255 (
(qa1 v0).bind fun t257=>
(faP 0 false 1 t257).bind fun t258=>
(ld1 t258 p254.2).bind fun p259=>
(qak E0 9 p259.1 none (some p147.1) none p259.2).bind fun p261=>
(qab E0 57 [(0,p261.1),(1,v4)]).bind fun t263=>
(boxK 57 t263 p261.2).bind fun p264=>
callP (self.f 49 [p264.1,(.int .i64 2),(.int .i64 0)] p264.2) fun t268 S268=>
(qa1 t237).bind fun t269=>
(faP 2 false 1 t269).bind fun t270=>
(stP 1 t270 t268 S268).bind fun p271=>
some (.ret (.tuple []),p271.2)) (
some (.ret (.tuple []),p254.2))))):=by kernel_rfl
def F45 (self:EV) (N:Nat) (x0 x1:V) (S:St):Rs:=qdg E0 self N Tryd.f45 B45 [x0,x1] S
theorem F45_eq (self:EV) (N:Nat) (x0 x1:V) (S:St):F45 self N x0 x1 S =
(boxK 89 x1 S).bind fun p0=>
(qa1 x0).bind fun t2=>
(faP 1 false 1 t2).bind fun t3=>
(ld1 t3 p0.2).bind fun p4=>
L45_6 self N (qbu E0 self Tryd.f45) (exB 0 (qbu E0 self Tryd.f45) qav) N x0 p0.1 p4.1 p4.2:=by kernel_rfl
end
end Go.Proofs.YtafbipadnnmccaaDoor.W
end
