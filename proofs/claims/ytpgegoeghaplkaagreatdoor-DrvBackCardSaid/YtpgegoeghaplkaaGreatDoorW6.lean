/-
  WHAT THE FUNCTIONS COME TO: each is read by the evaluator,printed,and told as a function of data,part 6 of 13 (no condition).
-/
import Derived.Test.YtpgegoeghaplkaaGreatDoorW5
import Derived.Test.YtpgegoeghaplkaaGreatDoorProg
import Derived.KernelRfl
namespace Go.Proofs.YtpgegoeghaplkaaGreatDoor.W
open Go.Proofs.YtpgegoeghaplkaaGreatDoor.Ev
set_option maxRecDepth 100000
noncomputable section
noncomputable def C74:Code:=Tryz.f74.body.getD .skip
noncomputable def B74:D:=(qao C74 [[],[],[],[],[1,2,3,6,7,8,15],[],[2,3,6,7,8],[],[],[],[],[1,2,3,6,7,8,15],[],[],[0,2,3,6,7,8],[6],[],[],[2,3,6,7,8,10,96],[],[3,6,10],[],[],[],[],[],[0,3,6,10],[6],[],[3,6,10,174],[],[3,6],[],[],[],[0,3,6],[6],[]]).1
noncomputable def RL74:List Nat:=cellsOf Tryz.f74.results.toList
noncomputable def R74_4 (self:EV) (N:Nat) (nk:Ac->St->Rs) (ek:Nat->Ac->St->Rs) (a:Ac) (S:St):Rs:=qad [2,3,6,7,8] a fun a=>dr E0 self RL74 N (B74.r.r.r).r (mkK E0 self Tryz.f74 nk ek) a S
noncomputable def R74_8 (self:EV) (N:Nat) (nk:Ac->St->Rs) (ek:Nat->Ac->St->Rs) (a:Ac) (S:St):Rs:=qad [3,6,10] a fun a=>dr E0 self RL74 N (B74.r.r.r.r.l.r).r (mkK E0 self Tryz.f74 nk ek) a S
noncomputable def R74_9 (self:EV) (N:Nat) (nk:Ac->St->Rs) (ek:Nat->Ac->St->Rs) (a:Ac) (S:St):Rs:=qad [3,6] a fun a=>dr E0 self RL74 N (B74.r.r.r.r.l.r.r.l).r (mkK E0 self Tryz.f74 nk ek) a S
theorem R74_9_eq (self:EV) (N:Nat) (nk:Ac->St->Rs) (ek:Nat->Ac->St->Rs) ( v3 v6:V) (S:St):R74_9 self N nk ek (fr 187 [(3,v3),(6,v6)]) S =
(ldA 8 v3 S).bind fun p10=>
(stP 8 v6 p10.1 p10.2).bind fun p11=>
(ldrA 8 v6 p11.2).bind fun p12=>
some (.ret p12.1,p12.2):=by kernel_rfl
noncomputable def L74_14 (self:EV) (N:Nat) (nk:Ac->St->Rs) (ek:Nat->Ac->St->Rs) (n:Nat) ( v3 v6 v10 v174:V) (S:St):Rs:=qbr [3,6,10,174] (dr E0 self RL74 N (B74.r.r.r.r.l.r.r.l.l.r.l.l)) (mkK E0 self Tryz.f74 nk ek) n (fr 187 [(3,v3),(6,v6),(10,v10),(174,v174)]) S
theorem L74_14_eq (self:EV) (N:Nat) (nk:Ac->St->Rs) (ek:Nat->Ac->St->Rs) (n:Nat) ( v3 v6 v10 v174:V) (S:St):L74_14 self N nk ek (n+1) v3 v6 v10 v174 S =
(qa4 E0 .lss 3 false true v174 (.int .i64 8)).bind fun t15=>
ifK t15 (
(ixA 8 1 false 1 v3 v174).bind fun t19=>
(ld1 t19 (onS S)).bind fun p20=>
(ixA 8 1 false 1 v10 v174).bind fun t22=>
(ld1 t22 (onS p20.2)).bind fun p23=>
(qa4 E0 .add 86 false false p20.1 p23.1).bind fun t24=>
(ixA 8 1 false 1 v3 v174).bind fun t25=>
(stP 1 t25 t24 (onS p23.2)).bind fun p26=>
qi7 [(2,[5])] S [[],[],p20.2.log,[],[],p23.2.log,[],[],p26.2.log] p26.2 fun S27=>
(qa4 E0 .add 3 false true v174 (.int .i64 1)).bind fun t28=>
L74_14 self N nk ek n v3 v6 v10 t28 S27) (
ek 4 (fr 187 [(3,v3),(6,v6)]) S):=by kernel_rfl
theorem R74_8_eq (self:EV) (N:Nat) (nk:Ac->St->Rs) (ek:Nat->Ac->St->Rs) ( v3 v6 v10:V) (S:St):R74_8 self N nk ek (fr 187 [(3,v3),(6,v6),(10,v10)]) S =
L74_14 self N (R74_9 self N (fun a s=>qad [6] a fun a=>nk a s) ek) (exB 4 (R74_9 self N (fun a s=>qad [6] a fun a=>nk a s) ek) ek) N v3 v6 v10 (.int .i64 0) S:=by kernel_rfl
noncomputable def L74_31 (self:EV) (N:Nat) (nk:Ac->St->Rs) (ek:Nat->Ac->St->Rs) (n:Nat) ( v2 v3 v6 v7 v8 v10 v96:V) (S:St):Rs:=qbr [2,3,6,7,8,10,96] (dr E0 self RL74 N (B74.r.r.r.r.l.r.l.r.l.l)) (mkK E0 self Tryz.f74 nk ek) n (fr 187 [(2,v2),(3,v3),(6,v6),(7,v7),(8,v8),(10,v10),(96,v96)]) S
theorem L74_31_eq (self:EV) (N:Nat) (nk:Ac->St->Rs) (ek:Nat->Ac->St->Rs) (n:Nat) ( v2 v3 v6 v7 v8 v10 v96:V) (S:St):L74_31 self N nk ek (n+1) v2 v3 v6 v7 v8 v10 v96 S =
(qa4 E0 .lss 3 false true v96 (.int .i64 64)).bind fun t32=>
ifK t32 (
(ixA 8 1 false 1 v10 (.int .i64 7)).bind fun t35=>
(ld1 t35 (onS S)).bind fun p36=>
(ixA 8 1 false 1 v10 (.int .i64 4)).bind fun t38=>
(ld1 t38 (onS p36.2)).bind fun p39=>
(bsP 3 1 3 (Ev.one (.int .i64 0)) [(0,(.int .i64 6)),(1,(.int .i64 11)),(2,(.int .i64 25))] (onS p39.2)).bind fun p40=>
qej (qal E0 (B74.r.r.r.r.l.r.l.r.l.l.r.r.l.l.r.l).ops) S 6 [[],p36.2.log,[],[],p39.2.log,p40.2.log] (qc2 E0 self v7 [p39.1,p40.1] (onS p40.2)) fun t41 S41=>
(qa4 E0 .add 86 false false p36.1 t41).bind fun t42=>
(ixA 8 1 false 1 v10 (.int .i64 4)).bind fun t43=>
(ld1 t43 (onS S41)).bind fun p44=>
(ixA 8 1 false 1 v10 (.int .i64 5)).bind fun t45=>
(ld1 t45 (onS p44.2)).bind fun p46=>
(qa4 E0 .and 86 false false p44.1 p46.1).bind fun t47=>
(ixA 8 1 false 1 v10 (.int .i64 4)).bind fun t48=>
(ld1 t48 (onS p46.2)).bind fun p49=>
(unV .xor p49.1).bind fun t50=>
(ixA 8 1 false 1 v10 (.int .i64 6)).bind fun t51=>
(ld1 t51 (onS p49.2)).bind fun p52=>
(qa4 E0 .and 86 false false t50 p52.1).bind fun t53=>
(qa4 E0 .xor 86 false false t47 t53).bind fun t54=>
(qa4 E0 .add 86 false false t42 t54).bind fun t55=>
(qaf v2).bind fun t58=>
(ixA 64 1 false 1 t58 v96).bind fun t59=>
(ld1 t59 (onS p52.2)).bind fun p60=>
(qa4 E0 .add 86 false false t55 p60.1).bind fun t61=>
(ixA 64 1 false 1 v8 v96).bind fun t63=>
(ld1 t63 (onS p60.2)).bind fun p64=>
(qa4 E0 .add 86 false false t61 p64.1).bind fun t65=>
qi7 [(1,[4,5,6,9,11,14,17,25,29]),(4,[5,9,11,14,17,25,29]),(5,[9,11,14,17,25,29]),(6,[9,11,14,17,25,29]),(9,[11,14,17,25,29]),(11,[14,17,25,29]),(14,[17,25,29]),(17,[25,29]),(25,[29])] S [[],p36.2.log,[],[],p39.2.log,p40.2.log,S41.log,[],[],p44.2.log,[],p46.2.log,[],[],p49.2.log,[],[],p52.2.log,[],[],[],[],[],[],[],p60.2.log,[],[],[],p64.2.log,[],[]] (onS p64.2) fun S67=>
(ixA 8 1 false 1 v10 (.int .i64 0)).bind fun t69=>
(ld1 t69 (onS S67)).bind fun p70=>
(bsP 3 1 3 (Ev.one (.int .i64 0)) [(0,(.int .i64 2)),(1,(.int .i64 13)),(2,(.int .i64 22))] (onS p70.2)).bind fun p71=>
qej (qal E0 (B74.r.r.r.r.l.r.l.r.l.l.r.r.l.l.r.r.l).ops) S67 4 [[],[],p70.2.log,p71.2.log] (qc2 E0 self v7 [p70.1,p71.1] (onS p71.2)) fun t72 S72=>
(ixA 8 1 false 1 v10 (.int .i64 0)).bind fun t73=>
(ld1 t73 (onS S72)).bind fun p74=>
(ixA 8 1 false 1 v10 (.int .i64 1)).bind fun t75=>
(ld1 t75 (onS p74.2)).bind fun p76=>
(qa4 E0 .and 86 false false p74.1 p76.1).bind fun t77=>
(ixA 8 1 false 1 v10 (.int .i64 0)).bind fun t78=>
(ld1 t78 (onS p76.2)).bind fun p79=>
(ixA 8 1 false 1 v10 (.int .i64 2)).bind fun t80=>
(ld1 t80 (onS p79.2)).bind fun p81=>
(qa4 E0 .and 86 false false p79.1 p81.1).bind fun t82=>
(qa4 E0 .xor 86 false false t77 t82).bind fun t83=>
(ixA 8 1 false 1 v10 (.int .i64 1)).bind fun t84=>
(ld1 t84 (onS p81.2)).bind fun p85=>
(ixA 8 1 false 1 v10 (.int .i64 2)).bind fun t86=>
(ld1 t86 (onS p85.2)).bind fun p87=>
(qa4 E0 .and 86 false false p85.1 p87.1).bind fun t88=>
(qa4 E0 .xor 86 false false t83 t88).bind fun t89=>
(qa4 E0 .add 86 false false t72 t89).bind fun t90=>
qi7 [(2,[3,6,8,11,13,17,19]),(3,[6,8,11,13,17,19]),(4,[6,8,11,13,17,19]),(6,[8,11,13,17,19]),(8,[11,13,17,19]),(11,[13,17,19]),(13,[17,19]),(17,[19])] S67 [[],[],p70.2.log,p71.2.log,S72.log,[],p74.2.log,[],p76.2.log,[],[],p79.2.log,[],p81.2.log,[],[],[],p85.2.log,[],p87.2.log,[],[],[],[]] (onS p87.2) fun S92=>
(qa4 E0 .add 86 false false t65 t90).bind fun t95=>
(ixA 8 1 false 1 v10 (.int .i64 0)).bind fun t96=>
(ld1 t96 S92).bind fun p97=>
(ixA 8 1 false 1 v10 (.int .i64 1)).bind fun t98=>
(ld1 t98 p97.2).bind fun p99=>
(ixA 8 1 false 1 v10 (.int .i64 2)).bind fun t100=>
(ld1 t100 p99.2).bind fun p101=>
(ixA 8 1 false 1 v10 (.int .i64 3)).bind fun t102=>
(ld1 t102 p101.2).bind fun p103=>
(qa4 E0 .add 86 false false p103.1 t65).bind fun t105=>
(ixA 8 1 false 1 v10 (.int .i64 4)).bind fun t106=>
(ld1 t106 p103.2).bind fun p107=>
(ixA 8 1 false 1 v10 (.int .i64 5)).bind fun t108=>
(ld1 t108 p107.2).bind fun p109=>
(ixA 8 1 false 1 v10 (.int .i64 6)).bind fun t110=>
(ld1 t110 p109.2).bind fun p111=>
(qd3 E0 88 [(0,t95),(1,p97.1),(2,p99.1),(3,p101.1),(4,t105),(5,p107.1),(6,p109.1),(7,p111.1)]).bind fun t112=>
(stP 8 v10 t112 p111.2).bind fun p113=>
(qa4 E0 .add 3 false true v96 (.int .i64 1)).bind fun t114=>
L74_31 self N nk ek n v2 v3 v6 v7 v8 v10 t114 p113.2) (
ek 2 (fr 187 [(3,v3),(6,v6),(10,v10)]) S):=by kernel_rfl
theorem R74_4_eq (self:EV) (N:Nat) (nk:Ac->St->Rs) (ek:Nat->Ac->St->Rs) ( v2 v3 v6 v7 v8:V) (S:St):R74_4 self N nk ek (fr 187 [(2,v2),(3,v3),(6,v6),(7,v7),(8,v8)]) S =
(ldA 8 v3 S).bind fun p5=>
(some (nwP 88 8 (Tr.ofListFrom .nil [(.int .u32 0),(.int .u32 0),(.int .u32 0),(.int .u32 0),(.int .u32 0),(.int .u32 0),(.int .u32 0),(.int .u32 0)] 0) p5.2)).bind fun p6=>
(stP 8 p6.1 p5.1 p6.2).bind fun p7=>
L74_31 self N (R74_8 self N (fun a s=>qad [6] a fun a=>nk a s) ek) (exB 2 (R74_8 self N (fun a s=>qad [6] a fun a=>nk a s) ek) ek) N v2 v3 v6 v7 v8 p6.1 (.int .i64 0) p7.2:=by kernel_rfl
noncomputable def qg5 (self:EV) (N:Nat) (nk:Ac->St->Rs) (ek:Nat->Ac->St->Rs) (n:Nat) ( v1 v2 v3 v6 v7 v8 v15:V) (S:St):Rs:=qbr [1,2,3,6,7,8,15] (dr E0 self RL74 N (B74.r.r.r.l.r.l.l)) (mkK E0 self Tryz.f74 nk ek) n (fr 187 [(1,v1),(2,v2),(3,v3),(6,v6),(7,v7),(8,v8),(15,v15)]) S
theorem qk8 (self:EV) (N:Nat) (nk:Ac->St->Rs) (ek:Nat->Ac->St->Rs) (n:Nat) ( v1 v2 v3 v6 v7 v8 v15:V) (S:St):qg5 self N nk ek (n+1) v1 v2 v3 v6 v7 v8 v15 S =
(qa4 E0 .lss 3 false true v15 (.int .i64 64)).bind fun t118=>
ifK t118 (
(qa4 E0 .lss 3 false true v15 (.int .i64 16)).bind fun t122=>
ifK t122 (
(qa4 E0 .mul 3 true false (.int .i64 4) v15).bind fun t126=>
(ixP 1 v1 t126).bind fun t127=>
(ld1 t127 (onS S)).bind fun p128=>
(cvI .u32 p128.1 (onS p128.2)).bind fun p129=>
(qa4 E0 .shl 86 false true p129.1 (.int .u64 24)).bind fun t130=>
(qa4 E0 .mul 3 true false (.int .i64 4) v15).bind fun t133=>
(qa4 E0 .add 3 false true t133 (.int .i64 1)).bind fun t134=>
(ixP 1 v1 t134).bind fun t135=>
(ld1 t135 (onS p129.2)).bind fun p136=>
(cvI .u32 p136.1 (onS p136.2)).bind fun p137=>
(qa4 E0 .shl 86 false true p137.1 (.int .u64 16)).bind fun t138=>
(qa4 E0 .or 86 false false t130 t138).bind fun t139=>
(qa4 E0 .mul 3 true false (.int .i64 4) v15).bind fun t142=>
(qa4 E0 .add 3 false true t142 (.int .i64 2)).bind fun t143=>
(ixP 1 v1 t143).bind fun t144=>
(ld1 t144 (onS p137.2)).bind fun p145=>
(cvI .u32 p145.1 (onS p145.2)).bind fun p146=>
(qa4 E0 .shl 86 false true p146.1 (.int .u64 8)).bind fun t147=>
(qa4 E0 .or 86 false false t139 t147).bind fun t148=>
(qa4 E0 .mul 3 true false (.int .i64 4) v15).bind fun t151=>
(qa4 E0 .add 3 false true t151 (.int .i64 3)).bind fun t152=>
(ixP 1 v1 t152).bind fun t153=>
(ld1 t153 (onS p146.2)).bind fun p154=>
(cvI .u32 p154.1 (onS p154.2)).bind fun p155=>
(qa4 E0 .or 86 false false t148 p155.1).bind fun t156=>
(ixA 64 1 false 1 v8 v15).bind fun t157=>
(stP 1 t157 t156 (onS p155.2)).bind fun p158=>
qi7 [(5,[13,14,22,23,31,32]),(6,[13,14,22,23,31,32]),(13,[22,23,31,32]),(14,[22,23,31,32]),(22,[31,32]),(23,[31,32])] S [[],[],[],[],[],p128.2.log,p129.2.log,[],[],[],[],[],[],p136.2.log,p137.2.log,[],[],[],[],[],[],[],p145.2.log,p146.2.log,[],[],[],[],[],[],[],p154.2.log,p155.2.log,[],[],p158.2.log] p158.2 fun S159=>
(qa4 E0 .add 3 false true v15 (.int .i64 1)).bind fun t160=>
qg5 self N nk ek n v1 v2 v3 v6 v7 v8 t160 S159) (
(qa4 E0 .sub 3 false true v15 (.int .i64 16)).bind fun t164=>
(ixA 64 1 false 1 v8 t164).bind fun t165=>
(ld1 t165 (onS S)).bind fun p166=>
(qa4 E0 .sub 3 false true v15 (.int .i64 15)).bind fun t169=>
(ixA 64 1 false 1 v8 t169).bind fun t170=>
(ld1 t170 (onS p166.2)).bind fun p171=>
(bsP 3 1 2 (Ev.one (.int .i64 0)) [(0,(.int .i64 7)),(1,(.int .i64 18))] (onS p171.2)).bind fun p172=>
qej (qal E0 (B74.r.r.r.l.r.l.l.r.r.l.l.r.r).ops) S 11 [[],[],[],[],p166.2.log,[],[],[],[],p171.2.log,p172.2.log] (qc2 E0 self v7 [p171.1,p172.1] (onS p172.2)) fun t173 S173=>
(qa4 E0 .sub 3 false true v15 (.int .i64 15)).bind fun t175=>
(ixA 64 1 false 1 v8 t175).bind fun t176=>
(ld1 t176 (onS S173)).bind fun p177=>
(qa4 E0 .shr 86 false true p177.1 (.int .u64 3)).bind fun t178=>
(qa4 E0 .xor 86 false false t173 t178).bind fun t179=>
(qa4 E0 .add 86 false false p166.1 t179).bind fun t180=>
(qa4 E0 .sub 3 false true v15 (.int .i64 7)).bind fun t182=>
(ixA 64 1 false 1 v8 t182).bind fun t183=>
(ld1 t183 (onS p177.2)).bind fun p184=>
(qa4 E0 .add 86 false false t180 p184.1).bind fun t185=>
(qa4 E0 .sub 3 false true v15 (.int .i64 2)).bind fun t188=>
(ixA 64 1 false 1 v8 t188).bind fun t189=>
(ld1 t189 (onS p184.2)).bind fun p190=>
(bsP 3 1 2 (Ev.one (.int .i64 0)) [(0,(.int .i64 17)),(1,(.int .i64 19))] (onS p190.2)).bind fun p191=>
qej (qal E0 (B74.r.r.r.l.r.l.l.r.r.l.l.r.r).ops) S 30 [[],[],[],[],p166.2.log,[],[],[],[],p171.2.log,p172.2.log,S173.log,[],[],[],p177.2.log,[],[],[],[],[],[],p184.2.log,[],[],[],[],[],p190.2.log,p191.2.log] (qc2 E0 self v7 [p190.1,p191.1] (onS p191.2)) fun t192 S192=>
(qa4 E0 .sub 3 false true v15 (.int .i64 2)).bind fun t194=>
(ixA 64 1 false 1 v8 t194).bind fun t195=>
(ld1 t195 (onS S192)).bind fun p196=>
(qa4 E0 .shr 86 false true p196.1 (.int .u64 10)).bind fun t197=>
(qa4 E0 .xor 86 false false t192 t197).bind fun t198=>
(qa4 E0 .add 86 false false t185 t198).bind fun t199=>
(ixA 64 1 false 1 v8 v15).bind fun t200=>
(stP 1 t200 t199 (onS p196.2)).bind fun p201=>
qi7 [(4,[9,10,11,15,22,28,29,30,34]),(9,[10,15,22,28,29,34]),(10,[15,22,28,29,34]),(11,[15,22,28,29,34]),(15,[22,28,29,30,34]),(22,[28,29,30,34]),(28,[29,34]),(29,[34]),(30,[34])] S [[],[],[],[],p166.2.log,[],[],[],[],p171.2.log,p172.2.log,S173.log,[],[],[],p177.2.log,[],[],[],[],[],[],p184.2.log,[],[],[],[],[],p190.2.log,p191.2.log,S192.log,[],[],[],p196.2.log,[],[],[],[],p201.2.log] p201.2 fun S202=>
(qa4 E0 .add 3 false true v15 (.int .i64 1)).bind fun t203=>
qg5 self N nk ek n v1 v2 v3 v6 v7 v8 t203 S202)) (
ek 0 (fr 187 [(2,v2),(3,v3),(6,v6),(7,v7),(8,v8)]) S):=by kernel_rfl
noncomputable def F74 (self:EV) (N:Nat) (x0 x1 x2:V) (S:St):Rs:=qay E0 self N Tryz.f74 B74 [x0,x1,x2] S
theorem F74_eq (self:EV) (N:Nat) (x0 x1 x2:V) (S:St):F74 self N x0 x1 x2 S =
(qle 88 x0 S).bind fun p0=>
(some (nwP 88 8 (Tr.ofListFrom .nil [(.int .u32 0),(.int .u32 0),(.int .u32 0),(.int .u32 0),(.int .u32 0),(.int .u32 0),(.int .u32 0),(.int .u32 0)] 0) p0.2)).bind fun p1=>
(some (nwP 89 64 (Tr.ofListFrom .nil [(.int .u32 0),(.int .u32 0),(.int .u32 0),(.int .u32 0),(.int .u32 0),(.int .u32 0),(.int .u32 0),(.int .u32 0),(.int .u32 0),(.int .u32 0),(.int .u32 0),(.int .u32 0),(.int .u32 0),(.int .u32 0),(.int .u32 0),(.int .u32 0),(.int .u32 0),(.int .u32 0),(.int .u32 0),(.int .u32 0),(.int .u32 0),(.int .u32 0),(.int .u32 0),(.int .u32 0),(.int .u32 0),(.int .u32 0),(.int .u32 0),(.int .u32 0),(.int .u32 0),(.int .u32 0),(.int .u32 0),(.int .u32 0),(.int .u32 0),(.int .u32 0),(.int .u32 0),(.int .u32 0),(.int .u32 0),(.int .u32 0),(.int .u32 0),(.int .u32 0),(.int .u32 0),(.int .u32 0),(.int .u32 0),(.int .u32 0),(.int .u32 0),(.int .u32 0),(.int .u32 0),(.int .u32 0),(.int .u32 0),(.int .u32 0),(.int .u32 0),(.int .u32 0),(.int .u32 0),(.int .u32 0),(.int .u32 0),(.int .u32 0),(.int .u32 0),(.int .u32 0),(.int .u32 0),(.int .u32 0),(.int .u32 0),(.int .u32 0),(.int .u32 0),(.int .u32 0)] 0) p1.2)).bind fun p3=>
qg5 self N (R74_4 self N (qb5 E0 self Tryz.f74) qak) (exB 0 (R74_4 self N (qb5 E0 self Tryz.f74) qak) qak) N x1 x2 p0.1 p1.1 (.fn (.func 100) [] []) p3.1 (.int .i64 0) p3.2:=by kernel_rfl
noncomputable def C100:Code:=Tryz.f100.body.getD .skip
noncomputable def B100:D:=(qao C100 [[],[],[0,4,7,8,9],[],[4],[],[],[],[0,4],[4],[]]).1
noncomputable def RL100:List Nat:=cellsOf Tryz.f100.results.toList
noncomputable def R100_1 (self:EV) (N:Nat) (nk:Ac->St->Rs) (ek:Nat->Ac->St->Rs) (a:Ac) (S:St):Rs:=qad [4] a fun a=>dr E0 self RL100 N (B100.r).r (mkK E0 self Tryz.f100 nk ek) a S
theorem R100_1_eq (self:EV) (N:Nat) (nk:Ac->St->Rs) (ek:Nat->Ac->St->Rs) ( v4:V) (S:St):R100_1 self N nk ek (fr 21 [(4,v4)]) S =
some (.ret v4,S):=by kernel_rfl
noncomputable def L100_7 (self:EV) (N:Nat) (nk:Ac->St->Rs) (ek:Nat->Ac->St->Rs) (n:Nat) ( v0 v4 v7 v8 v9:V) (S:St):Rs:=qbr [0,4,7,8,9] (dr E0 self RL100 N (B100.r.l.r.l.l)) (mkK E0 self Tryz.f100 nk ek) n (fr 21 [(0,v0),(4,v4),(7,v7),(8,v8),(9,v9)]) S
theorem L100_7_eq (self:EV) (N:Nat) (nk:Ac->St->Rs) (ek:Nat->Ac->St->Rs) (n:Nat) ( v0 v4 v7 v8 v9:V) (S:St):L100_7 self N nk ek (n+1) v0 v4 v7 v8 v9 S =
(qa4 E0 .lss 3 false false v9 v8).bind fun t8=>
ifK t8 (
(ixP 1 v7 v9).bind fun t9=>
(ld1 t9 S).bind fun p10=>
(unV .neg p10.1).bind fun t15=>
qaa (self.f 101 [v0,t15] p10.2) fun t16 S16=>
(qa4 E0 .xor 86 false false v4 t16).bind fun t17=>
(qa4 E0 .add 3 false true v9 (.int .i64 1)).bind fun t19=>
L100_7 self N nk ek n v0 t17 v7 v8 t19 S16) (
ek 0 (fr 21 [(4,v4)]) S):=by kernel_rfl
noncomputable def F100 (self:EV) (N:Nat) (x0 x1:V) (S:St):Rs:=qay E0 self N Tryz.f100 B100 [x0,x1] S
theorem F100_eq (self:EV) (N:Nat) (x0 x1:V) (S:St):F100 self N x0 x1 S =
(lnS x1 S).bind fun p5=>
L100_7 self N (R100_1 self N (qb5 E0 self Tryz.f100) qak) (exB 0 (R100_1 self N (qb5 E0 self Tryz.f100) qak) qak) N x0 (.int .u32 0) x1 p5.1 (.int .i64 0) p5.2:=by kernel_rfl
noncomputable def C101:Code:=Tryz.f101.body.getD .skip
noncomputable def B101:D:=(qao C101 [[],[],[]]).1
noncomputable def F101 (self:EV) (N:Nat) (x0 x1:V) (S:St):Rs:=qay E0 self N Tryz.f101 B101 [x0,x1] S
theorem F101_eq (self:EV) (N:Nat) (x0 x1:V) (S:St):F101 self N x0 x1 S =
(cvI .u64 x1 S).bind fun p2=>
(qa4 E0 .and 68 false true p2.1 (.int .u64 31)).bind fun t3=>
(qa4 E0 .shl 86 false false x0 t3).bind fun t7=>
(qa4 E0 .sub 68 true false (.int .u64 32) t3).bind fun t10=>
(qa4 E0 .shr 86 false false x0 t10).bind fun t11=>
(qa4 E0 .or 86 false false t7 t11).bind fun t12=>
some (.ret t12,p2.2):=by kernel_rfl
end
end Go.Proofs.YtpgegoeghaplkaaGreatDoor.W
namespace Go.Proofs.YtpgegoeghaplkaaGreatDoor.W
open Go.Proofs.YtpgegoeghaplkaaGreatDoor.Ev Go.RowKit
def w32 (x:UInt32):V:=.int .u32 (x.toNat:Int)
theorem qj7 (x:UInt32):qdr .u32 (x.toNat:Int)=x.toNat:=by
 have:=x.toNat_lt;show x.toNat%qbo .u32=_;rw[show qbo .u32=4294967296 from rfl]; omega
theorem u32_of {n:Nat} (h:n<4294967296):qev .u32 n=(n:Int):=by
 unfold qev;rw[show Nat.blt n (qdo .u32)=true from blt_true.2 h]; rfl
theorem qm4 (n:Nat):IntKind.u32.wrap (n:Int)=((n%4294967296:Nat):Int):=by
 unfold IntKind.wrap;have e1:IntKind.u32.bits=32:=rfl;have e2:IntKind.u32.signed=false:=rfl;simp only[e1,e2,Bool.false_and,Bool.false_eq_true,if_false];omega
theorem u8_wrap (n:Nat):IntKind.u8.wrap (n:Int)=((n%256:Nat):Int):=by
 unfold IntKind.wrap;have e1:IntKind.u8.bits=8:=rfl;have e2:IntKind.u8.signed=false:=rfl;simp only[e1,e2,Bool.false_and,Bool.false_eq_true,if_false];omega
def sr (x:UInt32) (n:Nat):UInt32:=UInt32.ofNat (x.toNat/2^n)
def sl (x:UInt32) (n:Nat):UInt32:=UInt32.ofNat (x.toNat*2^n)
theorem sr_nat (x:UInt32) (n:Nat):(sr x n).toNat=x.toNat/2^n:=by
 unfold sr;rw[UInt32.toNat_ofNat',Nat.mod_eq_of_lt (Nat.lt_of_le_of_lt (Nat.div_le_self _ _) x.toNat_lt)]
theorem sl_nat (x:UInt32) (n:Nat):(sl x n).toNat=x.toNat*2^n%4294967296:=by
 unfold sl;rw[UInt32.toNat_ofNat']
theorem qmd (c d:Bool) (x y:UInt32):qa4 E0 .add 86 c d (w32 x) (w32 y)=some (w32 (x+y)):=by
 unfold w32;rw[binV_ii,intsV_add,show((x.toNat:Int)+(y.toNat:Int))=((x.toNat+y.toNat:Nat):Int) by omega,qm4,UInt32.toNat_add]
theorem and32 (c d:Bool) (x y:UInt32):qa4 E0 .and 86 c d (w32 x) (w32 y)=some (w32 (x &&& y)):=by
 show some (V.int .u32 (qev .u32 (Nat.land (qdr .u32 (x.toNat:Int)) (qdr .u32 (y.toNat:Int)))))=_;rw[qj7,qj7,show Nat.land x.toNat y.toNat=(x &&& y).toNat from rfl,u32_of (UInt32.toNat_lt _)]; rfl
theorem or32 (c d:Bool) (x y:UInt32):qa4 E0 .or 86 c d (w32 x) (w32 y)=some (w32 (x ||| y)):=by
 show some (V.int .u32 (qev .u32 (Nat.lor (qdr .u32 (x.toNat:Int)) (qdr .u32 (y.toNat:Int)))))=_;rw[qj7,qj7,show Nat.lor x.toNat y.toNat=(x ||| y).toNat from(UInt32.toNat_or ..).symm,u32_of (UInt32.toNat_lt _)]; rfl
theorem xor32 (c d:Bool) (x y:UInt32):qa4 E0 .xor 86 c d (w32 x) (w32 y)=some (w32 (x ^^^ y)):=by
 show some (V.int .u32 (qev .u32 (Nat.xor (qdr .u32 (x.toNat:Int)) (qdr .u32 (y.toNat:Int)))))=_;rw[qj7,qj7,show Nat.xor x.toNat y.toNat=(x ^^^ y).toNat from(UInt32.toNat_xor ..).symm,u32_of (UInt32.toNat_lt _)]; rfl
def nt (x:UInt32):UInt32:=UInt32.ofNat (4294967295-x.toNat)
theorem not32 (x:UInt32):unV .xor (w32 x)=some (w32 (nt x)):=by
 have:=x.toNat_lt;show some (V.int .u32 (qev .u32 (qbo .u32-1-qdr .u32 (x.toNat:Int))))=_;rw[qj7,show qbo .u32=4294967296 from rfl,u32_of (by omega)];unfold nt w32;rw[UInt32.toNat_ofNat',Nat.mod_eq_of_lt (by omega)]
theorem shr32 (c d:Bool) (k:IntKind) (x:UInt32) {n:Nat} (hn:n<=32):qa4 E0 .shr 86 c d (w32 x) (.int k (n:Int))=some (w32 (sr x n)):=by
 show some (V.int .u32 ((x.toNat:Int).fdiv (.ofNat (2^min n 32))))=_;rw[Nat.min_eq_left hn];unfold w32;rw[sr_nat,show(x.toNat:Int).fdiv (Int.ofNat (2^n))=(x.toNat:Int)/((2^n:Nat):Int)from Int.fdiv_eq_ediv_of_nonneg _ (Int.natCast_nonneg _)];rfl
theorem shl32 (c d:Bool) (k:IntKind) (x:UInt32) {n:Nat} (hn:n<=32):qa4 E0 .shl 86 c d (w32 x) (.int k (n:Int))=some (w32 (sl x n)):=by
 show some (V.int .u32 (qhq .u32 ((x.toNat:Int)*.ofNat (2^min n 32))))=_;rw[Nat.min_eq_left hn,qba,show(x.toNat:Int)*Int.ofNat (2^n)=((x.toNat*2^n:Nat):Int)from(Int.natCast_mul ..).symm,qm4];unfold w32;rw[sl_nat]
theorem cv32 (c:UInt8) (S:St):cvI .u32 (.int .u8 (c.toNat:Int)) S=some (w32 c.toUInt32,S):=by
 rw[cvI_int,qm4];have:=c.toNat_lt;unfold w32;rw[UInt8.toNat_toUInt32,Nat.mod_eq_of_lt (by omega)]
def b8 (x:UInt32):UInt8:=UInt8.ofNat x.toNat
theorem cv8w (x:UInt32) (S:St):cvI .u8 (w32 x) S=some (.int .u8 ((b8 x).toNat:Int),S):=by
 unfold w32 b8;rw[cvI_int,u8_wrap,UInt8.toNat_ofNat']
def rot (x:UInt32) (j:Nat):UInt32:=sl x j ||| sr x (32-j)
def turns (x:UInt32) (l:List Nat):UInt32:=l.foldl (fun y n=>y ^^^ rot x (32-n)) 0
theorem neg31 {n:Nat} (h:1<=n/\n<=31):qa4 E0 .and 68 false true (.int .u64 (IntKind.u64.wrap (IntKind.i64.wrap (0-(n:Int))))) (.int .u64 31)=some (.int .u64 ((32-n:Nat):Int)):=by
 have hall:((List.range 32).all fun n=>Nat.beq n 0||isInt .u64 (32-n) (qdp .and .u64 (qhq .u64 (qhq .i64 (0-(.ofNat n)))) .u64 31))=true:=by decide +kernel
 have:=List.all_eq_true.1 hall n (List.mem_range.2 (by omega));rw[Bool.or_eq_true]at this;rcases this with h0|h0
 . have:=beq_true.1 h0; omega
 . have:=qjo h0
   rw[qba,qba]at this;rw[binV_ii];exact this
theorem neg_n (n:Nat):unV .neg (.int .i64 (n:Int))=some (.int .i64 (IntKind.i64.wrap (0-(n:Int)))):=by
 show some (V.int .i64 (qhq .i64 (0-(n:Int))))=_;rw[qba]
theorem sub32 (c d:Bool) {n:Nat} (h:n<=31):qa4 E0 .sub 68 c d (.int .u64 32) (.int .u64 (n:Int))=some (.int .u64 ((32-n:Nat):Int)):=by
 rw[binV_ii,intsV_sub];have:((32:Int)-(n:Int))=((32-n:Nat):Int):=by omega
 rw[this,wrap_u64 (by omega) (by omega)]
section
variable {S T U:St} {K:FuncId->Option KF}
theorem f101_run (k101:K 101=none) (m:Nat) (x:UInt32) {n:Nat} (h:1<=n/\n<=31) (S:St):(ev E0 K (m+1)).f 101 [w32 x,.int .i64 (IntKind.i64.wrap (0-(n:Int)))] S=some (.ret (w32 (rot x (32-n))),S):=by
 refine qa5 (fn:=Tryz.f101) (c:=C101) (d:=B101) (by kernel_rfl) (by kernel_rfl) (qa2 C101 _ (by kernel_rfl)) k101 ?_;show F101 (ev E0 K m) qa1 _ _ S=_;rw[F101_eq,cvI_int,oB];dsimp only;rw[neg31 h,oB,shl32 _ _ _ _ (by omega),oB,sub32 _ _ (by omega),oB,shr32 _ _ _ _ (by omega),oB,or32,oB];rfl
abbrev Turn (n:Nat):Prop:=1<=n/\n<=31
theorem L100_spec (k101:K 101=none) {m N:Nat} (nk:Ac->St->Rs) (ek:Nat->Ac->St->Rs) (ho:S.on=false) (x:UInt32) {r c:Nat} {l:List Nat} (hr:RowAt S r 3 1 (l.map fun n:Nat=>Ev.one (.int .i64 (n:Int)))) (hl:l.length<1000) (hT:∀n∈l,Turn n) :
 ∀(rest:List Nat) (i q:Nat) (y:UInt32) (L:List LE),l.drop i=rest->rest.length<q->(∀e∈L,e.w=false/\e.b=r)->
 ∃L',L100_7 (ev E0 K (m+1)) N nk ek q (w32 x) (w32 y) (.slice r 0 l.length c) (.int .i64 (l.length:Int)) (.int .i64 (i:Int)) (S.lg L)=ek 0 (fr 21 [(4,w32 (rest.foldl (fun y n=>y ^^^ rot x (32-n)) y))]) (S.lg L')/\∀e∈L',e.w=false/\e.b=r
 | _,_,0,_,_,_,hq,_=>by omega
 | [],i,q+1,y,L,hi,hq,hL=>by
  refine⟨L,?_,hL⟩;rw[L100_7_eq,qff,dF (Nat.not_lt.2 (qbe hi)),oB,ifK_bool,cF];rfl
 | n::rest,i,q+1,y,L,hi,hq,hL=>by
  obtain⟨hil,hf,hrest,hmem⟩:=qbv hi
  have hix:ixP 1 (.slice r 0 l.length c) (.int .i64 (i:Int))=some (.ptr r i):=by
   show(bif Nat.blt i l.length then some (V.ptr r (0+i*1))else none)=_;rw[blt_true.2 hil,cT,Nat.zero_add,Nat.mul_one]
  have hld:ld1 (.ptr r i) S=some (.int .i64 (n:Int),S):=hr.ld1 ho (by rw[List.getElem?_map,List.getElem?_eq_getElem hil,hf]; rfl);have hld':=qbj ho hld L
  obtain⟨L',k1,k2⟩:=L100_spec k101 (m:=m) (N:=N) nk ek ho x hr hl hT rest (i+1) q (y ^^^ rot x (32-n)) (⟨r,i,i+1,false⟩::L) hrest (by simpa using hq) (fun e he=>by
   rcases List.mem_cons.1 he with rfl|he
   . exact⟨rfl,rfl⟩
   . exact hL e he)
  refine⟨L',?_,k2⟩;rw[L100_7_eq,qff,dT hil,oB,ifK_bool,cT,hix,oB,hld',oB];dsimp only;rw[neg_n,oB,f101_run k101 m x (hT n hmem),callP_ret,xor32,oB,qds (by omega),oB,k1];rfl
theorem f100_run (k100:K 100=none) (k101:K 101=none) (m:Nat) (ho:S.on=false) (x:UInt32) {r c:Nat} {l:List Nat} (hr:RowAt S r 3 1 (l.map fun n:Nat=>Ev.one (.int .i64 (n:Int)))) (hl:l.length<1000) (hT:∀n∈l,Turn n):∃L,(ev E0 K (m+2)).f 100 [w32 x,.slice r 0 l.length c] (S.lg [])=some (.ret (w32 (turns x l)),S.lg L)/\∀e∈L,e.w=false/\e.b=r:=by
 obtain⟨L,h1,h2⟩:=L100_spec k101 (m:=m) (N:=qa1) (c:=c) (R100_1 (ev E0 K (m+1)) qa1 (qb5 E0 (ev E0 K (m+1)) Tryz.f100) qak) (exB 0 (R100_1 (ev E0 K (m+1)) qa1 (qb5 E0 (ev E0 K (m+1)) Tryz.f100) qak) qak) ho x hr hl hT l 0 qa1 0 [] rfl (by unfold qa1; omega) (fun e he=>by cases he);refine⟨L,?_,h2⟩;refine qa5 (fn:=Tryz.f100) (c:=C100) (d:=B100) (by kernel_rfl) (by kernel_rfl) (qa2 C100 _ (by kernel_rfl)) k100 ?_;show F100 (ev E0 K (m+1)) qa1 _ _ (S.lg [])=_;rw[F100_eq,qjq (n:=l.length) (fun _ _ e=>by cases e) rfl,oB];dsimp only;rw[show V.int .i64 0=.int .i64 ((0:Nat):Int)from rfl];refine Eq.trans h1 ?_;rw[exB_same,R100_1_eq];rfl
end
def TagOk (r1 r2:Nat):Nat->LE->Prop
 | 1,e=>e.w=false/\e.b≠r1/\e.b≠r2
 | 2,e=>e.b=r1
 | 3,e=>e.b=r2
 | 4,_=>True
 | _,_=>False
def Tags (r1 r2:Nat):List (List LE)->List Nat->Prop
 | [],_=>True
 | L::ls,[]=>(∀e∈L,False)/\Tags r1 r2 ls []
 | L::ls,k::ks=>(∀e∈L,TagOk r1 r2 k e)/\Tags r1 r2 ls ks
def tagAt (i:Nat):List Nat->Nat
 | []=>0
 | k::ks=>if i=0 then k else tagAt (i-1) ks
theorem tags_at {r1 r2:Nat}:∀{logs:List (List LE)} {tags:List Nat} (i:Nat),Tags r1 r2 logs tags->∀e∈qel i logs,TagOk r1 r2 (tagAt i tags) e
 | [],_,_,_,_,h=>by cases h
 | L::ls,[],i,hT,e,h=>by
  unfold qel at h;cases hi:Nat.beq i 0 with
  | true=>
   rw[hi]at h;exact(hT.1 e h).elim
  | false=>
   rw[hi]at h;have:=tags_at (i-1) hT.2 e h;exact this
 | L::ls,k::ks,i,hT,e,h=>by
  unfold qel at h;unfold tagAt;cases hi:Nat.beq i 0 with
  | true=>
   rw[hi]at h;rw[iP (Nat.eq_of_beq_eq_true hi)];exact hT.1 e h
  | false=>
   rw[hi]at h;rw[iN (fun q=>by rw[q]at hi; cases hi)];exact tags_at (i-1) hT.2 e h
def compat (a b:Nat):Bool:=(a==0||b==0)||(a != 4&&b != 4&&((a==1&&b==1)||a != b))
theorem compat_ok {r1 r2 a b:Nat} (hr:r1≠r2) (h:compat a b=true) {e f:LE} (he:TagOk r1 r2 a e) (hf:TagOk r1 r2 b f):e.b≠f.b\/(e.w=false/\f.w=false):=by
 by_cases h4:a=4
 . subst h4
   match b,hf with
   | 1,_=>cases h
   | 2,_=>cases h
   | 3,_=>cases h
   | 4,_=>cases h
 by_cases k4:b=4
 . subst k4
   match a,he with
   | 1,_=>cases h
   | 2,_=>cases h
   | 3,_=>cases h
   | 4,_=>cases h
 match a,b,he,hf with
 | 1,1,he,hf=>exact .inr ⟨he.1,hf.1⟩
 | 1,2,he,hf=>exact .inl fun q=>he.2.1 (q.trans hf)
 | 1,3,he,hf=>exact .inl fun q=>he.2.2 (q.trans hf)
 | 2,1,he,hf=>exact .inl fun q=>hf.2.1 (q.symm.trans he)
 | 3,1,he,hf=>exact .inl fun q=>hf.2.2 (q.symm.trans he)
 | 2,3,he,hf=>exact .inl fun q=>hr ((Eq.symm he).trans (q.trans hf))
 | 3,2,he,hf=>exact .inl fun q=>hr ((Eq.symm hf).trans (q.symm.trans he))
 | 4,_,_,_=>exact(h4 rfl).elim
 | 1,4,_,_=>exact(k4 rfl).elim
 | 2,4,_,_=>exact(k4 rfl).elim
 | 3,4,_,_=>exact(k4 rfl).elim
 | 2,2,_,_=>cases h
 | 3,3,_,_=>cases h
theorem qmr {x:List LE} {logs:List (List LE)}:∀{js:List Nat},(∀j∈js,qbu x (qel j logs)=false)->qdd x logs js=false
 | [],_=>rfl
 | j::js,h=>by
  unfold qdd;rw[h j (List.mem_cons_self ..)];exact qmr fun k hk=>h k (mO _ hk)
theorem qcn {r1 r2:Nat} (hr:r1≠r2) {logs:List (List LE)} {tags:List Nat} (hT:Tags r1 r2 logs tags):∀{prs:List (Nat×List Nat)},(prs.all fun p=>p.2.all fun j=>compat (tagAt p.1 tags) (tagAt j tags))=true->qaq logs prs=true
 | [],_=>rfl
 | (i,js)::l,h=>by
  rw[List.all_cons,bA]at h;unfold qaq;rw[qmr fun j hj=>qc3 fun e he f hf=>compat_ok hr (List.all_eq_true.1 h.1 j hj) (tags_at i hT e he) (tags_at j hT f hf)];exact qcn hr hT h.2
def updW (f:Nat->UInt32) (i:Nat) (x:UInt32):Nat->UInt32:=fun j=>if j=i then x else f j
section
variable {S T U:St} {f g:Nat->UInt32}
def Arr (S:St) (b e z:Nat) (f:Nat->UInt32):Prop:=S.on=false/\∃t,AgAt S b e z t/\∀i,i<z->t.get i=some (w32 (f i))
def AggV (z:Nat) (v:V) (f:Nat->UInt32):Prop:=∃t,v=.agg z t/\∀i,i<z->t.get i=some (w32 (f i))
theorem Arr.ext {b e z:Nat} (h:Arr S b e z f) (he:∀i,i<z->f i=g i):Arr S b e z g:=by
 obtain⟨ho,t,h1,h2⟩:=h;exact⟨ho,t,h1,fun i hi=>by rw[<- he i hi]; exact h2 i hi⟩
theorem Arr.grew {W:Nat->Prop} {b e z:Nat} (h:Arr S b e z f) (hb:b<S.next) (hw:¬W b) (g:Grew W S T):Arr T b e z f:=by
 obtain⟨ho,t,h1,h2⟩:=h;exact⟨g.on.trans ho,t,h1.grew hb hw g,h2⟩
theorem Arr.ld {b e z i:Nat} (h:Arr S b e z f) (hz:z<big) (hi:i<z):ld1 (.ptr b i) S=some (w32 (f i),S):=by
 obtain⟨ho,t,h1,h2⟩:=h;exact h1.ld1 ho hz hi (h2 i hi)
theorem Arr.ldOn {b e z i:Nat} (h:Arr S b e z f) (hz:z<big) (hi:i<z) (L:List LE):ld1 (.ptr b i) (S.lg L)=some (w32 (f i),S.lg (⟨b,i,i+1,false⟩::L)):=
 qbj h.1 (h.ld hz hi) L
theorem Arr.st {b e z i:Nat} (h:Arr S b e z f) (hz:z<big) (h1z:1<z) (hi:i<z) (n:UInt32):∃U,stP 1 (.ptr b i) (w32 n) S=some (.tuple [],U)/\Arr U b e z (updW f i n)/\Grew (fun x=>x=b) S U/\U.next=S.next:=by
 obtain⟨ho,t,h1,h2⟩:=h;obtain⟨w,k1,k2,k3,k4⟩:=h1.st1 ho hz h1z hi (w32 n) rfl rfl rfl;refine⟨w,k1,⟨k3.on.trans ho,_,k2,fun j hj=>?_⟩,k3,k4⟩;rw[Tr.get_set];unfold updW;by_cases e:j=i
 . rw[iP e,iP e]
 . rw[iN e,iN e]; exact h2 j hj
theorem Arr.all {b e z:Nat} (h:Arr S b e z f) (hz:z<big):∃v,ldA z (.ptr b 0) S=some (v,S)/\ldrA z (.ptr b 0) S=some (v,S)/\AggV z v f:=by
 obtain⟨ho,t,h1,h2⟩:=h;exact⟨_,h1.ldA ho hz,h1.ldrA ho hz,t,rfl,h2⟩
theorem Arr.put {b e z:Nat} (h:Arr S b e z f) (hz:z<big) {v:V} (hv:AggV z v g):∃U,stP z (.ptr b 0) v S=some (.tuple [],U)/\Arr U b e z g/\Grew (fun x=>x=b) S U/\U.next=S.next:=by
 obtain⟨ho,t,h1,h2⟩:=h;obtain⟨u,rfl,hu⟩:=hv;obtain⟨w,k1,k2,k3,k4⟩:=h1.stA ho hz u;exact⟨w,k1,⟨k3.on.trans ho,u,k2,hu⟩,k3,k4⟩
theorem Arr.newOf (ho:S.on=false) (e z:Nat) {t:Tr V} (h:∀i,i<z->t.get i=some (w32 (f i))):Arr (nwP e z t S).2 S.next e z f/\Grew (fun _=>False) S (nwP e z t S).2/\(nwP e z t S).2.next=S.next+1:=by
 obtain⟨h1,h2,h3⟩:=qbt ho e z t;exact⟨⟨h2.on.trans ho,t,h1,h⟩,h2,h3⟩
theorem zeros (z:Nat) (l:List V) (hl:l=List.replicate z (.int .u32 0)):∀i,i<z->(Tr.ofListFrom .nil l 0).get i=some (w32 ((fun _=>(0:UInt32)) i)):=fun i hi=>by
 rw[Tr.get_ofList,hl,List.getElem?_replicate,iP hi];rfl
theorem qmi:64<big:=by unfold big; decide
theorem qjd:8<big:=by unfold big; decide
theorem ixAr {z b i:Nat} (h:i<z):ixA z 1 false 1 (.ptr b 0) (.int .i64 (i:Int))=some (.ptr b i):=by
 show(bif Nat.blt i z then some (V.ptr b (0+i*1))else none)=_;rw[blt_true.2 h,cT,Nat.zero_add,Nat.mul_one]
def Blk (S:St) (v:V) (g:Nat->UInt8):Prop:=∃(r off:Nat) (bs:Bs),v=.oslice r off 64 1/\RowAt S r 5 1 (bs.map qbb)/\(∀i,i<64->bs[off+i]?=some (g i))/\r<S.next
theorem Blk.grew {W:Nat->Prop} {v:V} {g:Nat->UInt8} (h:Blk S v g) (hw:∀r off,v=.oslice r off 64 1->¬W r) (k:Grew W S T):Blk T v g:=by
 obtain⟨r,off,bs,h1,h2,h3,h4⟩:=h;exact⟨r,off,bs,h1,h2.grew h4 (hw r off h1) k,h3,Nat.lt_of_lt_of_le h4 k.next⟩
theorem Blk.ld {v:V} {g:Nat->UInt8} (h:Blk S v g) (ho:S.on=false) {i:Nat} (hi:i<64) (L:List LE):∃p r o,ixP 1 v (.int .i64 (i:Int))=some p/\ld1 p (S.lg L)=some (.int .u8 ((g i).toNat:Int),S.lg (⟨r,o,o+1,false⟩::L)):=by
 obtain⟨r,off,bs,rfl,h2,h3,h4⟩:=h;have hx:(bs.map qbb)[off+i]?=some (qbb (g i)):=by rw[List.getElem?_map,h3 i hi]; rfl
 refine⟨.ptr r (off+i),r,off+i,?_,qbj ho (show ld1 (.ptr r (off+i)) S=_ from h2.ld1 ho hx) L⟩;show(bif Nat.blt i 64 then some (V.ptr r (off+i*1))else none)=_;rw[blt_true.2 hi,cT,Nat.mul_one]
theorem mul4 {i:Nat} (h:i<1000):qa4 E0 .mul 3 true false (.int .i64 4) (.int .i64 (i:Int))=some (.int .i64 ((4*i:Nat):Int)):=by
 rw[binV_ii,intsV_mul,show((4:Int)*(i:Int))=((4*i:Nat):Int) by omega,qc0 (by omega) (by omega)]
theorem addC {i:Nat} (k:Nat) (h:i<100000) (hk:k<1000):qa4 E0 .add 3 false true (.int .i64 (i:Int)) (.int .i64 (k:Int))=some (.int .i64 ((i+k:Nat):Int)):=by
 rw[binV_ii,intsV_add,show((i:Int)+(k:Int))=((i+k:Nat):Int) by omega,qc0 (by omega) (by omega)]
theorem subC {i:Nat} (k:Nat) (h:k<=i) (hi:i<100000):qa4 E0 .sub 3 false true (.int .i64 (i:Int)) (.int .i64 (k:Int))=some (.int .i64 ((i-k:Nat):Int)):=by
 rw[binV_ii,intsV_sub,show((i:Int)-(k:Int))=((i-k:Nat):Int) by omega,qc0 (by omega) (by omega)]
end
section
variable {S T U:St}
theorem Grew.same {W:Nat->Prop} {a b c:St} (h:Grew W a b) (h1:c.heap=b.heap) (h2:c.next=b.next) (h3:c.on=b.on):Grew W a c:=⟨by rw[h2]; exact h.next,h3.trans h.on,fun x hx hw=>by rw[h1]; exact h.keep x hx hw⟩
theorem Grew.then {W W':Nat->Prop} {a b c:St} (h:Grew W a b) (k:Grew W' b c) (hw:∀x,x<a.next->W' x->W x):Grew W a c:=
 ⟨Nat.le_trans h.next k.next,k.on.trans h.on,fun x hx hn=>(k.keep x (Nat.lt_of_lt_of_le hx h.next) fun e=>hn (hw x hx e)).trans (h.keep x hx hn)⟩
def RwS (S:St) (v:V) (z:Nat) (L:List (Tr V)):Prop:=lenV v=some L.length/\qb7 z L.length v S=some (L,S)
theorem app_more {e z B r:Nat} (ho:S.on=false) {y:V} {M L:List (Tr V)} (hr:RowAt S r e z M) (h:RwS S y z L) (hL:L≠[]) (hB:(M.length+L.length)*(B+z+1)<qac) (hbig:z*(M.length+L.length)<big) :
 ∃U,apP e z B (.oslice r 0 M.length z) y S=some (.oslice S.next 0 (M.length+L.length) z,U)/\RowAt U S.next e z (M++L)/\Grew (fun x=>x=r) S U/\U.next=S.next+1:=by
 obtain⟨c,hc1,hc2⟩:=hr.row;have hfit:=hr.fit;have hz:=hr.pos;have hLp:0<L.length:=List.length_pos_iff.2 hL;refine⟨nw (S.put r .dead) (.cells e z (M.length+L.length) false (Ev.addL c L M.length)),?_,?_,?_,rfl⟩
 . unfold apP
   rw[h.1,oB,show lenV (.oslice r 0 M.length z)=some M.length from rfl,oB,blt_true.2 hB,cT];unfold qcb;rw[h.2,oB];simp only;rw[Nat.beq_refl,cT];unfold qgi;rw[hc1];simp only[blt_true.2 hfit,cT,oB,qaw ho]
   rw[show Nat.ble (0+(M.length+L.length)*z) (z*M.length)=false from by
    rw[ble_false,Nat.zero_add,Nat.mul_comm z,Nat.add_mul];have:0<L.length*z:=Nat.mul_pos hLp hz
    omega,cF]
   unfold qgt;rw[hc1];simp only[Nat.beq_refl,Bool.not_true,Bool.or_self,cF,show Nat.beq 0 0=true from rfl,blt_true.2 hfit,Bool.and_self,cT];rw[qcp,qgh ho]
 . refine qeh (s:=S.put r .dead) ho hz (by rw[lAq]) hbig fun i t hi=>?_
   rw[Ev.addL_get];have hlt:=(List.getElem?_eq_some_iff.1 hi).1;rw[lAq]at hlt;by_cases hc:M.length<=i
   . rw[iP ⟨hc,hlt⟩]
     rw[List.getElem?_append_right hc]at hi;exact hi
   . rw[iN (fun h=>hc h.1)]
     rw[List.getElem?_append_left (by omega)]at hi;exact hc2 i t hi
 . exact⟨by show S.next<=S.next+1; omega,(nw_on (s:=S.put r .dead) ho _).trans ho.symm,fun x hx hw=>by
    rw[qe9,iN (by show x≠S.next; omega),qc1,iN hw]⟩
theorem sizeB_off (ho:S.on=false) {r e:Nat} {l:List (Tr V)} (h:RowAt S r e 1 l):qgi S r=some (l.length,S):=by
 obtain⟨c,h1,_⟩:=h.row;unfold qgi;rw[h1];simp only[show 1*l.length=l.length from Nat.one_mul _,blt_true.2 h.len,cT,qaw ho]
def One (S:St) (b e:Nat) (v:V):Prop:=RowAt S b e 1 [Ev.one v]
theorem One.ld {b e:Nat} {v:V} (h:One S b e v) (ho:S.on=false):ld1 (.ptr b 0) S=some (v,S):=RowAt.ld1 ho h rfl
theorem One.grew {W:Nat->Prop} {b e:Nat} {v:V} (h:One S b e v) (hb:b<S.next) (hw:¬W b) (g:Grew W S T):One T b e v:=RowAt.grew h hb hw g
end
noncomputable def KH1:=qfo K2 97 kfCube
theorem okH1:KnOk Tryz.prog E0 KH1:=ok2.add cube_well
noncomputable def KH2:=qfo KH1 98 kfSquare
theorem okH2:KnOk Tryz.prog E0 KH2:=okH1.add square_well
noncomputable def KH:=qfo KH2 72 kfConst
theorem okH:KnOk Tryz.prog E0 KH:=okH2.add (const_well okH2 rfl rfl rfl)
theorem kh100:KH 100=none:=rfl
theorem kh101:KH 101=none:=rfl
theorem ons (S:St):onS S=S.lg []:=rfl
theorem qbk (S:St) (L M:List LE):(S.lg L).lg M=S.lg M:=rfl
section
variable {S T U:St} {f g:Nat->UInt32}
def zz (S U:St):St:={U with on:=false,log:=S.log}
theorem qcd (ho:S.on=false) (U:St) (l:List LE) (ls:List (List LE)):qb8 S (U.lg l) ls=zz S U:=by
 unfold qb8 zz;rw[ho]; rfl
theorem qga {W:Nat->Prop} (ho:S.on=false) (g:Grew W S U):Grew W S (zz S U):=Grew.same g rfl rfl (by show false=U.on; rw[g.on,ho])
theorem qfe (ho:S.on=false) (hU:U.on=false):Grew (fun _=>False) U (zz S U):=Grew.same (Grew.refl _ _) rfl rfl (by show false=U.on; rw[hU])
theorem body84:E0.ext.get 100=none/\qat E0 100=true:=⟨by kernel_rfl,by kernel_rfl⟩
theorem ints_one (l:List Int):∀v∈l.map (V.int .i64),OneV v:=fun v hv=>by
 rw[List.mem_map]at hv;obtain⟨n,_,rfl⟩:=hv;exact⟨rfl,rfl,rfl,rfl⟩
theorem turn2 (m:Nat) (ho:S.on=false) (x:UInt32) (a b:Nat) (ha:Turn a) (hb:Turn b):∃U L,bsP 3 1 2 (Ev.one (.int .i64 0)) [(0,(.int .i64 (a:Int))),(1,(.int .i64 (b:Int)))] (S.lg [])=some (.slice S.next 0 2 2,U.lg [⟨S.next,0,big,true⟩])/\
 qc2 E0 (ev E0 KH (m+2)) (.fn (.func 100) [] []) [w32 x,.slice S.next 0 2 2] (U.lg [])=some (.ret (w32 (turns x [a,b])),U.lg L)/\(∀e∈L,e.b=S.next)/\Grew (fun _=>False) S U/\U.next=S.next+1:=by
 obtain⟨U,a1,a2,a3,a4⟩:=qdc ho 3 (Ev.one (.int .i64 0)) ([(a:Int),(b:Int)].map (V.int .i64)) (ints_one _) (by show 2<big; unfold big; decide);have hr:RowAt U S.next 3 1 ([a,b].map fun n:Nat=>Ev.one (.int .i64 (n:Int))):=a2
 obtain⟨L,h1,h2⟩:=f100_run kh100 kh101 m (a3.on.trans ho) x (c:=2) hr (by show 2<1000; omega) (fun n hn=>by
  rcases List.mem_cons.1 hn with rfl|hn
  . exact ha
  . rw[List.mem_singleton.1 hn]; exact hb)
 refine⟨U,L,a1 (some []),?_,fun e he=>(h2 e he).2,a3,a4⟩;rw[qb6 body84.1 body84.2];exact h1
theorem turn3 (m:Nat) (ho:S.on=false) (x:UInt32) (a b c:Nat) (ha:Turn a) (hb:Turn b) (hc:Turn c):∃U L,bsP 3 1 3 (Ev.one (.int .i64 0)) [(0,(.int .i64 (a:Int))),(1,(.int .i64 (b:Int))),(2,(.int .i64 (c:Int)))] (S.lg [])=some (.slice S.next 0 3 3,U.lg [⟨S.next,0,big,true⟩])/\
 qc2 E0 (ev E0 KH (m+2)) (.fn (.func 100) [] []) [w32 x,.slice S.next 0 3 3] (U.lg [])=some (.ret (w32 (turns x [a,b,c])),U.lg L)/\(∀e∈L,e.b=S.next)/\Grew (fun _=>False) S U/\U.next=S.next+1:=by
 obtain⟨U,a1,a2,a3,a4⟩:=qdc ho 3 (Ev.one (.int .i64 0)) ([(a:Int),(b:Int),(c:Int)].map (V.int .i64)) (ints_one _) (by show 3<big; unfold big; decide);have hr:RowAt U S.next 3 1 ([a,b,c].map fun n:Nat=>Ev.one (.int .i64 (n:Int))):=a2
 obtain⟨L,h1,h2⟩:=f100_run kh100 kh101 m (a3.on.trans ho) x (c:=3) hr (by show 3<1000; omega) (fun n hn=>by
  rcases List.mem_cons.1 hn with rfl|hn
  . exact ha
  . rcases List.mem_cons.1 hn with rfl|hn
    . exact hb
    . rw[List.mem_singleton.1 hn]; exact hc)
 refine⟨U,L,a1 (some []),?_,fun e he=>(h2 e he).2,a3,a4⟩;rw[qb6 body84.1 body84.2];exact h1
theorem sixteen (i:Nat):qa4 E0 .lss 3 false true (.int .i64 (i:Int)) (.int .i64 16)=some (.bool (decide (i<16))):=by
 rw[show V.int .i64 16=.int .i64 ((16:Nat):Int)from rfl,binV_ii,intsV_lss]
 congr 2
 simp;omega
theorem sixty (i:Nat):qa4 E0 .lss 3 false true (.int .i64 (i:Int)) (.int .i64 64)=some (.bool (decide (i<64))):=by
 rw[show V.int .i64 64=.int .i64 ((64:Nat):Int)from rfl,binV_ii,intsV_lss]
 congr 2
 simp;omega
def word16 (g:Nat->UInt8) (i:Nat):UInt32:=sl (g (4*i)).toUInt32 24 ||| sl (g (4*i+1)).toUInt32 16 ||| sl (g (4*i+2)).toUInt32 8 ||| (g (4*i+3)).toUInt32
def word48 (f:Nat->UInt32) (i:Nat):UInt32:=f (i-16)+(turns (f (i-15)) [7,18] ^^^ sr (f (i-15)) 3)+f (i-7)+(turns (f (i-2)) [17,19] ^^^ sr (f (i-2)) 10)
def nextW (g:Nat->UInt8) (f:Nat->UInt32) (i:Nat):UInt32:=if i<16 then word16 g i else word48 f i
def sched (g:Nat->UInt8):Nat->Nat->(Nat->UInt32)->Nat->UInt32
 | 0,_,f=>f
 | d+1,i,f=>sched g d (i+1) (updW f i (nextW g f i))
theorem step16 {m N wb:Nat} (hA:Arr S wb 89 64 f) (hw:wb<S.next) {v1 v2 v3 v6 v7:V} {g:Nat->UInt8} (hb:Blk S v1 g) (nk:Ac->St->Rs) (ek:Nat->Ac->St->Rs) {i q:Nat} (hi:i<16) :
 ∃U,Arr U wb 89 64 (updW f i (word16 g i))/\Grew (fun x=>x=wb) S U/\qg5 (ev E0 KH (m+3)) N nk ek (q+1) v1 v2 v3 v6 v7 (.ptr wb 0) (.int .i64 (i:Int)) S=qg5 (ev E0 KH (m+3)) N nk ek q v1 v2 v3 v6 v7 (.ptr wb 0) (.int .i64 ((i+1:Nat):Int)) U:=by
 have ho:=hA.1;obtain⟨p1,r,o1,a1,a2⟩:=hb.ld ho (i:=4*i) (by omega) [];obtain⟨p2,r2,o2,b1,b2⟩:=hb.ld ho (i:=4*i+1) (by omega) [];obtain⟨p3,r3,o3,c1,c2⟩:=hb.ld ho (i:=4*i+2) (by omega) [];obtain⟨p4,r4,o4,d1,d2⟩:=hb.ld ho (i:=4*i+3) (by omega) [];have k24:V.int .u64 24=.int .u64 ((24:Nat):Int):=rfl;have k16:V.int .u64 16=.int .u64 ((16:Nat):Int):=rfl;have k8:V.int .u64 8=.int .u64 ((8:Nat):Int):=rfl;obtain⟨U,k1,k2,k3,k4⟩:=hA.st qmi (by decide) (i:=i) (by omega) (word16 g i);unfold word16 at k1;obtain⟨l,k1'⟩:=qk4 ho k1;refine⟨zz S U,k2.grew (by omega) (fun h=>h) (qfe ho k2.1),qga ho k3,?_⟩;rw[qk8,sixty,dT (by omega),oB,ifK_bool,cT,sixteen,dT hi,oB,ifK_bool,cT];rw[mul4 (by omega),oB,a1,oB];simp only[ons,qbk];rw[a2,oB];simp only[ons,qbk];rw[cv32,oB,k24,shl32 _ _ _ _ (by omega),oB,oB,show V.int .i64 1=.int .i64 ((1:Nat):Int)from rfl,addC 1 (by omega) (by omega),oB,b1,oB];simp only[ons,qbk];rw[b2,oB];simp only[ons,qbk];rw[cv32,oB,k16,shl32 _ _ _ _ (by omega),oB,or32,oB,oB,show V.int .i64 2=.int .i64 ((2:Nat):Int)from rfl,addC 2 (by omega) (by omega),oB,c1,oB];simp only[ons,qbk];rw[c2,oB];simp only[ons,qbk];rw[cv32,oB,k8,shl32 _ _ _ _ (by omega),oB,or32,oB,oB,show V.int .i64 3=.int .i64 ((3:Nat):Int)from rfl,addC 3 (by omega) (by omega),oB,d1,oB];simp only[ons,qbk];rw[d2,oB]
 simp only[ons,qbk];rw[cv32,oB,or32,oB,ixAr (by omega),oB];simp only[ons,qbk];rw[k1',oB];dsimp only;rw[qbw ?_,qcd ho,addC 1 (by omega) (by omega),oB];refine qcn (r1:=r+r2+r3+r4+1) (r2:=r+r2+r3+r4+2) (tags:=[0,0,0,0,0,1,1,0,0,0,0,0,0,1,1,0,0,0,0,0,0,0,1,1,0,0,0,0,0,0,0,1,1,0,0,4]) (by omega) ?_ (by decide)
 repeat' apply And.intro
 all_goals first
  | trivial
  | (intro e he; cases he; done)
  | (intro e he; cases List.mem_singleton.1 he; exact⟨rfl,by dsimp only; omega,by dsimp only; omega⟩)
  | (intro e he; trivial)
end
section
variable {S T U:St} {f:Nat->UInt32}
theorem step48 {m N wb:Nat} (hA:Arr S wb 89 64 f) (hw:wb<S.next) {v1 v2 v3 v6:V} (nk:Ac->St->Rs) (ek:Nat->Ac->St->Rs) {i q:Nat} (h16:16<=i) (hi:i<64) :
 ∃U,Arr U wb 89 64 (updW f i (word48 f i))/\Grew (fun x=>x=wb) S U/\qg5 (ev E0 KH (m+2)) N nk ek (q+1) v1 v2 v3 v6 (.fn (.func 100) [] []) (.ptr wb 0) (.int .i64 (i:Int)) S=qg5 (ev E0 KH (m+2)) N nk ek q v1 v2 v3 v6 (.fn (.func 100) [] []) (.ptr wb 0) (.int .i64 ((i+1:Nat):Int)) U:=by
 have ho:=hA.1;have a1:=hA.ldOn qmi (i:=i-16) (by omega) [];have a2:=hA.ldOn qmi (i:=i-15) (by omega) [];obtain⟨U1,L1,b1,b2,b3,b4,b5⟩:=turn2 m ho (f (i-15)) 7 18 (by decide) (by decide);have hA1:=hA.grew hw (fun h=>h) b4;have on1:=hA1.1;have a3:=hA1.ldOn qmi (i:=i-15) (by omega) [];have a4:=hA1.ldOn qmi (i:=i-7) (by omega) [];have a5:=hA1.ldOn qmi (i:=i-2) (by omega) [];obtain⟨U2,L2,c1,c2,c3,c4,c5⟩:=turn2 m on1 (f (i-2)) 17 19 (by decide) (by decide);have hA2:=hA1.grew (by omega) (fun h=>h) c4;have on2:=hA2.1;have a6:=hA2.ldOn qmi (i:=i-2) (by omega) [];obtain⟨U,k1,k2,k3,k4⟩:=hA2.st qmi (by decide) (i:=i) hi (word48 f i);unfold word48 at k1;obtain⟨l,k1'⟩:=qk4 on2 k1;have gU:Grew (fun x=>x=wb) S U:=(b4.mono fun _ _ h=>h.elim).trans ((c4.mono fun _ _ h=>h.elim).trans k3);have nU:=k3.next
 refine⟨zz S U,k2.grew (by omega) (fun h=>h) (qfe ho k2.1),qga ho gU,?_⟩;rw[qk8,sixty,dT hi,oB,ifK_bool,cT,sixteen,dF (by omega),oB,ifK_bool,cF];rw[show V.int .i64 16=.int .i64 ((16:Nat):Int)from rfl,subC 16 h16 (by omega),oB,ixAr (by omega),oB];simp only[ons,qbk];rw[a1,oB];simp only[ons,qbk];rw[show V.int .i64 15=.int .i64 ((15:Nat):Int)from rfl,subC 15 (by omega) (by omega),oB,ixAr (by omega),oB,a2,oB];simp only[ons,qbk];rw[show bsP 3 1 2 (Ev.one (.int .i64 0)) [(0,(.int .i64 7)),(1,(.int .i64 18))] (S.lg [])=_ from b1,oB];simp only[ons,qbk];rw[b2,qbf,oB,ixAr (by omega),oB];simp only[ons,qbk];rw[a3,oB];simp only[ons,qbk];rw[show V.int .u64 3=.int .u64 ((3:Nat):Int)from rfl,shr32 _ _ _ _ (by omega),oB,xor32,oB,qmd,oB,show V.int .i64 7=.int .i64 ((7:Nat):Int)from rfl,subC 7 (by omega) (by omega),oB,ixAr (by omega),oB,a4,oB];simp only[ons,qbk];rw[qmd,oB,show V.int .i64 2=.int .i64 ((2:Nat):Int)from rfl,subC 2 (by omega) (by omega),oB,ixAr (by omega),oB,a5,oB];simp only[ons,qbk];rw[show bsP 3 1 2 (Ev.one (.int .i64 0)) [(0,(.int .i64 17)),(1,(.int .i64 19))] (U1.lg [])=_ from c1,oB];simp only[ons,qbk];rw[c2,qbf,oB,ixAr (by omega),oB];simp only[ons,qbk];rw[a6,oB];simp only[ons,qbk];rw[show V.int .u64 10=.int .u64 ((10:Nat):Int)from rfl,shr32 _ _ _ _ (by omega),oB,xor32,oB,qmd,oB,ixAr hi,oB,k1',oB];dsimp only
 rw[qbw ?_,qcd ho,show V.int .i64 1=.int .i64 ((1:Nat):Int)from rfl,addC 1 (by omega) (by omega),oB];refine qcn (r1:=S.next) (r2:=U1.next) (tags:=[0,0,0,0,1,0,0,0,0,1,2,2,0,0,0,1,0,0,0,0,0,0,1,0,0,0,0,0,1,3,3,0,0,0,1,0,0,0,0,4]) (by omega) ?_ (by decide)
 repeat' apply And.intro
 all_goals first
  | trivial
  | (intro e he; cases he; done)
  | (intro e he; cases List.mem_singleton.1 he; exact⟨rfl,by dsimp only; omega,by dsimp only; omega⟩)
  | (intro e he; cases List.mem_singleton.1 he; rfl)
  | exact b3
  | exact c3
  | (intro e he; trivial)
theorem qm8 {m N wb:Nat} {v1 v2 v3 v6:V} {g:Nat->UInt8} (hne:∀r off,v1=.oslice r off 64 1->r≠wb) (nk:Ac->St->Rs) (ek:Nat->Ac->St->Rs) :
 ∀(d i q:Nat) (f:Nat->UInt32) (S:St),i+d=64->d<q->Arr S wb 89 64 f->Blk S v1 g->wb<S.next->
 ∃U,qg5 (ev E0 KH (m+3)) N nk ek q v1 v2 v3 v6 (.fn (.func 100) [] []) (.ptr wb 0) (.int .i64 (i:Int)) S=ek 0 (fr 187 [(2,v2),(3,v3),(6,v6),(7,.fn (.func 100) [] []),(8,.ptr wb 0)]) U/\Arr U wb 89 64 (sched g d i f)/\Grew (fun x=>x=wb) S U
 | _,_,0,_,_,_,hq,_,_,_=>by omega
 | 0,i,q+1,f,S,hi,hq,hA,hB,hw=>by
  refine⟨S,?_,hA,Grew.refl _ _⟩;rw[qk8,sixty,dF (by omega),oB,ifK_bool,cF]
 | d+1,i,q+1,f,S,hi,hq,hA,hB,hw=>by
  by_cases h16:i<16
  . obtain⟨U,u1,u2,u3⟩:=step16 (m:=m) (N:=N) (v2:=v2) (v3:=v3) (v6:=v6) (v7:=.fn (.func 100) [] []) hA hw hB nk ek (q:=q) h16
    obtain⟨T,t1,t2,t3⟩:=qm8 (m:=m) (N:=N) hne nk ek d (i+1) q _ U (by omega) (by omega) u1 (hB.grew (fun r off hr e=>hne r off hr e) u2) (Nat.lt_of_lt_of_le hw u2.next);exact⟨T,u3.trans t1,by unfold sched nextW; rw[iP h16]; exact t2,u2.trans t3⟩
  . obtain⟨U,u1,u2,u3⟩:=step48 (m:=m+1) (N:=N) (v1:=v1) (v2:=v2) (v3:=v3) (v6:=v6) hA hw nk ek (q:=q) (show 16<=i by omega) (by omega)
    obtain⟨T,t1,t2,t3⟩:=qm8 (m:=m) (N:=N) hne nk ek d (i+1) q _ U (by omega) (by omega) u1 (hB.grew (fun r off hr e=>hne r off hr e) u2) (Nat.lt_of_lt_of_le hw u2.next);exact⟨T,u3.trans t1,by unfold sched nextW; rw[iN h16]; exact t2,u2.trans t3⟩
end
def listW (l:List UInt32):Nat->UInt32:=fun i=>l.getD i 0
def rx (v:Nat->UInt32) (k w:UInt32):UInt32:=v 7+turns (v 4) [6,11,25]+((v 4 &&& v 5) ^^^ (nt (v 4) &&& v 6))+k+w
def ry (v:Nat->UInt32):UInt32:=turns (v 0) [2,13,22]+(((v 0 &&& v 1) ^^^ (v 0 &&& v 2)) ^^^ (v 1 &&& v 2))
def rnd (v:Nat->UInt32) (k w:UInt32):Nat->UInt32:=listW [rx v k w+ry v,v 0,v 1,v 2,v 3+rx v k w,v 4,v 5,v 6]
section
variable {S T U:St} {v kf wf:Nat->UInt32}
theorem build72 (a b c d e f g h:UInt32):qd3 E0 88 [(0,w32 a),(1,w32 b),(2,w32 c),(3,w32 d),(4,w32 e),(5,w32 f),(6,w32 g),(7,w32 h)]=some (.agg 8 (Tr.ofListFrom .nil [w32 a,w32 b,w32 c,w32 d,w32 e,w32 f,w32 g,w32 h] 0)):=by kernel_rfl
theorem agg8 (a b c d e f g h:UInt32):AggV 8 (.agg 8 (Tr.ofListFrom .nil [w32 a,w32 b,w32 c,w32 d,w32 e,w32 f,w32 g,w32 h] 0)) (listW [a,b,c,d,e,f,g,h]):=⟨_,rfl,fun i hi=>by
 rw[Tr.get_ofList]
 match i,hi with
 | 0,_=>rfl
 | 1,_=>rfl
 | 2,_=>rfl
 | 3,_=>rfl
 | 4,_=>rfl
 | 5,_=>rfl
 | 6,_=>rfl
 | 7,_=>rfl⟩
theorem nilCk (b o:Nat):qaf (.ptr b o)=some (.ptr b o):=rfl
theorem step31 {m N vb kb wb:Nat} (hV:Arr S vb 88 8 v) (hvl:vb<S.next) (hK:Arr S kb 89 64 kf) (hkl:kb<S.next) (hW:Arr S wb 89 64 wf) (hwl:wb<S.next) {v3 v6:V} (nk:Ac->St->Rs) (ek:Nat->Ac->St->Rs) {i q:Nat} (hi:i<64) :
 ∃U,Arr U vb 88 8 (rnd v (kf i) (wf i))/\Grew (fun x=>x=vb) S U/\L74_31 (ev E0 KH (m+2)) N nk ek (q+1) (.ptr kb 0) v3 v6 (.fn (.func 100) [] []) (.ptr wb 0) (.ptr vb 0) (.int .i64 (i:Int)) S=L74_31 (ev E0 KH (m+2)) N nk ek q (.ptr kb 0) v3 v6 (.fn (.func 100) [] []) (.ptr wb 0) (.ptr vb 0) (.int .i64 ((i+1:Nat):Int)) U:=by
 have ho:=hV.1;have a1:=hV.ldOn qjd (i:=7) (by omega) [];have a2:=hV.ldOn qjd (i:=4) (by omega) [];obtain⟨U1,L1,b1,b2,b3,b4,b5⟩:=turn3 m ho (v 4) 6 11 25 (by decide) (by decide) (by decide);have hV1:=hV.grew hvl (fun h=>h) b4;have hK1:=hK.grew hkl (fun h=>h) b4;have hW1:=hW.grew hwl (fun h=>h) b4;have on1:=hV1.1;have a3:=hV1.ldOn qjd (i:=4) (by omega) [];have a4:=hV1.ldOn qjd (i:=5) (by omega) [];have a5:=hV1.ldOn qjd (i:=6) (by omega) [];have a6:=hK1.ldOn qmi (i:=i) hi [];have a7:=hW1.ldOn qmi (i:=i) hi [];have gZ:Grew (fun _=>False) S (zz S U1):=qga ho b4;have hVz:=hV.grew hvl (fun h=>h) gZ;have onZ:=hVz.1;have nZ:(zz S U1).next=U1.next:=rfl
 generalize hZ:zz S U1=Z at gZ hVz onZ nZ;have c1:=hVz.ldOn qjd (i:=0) (by omega) [];obtain⟨U2,L2,d1,d2,d3,d4,d5⟩:=turn3 m onZ (v 0) 2 13 22 (by decide) (by decide) (by decide);have hV2:=hVz.grew (by omega) (fun h=>h) d4;have on2:=hV2.1;have c2:=hV2.ldOn qjd (i:=0) (by omega) [];have c3:=hV2.ldOn qjd (i:=1) (by omega) [];have c4:=hV2.ldOn qjd (i:=2) (by omega) [];have gY:Grew (fun _=>False) Z (zz Z U2):=qga onZ d4;have hVy:=hVz.grew (by omega) (fun h=>h) gY;have nY:(zz Z U2).next=U2.next:=rfl
 generalize hY:zz Z U2=Y at gY hVy nY;have e0:=hVy.ld qjd (i:=0) (by omega);have e1:=hVy.ld qjd (i:=1) (by omega);have e2:=hVy.ld qjd (i:=2) (by omega);have e3:=hVy.ld qjd (i:=3) (by omega);have e4:=hVy.ld qjd (i:=4) (by omega);have e5:=hVy.ld qjd (i:=5) (by omega);have e6:=hVy.ld qjd (i:=6) (by omega);obtain⟨U,k1,k2,k3,k4⟩:=hVy.put qjd (agg8 (rx v (kf i) (wf i)+ry v) (v 0) (v 1) (v 2) (v 3+rx v (kf i) (wf i)) (v 4) (v 5) (v 6));unfold rx ry at k1;refine⟨U,k2,(gZ.mono fun _ _ h=>h.elim).trans ((gY.mono fun _ _ h=>h.elim).trans k3),?_⟩;have ix:∀k:Nat,k<8->ixA 8 1 false 1 (.ptr vb 0) (.int .i64 (k:Int))=some (.ptr vb k):=fun k hk=>ixAr hk;have i0:=ix 0 (by omega); have i1:=ix 1 (by omega); have i2:=ix 2 (by omega); have i3:=ix 3 (by omega);have i4:=ix 4 (by omega); have i5:=ix 5 (by omega); have i6:=ix 6 (by omega); have i7:=ix 7 (by omega);rw[L74_31_eq,sixty,dT hi,oB,ifK_bool,cT];rw[show V.int .i64 7=.int .i64 ((7:Nat):Int)from rfl,show V.int .i64 4=.int .i64 ((4:Nat):Int)from rfl,show V.int .i64 5=.int .i64 ((5:Nat):Int)from rfl,show V.int .i64 0=.int .i64 ((0:Nat):Int)from rfl,show V.int .i64 1=.int .i64 ((1:Nat):Int)from rfl,show V.int .i64 3=.int .i64 ((3:Nat):Int)from rfl];rw[i7,oB];simp only[ons,qbk];rw[a1,oB,i4,oB];simp only[ons,qbk];rw[a2,oB];simp only[ons,qbk]
 rw[show bsP 3 1 3 (Ev.one (.int .i64 ((0:Nat):Int))) [(0,.int .i64 6),(1,.int .i64 11),(2,.int .i64 25)] (S.lg [])=_ from b1,oB];simp only[ons,qbk];rw[b2,qbf,qmd,oB,oB];simp only[ons,qbk];rw[a3,oB,i5,oB];simp only[ons,qbk];rw[a4,oB,and32,oB,oB];simp only[ons,qbk];rw[a3,oB];dsimp only;rw[not32,oB,show V.int .i64 6=.int .i64 ((6:Nat):Int)from rfl,i6,oB];simp only[ons,qbk];rw[a5,oB];dsimp only;rw[and32,oB,xor32,oB,qmd,oB,nilCk,oB,ixAr hi,oB];simp only[ons,qbk];rw[a6,oB];dsimp only;rw[qmd,oB,ixAr hi,oB];simp only[ons,qbk];rw[a7,oB];dsimp only;rw[qmd,oB];simp only[ons,qbk];rw[qbw ?_,qcd ho,hZ,i0,oB]
 . rw[c1,oB]
   try simp only[ons,qbk]
   rw[show bsP 3 1 3 (Ev.one (.int .i64 ((0:Nat):Int))) [(0,.int .i64 2),(1,.int .i64 13),(2,.int .i64 22)] (Z.lg [])=_ from d1,oB]
   try simp only[ons,qbk]
   rw[show V.int .i64 2=.int .i64 ((2:Nat):Int)from rfl,d2,qbf,oB]
   try simp only[ons,qbk]
   rw[c2,oB,i1,oB]
   try simp only[ons,qbk]
   rw[c3,oB];dsimp only;rw[and32,oB,oB]
   try simp only[ons,qbk]
   rw[c2,oB,i2,oB]
   try simp only[ons,qbk]
   rw[c4,oB];dsimp only;rw[and32,oB,xor32,oB,oB]
   try simp only[ons,qbk]
   rw[c3,oB,oB]
   try simp only[ons,qbk]
   rw[c4,oB];dsimp only;rw[and32,oB,xor32,oB,qmd,oB]
   try simp only[ons,qbk]
   rw[qbw ?_,qcd onZ,hY,qmd,oB,oB,e0,oB,oB]
   . dsimp only
     rw[e1,oB,oB];dsimp only;rw[e2,oB,i3,oB];dsimp only;rw[e3,oB];dsimp only;rw[qmd,oB,oB,e4,oB,oB];dsimp only;rw[e5,oB,oB];dsimp only;rw[e6,oB];dsimp only;rw[build72,oB,k1,oB];dsimp only;rw[addC 1 (by omega) (by omega),oB]
   . refine qcn (r1:=Z.next) (r2:=Z.next+1) (tags:=[0,0,1,2,2,0,1,0,1,0,0,1,0,1,0,0,0,1,0,1]) (by omega) ?_ (by decide)
     repeat' apply And.intro
     all_goals first
      | trivial
      | (intro e he; cases he; done)
      | (intro e he; cases List.mem_singleton.1 he; exact⟨rfl,by dsimp only; omega,by dsimp only; omega⟩)
      | (intro e he; cases List.mem_singleton.1 he; rfl)
      | exact d3
 . refine qcn (r1:=S.next) (r2:=S.next+1+kb+wb+vb) (tags:=[0,1,0,0,1,2,2,0,0,1,0,1,0,0,1,0,0,1,0,0,0,0,0,0,0,1,0,0,0,1]) (by omega) ?_ (by decide)
   repeat' apply And.intro
   all_goals first
    | trivial
    | (intro e he; cases he; done)
    | (intro e he; cases List.mem_singleton.1 he; exact⟨rfl,by dsimp only; omega,by dsimp only; omega⟩)
    | (intro e he; cases List.mem_singleton.1 he; rfl)
    | exact b3
end
end Go.Proofs.YtpgegoeghaplkaaGreatDoor.W
