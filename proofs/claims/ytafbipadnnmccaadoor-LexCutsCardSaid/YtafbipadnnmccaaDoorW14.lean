/-
  WHAT THE FUNCTIONS COME TO: each is read by the evaluator,printed,and told as a function of data,part 14 of 17 (no condition).
-/
import Derived.Test.YtafbipadnnmccaaDoorW13
noncomputable section
namespace Go.Proofs.YtafbipadnnmccaaDoor.W
open Go.Proofs.YtafbipadnnmccaaDoor.Ev Go.RowKit
def qm1 (t24 v0 v1 v2 v12:V) (f:V->Rs):Rs:=
(qa0 false t24).bind fun g28=>(bif g28 then some v0 else some (.tuple [])).bind fun t28=>
(qa0 false t24).bind fun g29=>(bif g29 then some v1 else some (.tuple [])).bind fun t29=>
(qa0 false t24).bind fun g30=>(bif g30 then ixS t28 t29 else some (.tuple [])).bind fun t30=>
(qa0 false t24).bind fun g31=>(bif g31 then qa4 E0 .eql 5 false true t30 (.int .u8 36)else some (.tuple [])).bind fun t31=>
(qac t24 (some (.bool true)) (some t31)).bind fun t32=>
(qa0 false t32).bind fun g34=>(bif g34 then some v0 else some (.tuple [])).bind fun t34=>
(qa0 false t32).bind fun g35=>(bif g35 then some v1 else some (.tuple [])).bind fun t35=>
(qa0 false t32).bind fun g36=>(bif g36 then ixS t34 t35 else some (.tuple [])).bind fun t36=>
(qa0 false t32).bind fun g37=>(bif g37 then qa4 E0 .eql 5 false true t36 (.int .u8 92)else some (.tuple [])).bind fun t37=>
(qac t32 (some (.bool true)) (some t37)).bind fun t38=>
(qa0 false t38).bind fun g40=>(bif g40 then some v0 else some (.tuple [])).bind fun t40=>
(qa0 false t38).bind fun g41=>(bif g41 then some v1 else some (.tuple [])).bind fun t41=>
(qa0 false t38).bind fun g42=>(bif g42 then ixS t40 t41 else some (.tuple [])).bind fun t42=>
(qa0 false t38).bind fun g43=>(bif g43 then qa4 E0 .eql 5 false true t42 (.int .u8 96)else some (.tuple [])).bind fun t43=>
(qac t38 (some (.bool true)) (some t43)).bind fun t44=>
(qa0 false t44).bind fun g46=>(bif g46 then some v12 else some (.tuple [])).bind fun t46=>
(qa0 false t44).bind fun g47=>(bif g47 then unV .not t46 else some (.tuple [])).bind fun t47=>
(qa0 false t44).bind fun g48=>(bif g48 then some t47 else some (.tuple [])).bind fun t48=>
(qa0 true t48).bind fun g49=>(bif g49 then some v0 else some (.tuple [])).bind fun t49=>
(qa0 true t48).bind fun g50=>(bif g50 then some v1 else some (.tuple [])).bind fun t50=>
(qa0 true t48).bind fun g51=>(bif g51 then ixS t49 t50 else some (.tuple [])).bind fun t51=>
(qa0 true t48).bind fun g52=>(bif g52 then qa4 E0 .eql 5 false true t51 (.int .u8 39)else some (.tuple [])).bind fun t52=>
(qa0 true t48).bind fun g53=>(bif g53 then some t52 else some (.tuple [])).bind fun t53=>
(qa0 false t53).bind fun g54=>(bif g54 then some v0 else some (.tuple [])).bind fun t54=>
(qa0 false t53).bind fun g55=>(bif g55 then some v1 else some (.tuple [])).bind fun t55=>
(qa0 false t53).bind fun g56=>(bif g56 then ixS t54 t55 else some (.tuple [])).bind fun t56=>
(qa0 false t53).bind fun g57=>(bif g57 then qa4 E0 .eql 5 false true t56 (.int .u8 34)else some (.tuple [])).bind fun t57=>
(qa0 true t48).bind fun g58=>(bif g58 then qac t53 (some (.bool true)) (some t57)else some (.tuple [])).bind fun t58=>
(qa0 false t44).bind fun g59=>(bif g59 then qac t48 (some t58) (some (.bool false))else some (.tuple [])).bind fun t59=>
(qac t44 (some (.bool true)) (some t59)).bind fun t60=>
(qa0 false t60).bind fun g62=>(bif g62 then some v2 else some (.tuple [])).bind fun t62=>
(qa0 false t60).bind fun g63=>(bif g63 then qa4 E0 .eql 3 false true t62 (.int .i64 4)else some (.tuple [])).bind fun t63=>
(qa0 false t60).bind fun g64=>(bif g64 then some t63 else some (.tuple [])).bind fun t64=>
(qa0 true t64).bind fun g65=>(bif g65 then some v0 else some (.tuple [])).bind fun t65=>
(qa0 true t64).bind fun g66=>(bif g66 then some v1 else some (.tuple [])).bind fun t66=>
(qa0 true t64).bind fun g67=>(bif g67 then ixS t65 t66 else some (.tuple [])).bind fun t67=>
(qa0 true t64).bind fun g68=>(bif g68 then qa4 E0 .eql 5 false true t67 (.int .u8 34)else some (.tuple [])).bind fun t68=>
(qa0 false t60).bind fun g69=>(bif g69 then qac t64 (some t68) (some (.bool false))else some (.tuple [])).bind fun t69=>
(qac t60 (some (.bool true)) (some t69)).bind f
def casc29E (c v2:V) (f:V->Rs):Rs:=
(qa4 E0 .eql 5 false true c (.int .u8 36)).bind fun t125=>
(qa0 false t125).bind fun g127=>(bif g127 then some c else some (.tuple [])).bind fun t127=>
(qa0 false t125).bind fun g128=>(bif g128 then qa4 E0 .eql 5 false true t127 (.int .u8 96)else some (.tuple [])).bind fun t128=>
(qac t125 (some (.bool true)) (some t128)).bind fun t129=>
(qa0 false t129).bind fun g131=>(bif g131 then some c else some (.tuple [])).bind fun t131=>
(qa0 false t129).bind fun g132=>(bif g132 then qa4 E0 .eql 5 false true t131 (.int .u8 92)else some (.tuple [])).bind fun t132=>
(qac t129 (some (.bool true)) (some t132)).bind fun t133=>
(qa0 false t133).bind fun g135=>(bif g135 then some v2 else some (.tuple [])).bind fun t135=>
(qa0 false t133).bind fun g136=>(bif g136 then qa4 E0 .neq 3 false true t135 (.int .i64 2)else some (.tuple [])).bind fun t136=>
(qa0 false t133).bind fun g137=>(bif g137 then some t136 else some (.tuple [])).bind fun t137=>
(qa0 true t137).bind fun g138=>(bif g138 then some c else some (.tuple [])).bind fun t138=>
(qa0 true t137).bind fun g139=>(bif g139 then qa4 E0 .eql 5 false true t138 (.int .u8 34)else some (.tuple [])).bind fun t139=>
(qa0 false t133).bind fun g140=>(bif g140 then qac t137 (some t139) (some (.bool false))else some (.tuple [])).bind fun t140=>
(qac t133 (some (.bool true)) (some t140)).bind f
def qdt (self:EV) (N:Nat) (nk:Ac->St->Rs) (ek:Nat->Ac->St->Rs) (n:Nat) (v0 v1 v2 v3 v10 v11 v12 v13 v14 t24 pB nV:V) (S:St):Rs:=
ifK t24 (
(qa7 E0 29 []).bind fun t1094=>
(stP 2 v10 t1094 S).bind fun p1097=>
(ldrA 2 v10 p1097.2).bind fun p1098=>
some (.ret (.tuple [v11,v1,p1098.1]),p1098.2)) (
(ixS v0 v1).bind fun t1101=>
(qa4 E0 .eql 5 false true t1101 (.int .u8 36)).bind fun t1102=>
ifK t1102 (
(ldA 6 pB S).bind fun p1105=>
(bsP 49 6 1 (Tr.ofListFrom .nil [(.int .i64 0),(sv []),(sv []),(.bool false),.nilslice,.nilptr] 0) [(0,p1105.1)] p1105.2).bind fun p1106=>
(apP 49 6 80 v11 p1106.1 p1106.2).bind fun p1107=>
(qa4 E0 .add 3 false false v1 nV).bind fun t1111=>
qdx self N nk ek n v0 t1111 v2 v3 v10 p1107.1 v12 v13 v14 p1107.2) (
(qa4 E0 .eql 5 false true t1101 (.int .u8 92)).bind fun t1113=>
ifK t1113 (
(qa4 E0 .add 3 false true v1 (.int .i64 1)).bind fun t1116=>
(qbf v0 S).bind fun p1118=>
(qa4 E0 .geq 3 false false t1116 p1118.1).bind fun t1119=>
ifK t1119 (
callP (self.f 28 [v1] p1118.2) fun t1122 S1122=>
(stP 2 v10 t1122 S1122).bind fun p1125=>
(ldrA 2 v10 p1125.2).bind fun p1126=>
some (.ret (.tuple [.nilslice,v1,p1126.1]),p1126.2)) (
(qa4 E0 .add 3 false true v1 (.int .i64 1)).bind fun t1130=>
(qa4 E0 .add 3 false true v1 (.int .i64 2)).bind fun t1132=>
(qah E0 9 v0 (some t1130) (some t1132) none p1118.2).bind fun p1133=>
(qa7 E0 49 [(0,(.int .i64 1)),(1,p1133.1)]).bind fun t1134=>
(bsP 49 6 1 (Tr.ofListFrom .nil [(.int .i64 0),(sv []),(sv []),(.bool false),.nilslice,.nilptr] 0) [(0,t1134)] p1133.2).bind fun p1135=>
(apP 49 6 80 v11 p1135.1 p1135.2).bind fun p1136=>
(qa4 E0 .add 3 false true v1 (.int .i64 2)).bind fun t1139=>
qdx self N nk ek n v0 t1139 v2 v3 v10 p1136.1 v12 v13 v14 p1136.2)) (
(qa4 E0 .eql 5 false true t1101 (.int .u8 39)).bind fun t1141=>
ifK t1141 (
(qa4 E0 .add 3 false true v1 (.int .i64 1)).bind fun t1144=>
qky self N (R29_1146 self N (fun a s=>qak [0,1,2,3,10,11,12,13,14] a fun a=>(fun a s=>qak [0,1,2,3,10,11,12,13,14] a fun a=>(qip self N nk ek n) a s) a s) (exB 2 (fun a s=>qak [0,1,2,3,10,11,12,13,14] a fun a=>(fun a s=>qak [0,1,2,3,10,11,12,13,14] a fun a=>(qip self N nk ek n) a s) a s) (exB 1 (qip self N nk ek n) ek))) (exB 3 (R29_1146 self N (fun a s=>qak [0,1,2,3,10,11,12,13,14] a fun a=>(fun a s=>qak [0,1,2,3,10,11,12,13,14] a fun a=>(qip self N nk ek n) a s) a s) (exB 2 (fun a s=>qak [0,1,2,3,10,11,12,13,14] a fun a=>(fun a s=>qak [0,1,2,3,10,11,12,13,14] a fun a=>(qip self N nk ek n) a s) a s) (exB 1 (qip self N nk ek n) ek))) (exB 2 (fun a s=>qak [0,1,2,3,10,11,12,13,14] a fun a=>(fun a s=>qak [0,1,2,3,10,11,12,13,14] a fun a=>(qip self N nk ek n) a s) a s) (exB 1 (qip self N nk ek n) ek))) N v0 v1 v2 v3 v10 v11 v12 v13 v14 t1144 S) (
(qa4 E0 .eql 5 false true t1101 (.int .u8 34)).bind fun t1185=>
ifK t1185 (
(qa4 E0 .eql 3 false true v2 (.int .i64 4)).bind fun t1188=>
ifK t1188 (
callP (self.f 28 [v1] S) fun t1191 S1191=>
(stP 2 v10 t1191 S1191).bind fun p1194=>
(ldrA 2 v10 p1194.2).bind fun p1195=>
some (.ret (.tuple [.nilslice,v1,p1195.1]),p1195.2)) (
(qa4 E0 .add 3 false true v1 (.int .i64 1)).bind fun t1198=>
callP (self.f 29 [v0,t1198,(.int .i64 1),v3] S) fun t1200 S1200=>
(qa6 t1200 0).bind fun t1202=>
(qa6 t1200 1).bind fun t1203=>
(qa6 t1200 2).bind fun t1204=>
(some (nwP 29 2 (Tr.ofListFrom .nil [(.int .i64 0),(.int .i64 0)] 0) S1200)).bind fun p1205=>
(stP 2 p1205.1 t1204 p1205.2).bind fun p1208=>
(faP 0 false 1 p1205.1).bind fun t1209=>
(ld1 t1209 p1208.2).bind fun p1210=>
(qa4 E0 .neq 27 false true p1210.1 (.int .i64 0)).bind fun t1211=>
ifK t1211 (
(ldA 2 p1205.1 (onS p1210.2)).bind fun p1213=>
(stP 2 v10 p1213.1 (onS p1213.2)).bind fun p1216=>
(ldrA 2 v10 (qbk p1210.2 p1216.2 [[],p1213.2.log,[],[],p1216.2.log])).bind fun p1217=>
some (.ret (.tuple [.nilslice,v1,p1217.1]),p1217.2)) (
(qbf v0 p1210.2).bind fun p1220=>
(qa4 E0 .geq 3 false false t1203 p1220.1).bind fun t1221=>
ifK t1221 (
callP (self.f 28 [v1] p1220.2) fun t1224 S1224=>
(stP 2 v10 t1224 S1224).bind fun p1227=>
(ldrA 2 v10 p1227.2).bind fun p1228=>
some (.ret (.tuple [.nilslice,v1,p1228.1]),p1228.2)) (
(lnS t1202 p1220.2).bind fun p1230=>
(qa4 E0 .eql 3 false true p1230.1 (.int .i64 0)).bind fun t1231=>
ifK t1231 (
(qa7 E0 49 [(0,(.int .i64 1)),(3,(.bool true))]).bind fun t1232=>
(bsP 49 6 1 (Tr.ofListFrom .nil [(.int .i64 0),(sv []),(sv []),(.bool false),.nilslice,.nilptr] 0) [(0,t1232)] p1230.2).bind fun p1233=>
(apP 49 6 80 v11 p1233.1 p1233.2).bind fun p1237=>
(qa4 E0 .add 3 false true t1203 (.int .i64 1)).bind fun t1240=>
qdx self N nk ek n v0 t1240 v2 v3 v10 p1237.1 v12 v13 v14 p1237.2) (
(apP 49 6 80 v11 t1202 p1230.2).bind fun p1244=>
(qa4 E0 .add 3 false true t1203 (.int .i64 1)).bind fun t1247=>
qdx self N nk ek n v0 t1247 v2 v3 v10 p1244.1 v12 v13 v14 p1244.2))))) (
callP (self.f 28 [v1] S) fun t1251 S1251=>
(stP 2 v10 t1251 S1251).bind fun p1254=>
(ldrA 2 v10 p1254.2).bind fun p1255=>
some (.ret (.tuple [.nilslice,v1,p1255.1]),p1255.2))))))
def qfr (self:EV) (N:Nat) (nk:Ac->St->Rs) (ek:Nat->Ac->St->Rs) (n:Nat) (v0 v1 v2 v3 v10 v11 v12 v13 v14 t24 pB nV:V) (S:St):Rs:=
ifK v14 (
ifK v12 (
(qa7 E0 49 [(0,(.int .i64 1)),(1,v13),(3,v12)]).bind fun t=>
(bsP 49 6 1 (Tr.ofListFrom .nil [(.int .i64 0),(sv []),(sv []),(.bool false),.nilslice,.nilptr] 0) [(0,t)] S).bind fun p=>
(apP 49 6 80 v11 p.1 p.2).bind fun q=>
qdt self N nk ek n v0 v1 v2 v3 v10 q.1 v12 (sv []) (.bool false) t24 pB nV q.2) (
(qa7 E0 49 [(0,(.int .i64 0)),(1,v13),(3,v12)]).bind fun t=>
(bsP 49 6 1 (Tr.ofListFrom .nil [(.int .i64 0),(sv []),(sv []),(.bool false),.nilslice,.nilptr] 0) [(0,t)] S).bind fun p=>
(apP 49 6 80 v11 p.1 p.2).bind fun q=>
qdt self N nk ek n v0 v1 v2 v3 v10 q.1 v12 (sv []) (.bool false) t24 pB nV q.2)) (
qdt self N nk ek n v0 v1 v2 v3 v10 v11 v12 v13 v14 t24 pB nV S)
theorem L29_step (self:EV) (N:Nat) (nk:Ac->St->Rs) (ek:Nat->Ac->St->Rs) (n:Nat) ( v0 v1 v2 v3 v10 v11 v12 v13 v14:V) (S:St):qdx self N nk ek (n+1) v0 v1 v2 v3 v10 v11 v12 v13 v14 S =
(qbf v0 S).bind fun p16=>
(qa4 E0 .geq 3 false false v1 p16.1).bind fun t17=>
(qa0 false t17).bind fun g19=>(bif g19 then some v0 else some (.tuple [])).bind fun t19=>
(qa0 false t17).bind fun g20=>(bif g20 then some v1 else some (.tuple [])).bind fun t20=>
(qa0 false t17).bind fun g21=>(bif g21 then ixS t19 t20 else some (.tuple [])).bind fun t21=>
(qa0 false t17).bind fun g22=>(bif g22 then some v2 else some (.tuple [])).bind fun t22=>
(qa0 false t17).bind fun g23=>callP (bif g23 then self.f 50 [t21,t22] p16.2 else some (.ret (.tuple []),p16.2)) fun t23 S23=>
(qac t17 (some (.bool true)) (some t23)).bind fun t24=>
qm1 t24 v0 v1 v2 v12 fun t70=>
(unV .not t70).bind fun t73=>
ifK t73 (
(qa4 E0 .add 3 false true v1 (.int .i64 1)).bind fun t78=>
(qah E0 9 v0 (some v1) (some t78) none S23).bind fun p79=>
(qa4 E0 .add 9 false false v13 p79.1).bind fun t80=>
(qa4 E0 .add 3 false true v1 (.int .i64 1)).bind fun t84=>
qdx self N nk ek n v0 t84 v2 v3 v10 v11 v12 t80 (.bool true) p79.2) (
(unV .not t24).bind fun t87=>
(qa0 true t87).bind fun g89=>(bif g89 then some v0 else some (.tuple [])).bind fun t89=>
(qa0 true t87).bind fun g90=>(bif g90 then some v1 else some (.tuple [])).bind fun t90=>
(qa0 true t87).bind fun g91=>callP (bif g91 then self.f 26 [t89,t90,(sv [92,10])] S23 else some (.ret (.tuple []),S23)) fun t91 S91=>
(qac t87 (some t91) (some (.bool false))).bind fun t92=>
ifK t92 (
(qa4 E0 .add 3 false true v1 (.int .i64 2)).bind fun t94=>
qdx self N nk ek n v0 t94 v2 v3 v10 v11 v12 v13 v14 S91) (
(unV .not t24).bind fun t97=>
(qa0 true t97).bind fun g99=>(bif g99 then some v0 else some (.tuple [])).bind fun t99=>
(qa0 true t97).bind fun g100=>(bif g100 then some v1 else some (.tuple [])).bind fun t100=>
(qa0 true t97).bind fun g101=>(bif g101 then ixS t99 t100 else some (.tuple [])).bind fun t101=>
(qa0 true t97).bind fun g102=>(bif g102 then qa4 E0 .eql 5 false true t101 (.int .u8 92)else some (.tuple [])).bind fun t102=>
(qac t97 (some t102) (some (.bool false))).bind fun t103=>
(qa0 true t103).bind fun g105=>(bif g105 then some v12 else some (.tuple [])).bind fun t105=>
(qac t103 (some t105) (some (.bool false))).bind fun t106=>
ifK t106 (
(qa4 E0 .add 3 false true v1 (.int .i64 1)).bind fun t108=>
(qbf v0 S91).bind fun p110=>
(qa4 E0 .geq 3 false false t108 p110.1).bind fun t111=>
ifK t111 (
callP (self.f 28 [v1] p110.2) fun t114 S114=>
(stP 2 v10 t114 S114).bind fun p117=>
(ldrA 2 v10 p117.2).bind fun p118=>
some (.ret (.tuple [.nilslice,v1,p118.1]),p118.2)) (
(qa4 E0 .add 3 false true v1 (.int .i64 1)).bind fun t121=>
(ixS v0 t121).bind fun t122=>
casc29E t122 v2 fun t141=>
(unV .not t141).bind fun t142=>
ifK t142 (
(qa4 E0 .add 9 false true v13 (sv [92])).bind fun t144=>
(qa4 E0 .add 3 false true v1 (.int .i64 1)).bind fun t149=>
(qa4 E0 .add 3 false true v1 (.int .i64 2)).bind fun t151=>
(qah E0 9 v0 (some t149) (some t151) none p110.2).bind fun p152=>
(qa4 E0 .add 9 false false t144 p152.1).bind fun t153=>
(qa4 E0 .add 3 false true v1 (.int .i64 2)).bind fun t157=>
qdx self N nk ek n v0 t157 v2 v3 v10 v11 v12 t153 (.bool true) p152.2) (
(qa4 E0 .add 3 false true v1 (.int .i64 1)).bind fun t162=>
(qa4 E0 .add 3 false true v1 (.int .i64 2)).bind fun t164=>
(qah E0 9 v0 (some t162) (some t164) none p110.2).bind fun p165=>
(qa4 E0 .add 9 false false v13 p165.1).bind fun t166=>
(qa4 E0 .add 3 false true v1 (.int .i64 2)).bind fun t170=>
qdx self N nk ek n v0 t170 v2 v3 v10 v11 v12 t166 (.bool true) p165.2))) (
(some (nwP 49 6 (Tr.ofListFrom .nil [(.int .i64 0),(sv []),(sv []),(.bool false),.nilslice,.nilptr] 0) S91)).bind fun p172=>
(unV .not t24).bind fun t175=>
(qa0 true t175).bind fun g177=>(bif g177 then some v0 else some (.tuple [])).bind fun t177=>
(qa0 true t175).bind fun g178=>(bif g178 then some v1 else some (.tuple [])).bind fun t178=>
(qa0 true t175).bind fun g179=>(bif g179 then ixS t177 t178 else some (.tuple [])).bind fun t179=>
(qa0 true t175).bind fun g180=>(bif g180 then qa4 E0 .eql 5 false true t179 (.int .u8 36)else some (.tuple [])).bind fun t180=>
(qac t175 (some t180) (some (.bool false))).bind fun t181=>
ifK t181 (
callP (self.f 51 [v0,v1,v2,v3] p172.2) fun t186 S186=>
(qa6 t186 0).bind fun t188=>
(qa6 t186 1).bind fun t189=>
(qa6 t186 2).bind fun t190=>
(some (nwP 49 6 (Tr.ofListFrom .nil [(.int .i64 0),(sv []),(sv []),(.bool false),.nilslice,.nilptr] 0) S186)).bind fun p191=>
(some (nwP 29 2 (Tr.ofListFrom .nil [(.int .i64 0),(.int .i64 0)] 0) p191.2)).bind fun p192=>
(stP 6 p191.1 t188 p192.2).bind fun p193=>
(stP 2 p192.1 t190 p193.2).bind fun p195=>
(faP 0 false 1 p192.1).bind fun t196=>
(ld1 t196 p195.2).bind fun p197=>
(qa4 E0 .neq 27 false true p197.1 (.int .i64 0)).bind fun t198=>
ifK t198 (
(ldA 2 p192.1 (onS p197.2)).bind fun p200=>
(stP 2 v10 p200.1 (onS p200.2)).bind fun p203=>
(ldrA 2 v10 (qbk p197.2 p203.2 [[],p200.2.log,[],[],p203.2.log])).bind fun p204=>
some (.ret (.tuple [.nilslice,v1,p204.1]),p204.2)) (
(qa4 E0 .eql 3 false true t189 (.int .i64 0)).bind fun t206=>
ifK t206 (
(qa4 E0 .add 9 false true v13 (sv [36])).bind fun t208=>
(qa4 E0 .add 3 false true v1 (.int .i64 1)).bind fun t212=>
qdx self N nk ek n v0 t212 v2 v3 v10 v11 v12 t208 (.bool true) p197.2) (
(ldA 6 p191.1 p197.2).bind fun p214=>
(stP 6 p172.1 p214.1 p214.2).bind fun p215=>
qfr self N nk ek n v0 v1 v2 v3 v10 v11 v12 v13 v14 t24 p172.1 t189 p215.2))) (
qfr self N nk ek n v0 v1 v2 v3 v10 v11 v12 v13 v14 t24 p172.1 (.int .i64 0) p172.2)))):=by kernel_rfl
theorem cont29 (self:EV) (N:Nat) (nk:Ac->St->Rs) (ek:Nat->Ac->St->Rs) (n:Nat) ( v0 v1 v2 v3 v10 v11 v12 v13 v14:V) (S:St):(qak [0,1,2,3,10,11,12,13,14] (fr 316 [(0,v0),(1,v1),(2,v2),(3,v3),(10,v10),(11,v11),(12,v12),(13,v13),(14,v14)]) fun a=>qak [0,1,2,3,10,11,12,13,14] a fun a=>qip self N nk ek n a S)=qdx self N nk ek n v0 v1 v2 v3 v10 v11 v12 v13 v14 S:=by kernel_rfl
theorem casc29 (v0 v1:V) (c:UInt8) (w:Nat) (b:Bool) (f:V->Rs) (hx:ixS v0 v1=some (.int .u8 (c.toNat:Int))):qm1 (.bool false) v0 v1 (.int .i64 (w:Int)) (.bool b) f=f (.bool (decide (c=36)||(decide (c=92)||(decide (c=96)||((!b&&(decide (c=39)||decide (c=34)))||(decide (w=4)&&decide (c=34))))))):=by
 unfold qm1;have e36:=qd9 c 36;have e92:=qd9 c 92;have e96:=qd9 c 96;have e39:=qd9 c 39;have e34:=qd9 c 34;rw[show((36:UInt8).toNat:Int)=36 from rfl]at e36;rw[show((92:UInt8).toNat:Int)=92 from rfl]at e92;rw[show((96:UInt8).toNat:Int)=96 from rfl]at e96;rw[show((39:UInt8).toNat:Int)=39 from rfl]at e39;rw[show((34:UInt8).toNat:Int)=34 from rfl]at e34;have e4:=i3eq w 4;rw[show((4:Nat):Int)=4 from rfl]at e4;generalize decide (c=36)=b36 at e36 ⊢;generalize decide (c=92)=b92 at e92 ⊢;generalize decide (c=96)=b96 at e96 ⊢;generalize decide (c=39)=b39 at e39 ⊢;generalize decide (c=34)=b34 at e34 ⊢;generalize decide (w=4)=b4 at e4 ⊢;cases b36 with
 | true=>simp only[g_t,g_f,qf1,b_s,c_t,c_f,p_b,hx,e36,Bool.not_true,nF,Bool.true_or,Bool.false_or]
 | false=>
 cases b92 with
 | true=>simp only[g_t,g_f,qf1,b_s,c_t,c_f,p_b,hx,e36,e92,Bool.not_true,nF,Bool.true_or,Bool.false_or]
 | false=>
 cases b96 with
 | true=>simp only[g_t,g_f,qf1,b_s,c_t,c_f,p_b,hx,e36,e92,e96,Bool.not_true,nF,Bool.true_or,Bool.false_or]
 | false=>
 cases b<;>cases b39<;>cases b34<;>cases b4<;>simp only[g_t,g_f,qf1,b_s,c_t,c_f,p_b,hx,e36,e92,e96,e39,e34,e4,qjj,Bool.not_true,nF,Bool.true_or,Bool.false_or,Bool.true_and,Bool.false_and,Bool.or_true,Bool.or_false,Bool.and_true,Bool.and_false]
theorem casc29b (c:UInt8) (w:Nat) (f:V->Rs):casc29E (.int .u8 (c.toNat:Int)) (.int .i64 (w:Int)) f=f (.bool (decide (c=36)||(decide (c=96)||(decide (c=92)||((w != 2)&&decide (c=34)))))):=by
 unfold casc29E;have e36:=qd9 c 36;have e92:=qd9 c 92;have e96:=qd9 c 96;have e34:=qd9 c 34;rw[show((36:UInt8).toNat:Int)=36 from rfl]at e36;rw[show((92:UInt8).toNat:Int)=92 from rfl]at e92;rw[show((96:UInt8).toNat:Int)=96 from rfl]at e96;rw[show((34:UInt8).toNat:Int)=34 from rfl]at e34;have e2:=i3ne w 2;rw[show((2:Nat):Int)=2 from rfl]at e2;generalize decide (c=36)=b36 at e36 ⊢;generalize decide (c=92)=b92 at e92 ⊢;generalize decide (c=96)=b96 at e96 ⊢;generalize decide (c=34)=b34 at e34 ⊢;generalize (w != 2)=b2 at e2 ⊢;cases b36<;>cases b96<;>cases b92<;>cases b2<;>cases b34<;>simp only[g_t,g_f,qf1,b_s,c_t,c_f,p_b,e36,e92,e96,e34,e2,Bool.not_true,nF,Bool.true_or,Bool.false_or,Bool.true_and,Bool.false_and,Bool.or_true,Bool.or_false,Bool.and_true,Bool.and_false]
theorem pars_end:∀n s w deep i out text l j,qam n s w deep i out text=.ok (l,j)->i<=s.length->j=s.length\/qi1 w (byt s j)=true
 | 0,s,w,deep,i,out,text,l,j,h,hi=>by(unfold qam at h; cases h)
 | n+1,s,w,deep,i,out,text,l,j,h,hi=>by
  have hP:=pars_end n;unfold qam at h;split at h
  . rename_i hlt
    split at h
    . rename_i ha
      have:=qb1 ha (by simp);exact hP _ _ _ _ _ _ _ _ h (by simpa using this)
    . split at h
      . split at h
        . cases h
        . split at h
          . exact hP _ _ _ _ _ _ _ _ h (by omega)
          . exact hP _ _ _ _ _ _ _ _ h (by omega)
      . split at h
        . split at h
          . cases h
          . exact hP _ _ _ _ _ _ _ _ h (by omega)
          . rename_i p k hk
            have h1:=(qcc n).2 _ _ _ _ _ _ hk;exact hP _ _ _ _ _ _ _ _ h (by omega)
        . split at h
          . cases h
          . split at h
            . split at h
              . cases h
              . rename_i k hk
                have h1:=qdu hk;exact hP _ _ _ _ _ _ _ _ h (by omega)
            . split at h
              . split at h
                . cases h
                . rename_i l' k hk
                  have h1:=(qcc n).1 _ _ _ _ _ _ _ _ hk (by omega);split at h
                  . rename_i ha
                    have h2:=qb1 ha (by simp);exact hP _ _ _ _ _ _ _ _ h (by simpa using h2)
                  . cases h
              . exact hP _ _ _ _ _ _ _ _ h (by omega)
  . rename_i hc
    cases h;by_cases hlt:i<s.length
    . refine .inr ?_
      cases he:qi1 w (byt s i)with
      | true=>rfl
      | false=>exact absurd ⟨hlt,he⟩ hc
    . exact .inl (by omega)
theorem build_q1 (t:Bs):qa7 E0 49 [(0,(.int .i64 1)),(1,sv t),(3,.bool true)]=some (.agg 6 (qcr 1 t [] true .nilslice)):=by kernel_rfl
theorem build_l0 (t:Bs):qa7 E0 49 [(0,(.int .i64 0)),(1,sv t),(3,.bool false)]=some (.agg 6 (qcr 0 t [] false .nilslice)):=by kernel_rfl
structure PD (S:St) (N:Nat) (out:List Part) (vo:V):Prop where
 on:S.on=false
 lt:N<S.next
 box:∃Y,AgAt S N 29 2 Y
 ot:∃rows,RV S vo 49 6 rows/\PrAt S (fun x=>N<x/\x<S.next/\qa8 vo≠some x) out rows
 ob:∀r,qa8 vo=some r->N<r
abbrev PdR (o:Except Flt (List Part×Nat)) (S:St) (N:Nat) (r:Rs):Prop:=match o with
 | .ok q=>∃U v,r=some (.ret (.tuple [v,.int .i64 (q.2:Int),.agg 2 (qb6 0 0)]),U)/\PsR U N v q.1/\Grew (fun x=>N<=x) S U
 | .error e=>∃U z,r=some (.ret (.tuple [.nilslice,z,.agg 2 (qb6 e.1 e.2)]),U)/\e.1≠0/\Grew (fun x=>N<=x) S U
def qex (K:FuncId->Option KF) (n:Nat):Prop:=∀(d q:Nat) (S:St) (N i:Nat) (s:Bs) (w deep:Nat) (out:List Part) (text:Bs) (vo:V) (nk:Ac->St->Rs) (ek:Nat->Ac->St->Rs),PD S N out vo->s.length<=5000->i<=s.length->out.length+text.length<=i->deep<=20->4*n+2*s.length+60<=d->2*(s.length-i)+1<=n->n<100000->n<=q->
 PdR (qam n s w deep i out text) S N (qdx (ev E0 K d) qa3 nk ek q (sv s) (.int .i64 (i:Int)) (.int .i64 (w:Int)) (.int .i64 (deep:Int)) (.ptr N 0) vo (.bool (inD w)) (sv text) (.bool (!text.isEmpty)) S)
section
variable {K:FuncId->Option KF} {S U T:St} {i N P:Nat} {s:Bs} {vo:V} {X Y:Tr V} {n w deep d q:Nat} {out:List Part} {text:Bs}
theorem PdR.after {o:Except Flt (List Part×Nat)} {r:Rs} (g:Grew (fun x=>N<=x) S T) (h:PdR o T N r):PdR o S N r:=by
 cases o with
 | ok q=>
  obtain⟨U,X,h1,h2,h3⟩:=h;exact⟨U,X,h1,h2,g.trans h3⟩
 | error e=>
  obtain⟨U,X,h1,h2,h3⟩:=h;exact⟨U,X,h1,h2,g.trans h3⟩
theorem PD.vo_lt (h:PD S N out vo):∀r,qa8 vo=some r->r<S.next:=by
 obtain⟨rows,r1,_⟩:=h.ot;exact fun r hr=>r1.blk_lt hr
theorem PD.move (h:PD S N out vo) (g:Grew (fun x=>S.next<=x) S U):PD U N out vo:=by
 obtain⟨rows,r1,r2⟩:=h.ot;obtain⟨Y,hY⟩:=h.box;have hv:=h.vo_lt;have hl:=h.lt;have nx:=g.next
 exact⟨g.on.trans h.on,by omega,⟨Y,hY.grew hl (by omega) g⟩,⟨rows,r1.grew (fun r hr hw=>by have:=hv r hr; omega) g,(r2.grew g fun x hx=>by omega).mono fun x hx=>⟨hx.1,by omega,hx.2.2⟩⟩,h.ob⟩
theorem PD.cat (h:PD S N out vo) {y:V} {m:List (Tr V)} {l:List Part} (hy:PV S 6 y m) (hp:PrAt S (fun x=>N<x/\x<S.next/\qa8 vo≠some x) l m) (hl:out.length+l.length<=100000):∃U vo',apP 49 6 80 vo y S=some (vo',U)/\PD U N (out++l) vo'/\Grew (fun x=>qa8 vo=some x) S U/\(∀r,qa8 vo'=some r->qa8 vo=some r\/S.next<=r):=by
 obtain⟨rows,r1,r2⟩:=h.ot;obtain⟨Y,hY⟩:=h.box;obtain⟨v',U,b1,b2,b3,b4,_⟩:=r1.cat h.on (by omega) hy (B:=80) (by rw[r2.len,hp.len]; omega) (by omega);have nx:=b3.next
 have hlt:=h.lt;refine⟨U,v',b1,⟨b3.on.trans h.on,by omega,⟨Y,hY.grew hlt (fun hw=>by have:=h.ob _ hw; omega) b3⟩,⟨rows++m,b2,?_⟩,fun r hr=>?_⟩,b3,b4⟩
 . refine((r2.append hp).grew b3 fun x hx=>hx.2.2).mono fun x hx=>⟨hx.1,by omega,fun hv=>?_⟩
   rcases b4 x hv with h1|h1
   . exact hx.2.2 h1
   . omega
 . rcases b4 r hr with h1|h1
   . exact h.ob r h1
   . omega
theorem PD.push (h:PD S N out vo) {p:Part} (hp:PtAt S (fun x=>N<x/\x<S.next/\qa8 vo≠some x) p X) (hl:out.length<=50000):∃U vo',(∀(k:V×St->Rs),((bsP 49 6 1 zP [(0,.agg 6 X)] S).bind fun p=>(apP 49 6 80 vo p.1 p.2).bind k)=k (vo',U))/\PD U N (out++[p]) vo'/\Grew (fun x=>qa8 vo=some x) S U/\(∀r,qa8 vo'=some r->qa8 vo=some r\/S.next<=r):=by
 obtain⟨y,T,a1,a2,a3,a4,a5⟩:=qfk h.on 49 6 zP X (by omega) (by omega);have h1:=h.move (a4.mono fun x _ h=>h.elim);obtain⟨U,vo',b1,b2,b3,b4⟩:=h1.cat (a2.pv h1.on) (prAt_one ((hp.grew a4 fun x _ hw=>hw).mono fun x hx=>⟨hx.1,by omega,hx.2.2⟩)) (by simp only[List.length_singleton]; omega);refine⟨U,vo',fun k=>?_,b2,(a4.mono fun _ _ h=>h.elim).trans b3,fun r hr=>(b4 r hr).imp id (by omega)⟩;rw[a1,b_s];dsimp only;rw[b1,b_s]
theorem PD.ge (h:PD S N out vo) (g:Grew (fun x=>qa8 vo=some x) S U):Grew (fun x=>N<=x) S U:=g.mono fun x _ hx=>by have:=h.ob x hx; omega
theorem wr29 (hK:RefL K) (m:Nat) (h:PD S N out vo) (i:Nat):∃U,(callP ((ev E0 K (m+1)).f 28 [.int .i64 (i:Int)] S) fun t S2=>(stP 2 (.ptr N 0) t S2).bind fun p=>(ldrA 2 (.ptr N 0) p.2).bind fun q=>some (En.ret (.tuple [.nilslice,.int .i64 (i:Int),q.1]),q.2))=some (.ret (.tuple [.nilslice,.int .i64 (i:Int),.agg 2 (qb6 19 i)]),U)/\Grew (fun x=>N<=x) S U:=by
 obtain⟨U1,a1,a2,a3⟩:=qil hK m i h.on;obtain⟨Y,hY⟩:=h.box;have o1:=a2.on.trans h.on;obtain⟨U2,b1,b2,b3,b4⟩:=(hY.grew h.lt (fun h=>h) a2).stA o1 qda (qb6 19 i);refine⟨U2,?_,(a2.mono fun x _ h=>h.elim).trans (b3.mono fun x _ h=>by omega)⟩;rw[a1,callP_ret,b1,b_s];dsimp only;rw[b2.ldrA (b3.on.trans o1) qda,b_s]
theorem wrP29 (hK:RefL K) (m:Nat) (h:PD S N out vo) (i:Nat):PdR (.error (19,i)) S N (callP ((ev E0 K (m+1)).f 28 [.int .i64 (i:Int)] S) fun t S2=>(stP 2 (.ptr N 0) t S2).bind fun p=>(ldrA 2 (.ptr N 0) p.2).bind fun q=>some (En.ret (.tuple [.nilslice,.int .i64 (i:Int),q.1]),q.2)):=by
 obtain⟨U,u1,u2⟩:=wr29 hK m h i;exact⟨U,_,u1,(by decide:(19:Nat)≠0),u2⟩
theorem tail_end (self:EV) (M:Nat) (nk:Ac->St->Rs) (ek:Nat->Ac->St->Rs) (h:PD S N out vo) (v0 v2 v3 v12 v13 v14 pB nV:V):PdR (.ok (out,i)) S N (qdt self M nk ek n v0 (.int .i64 (i:Int)) v2 v3 (.ptr N 0) vo v12 v13 v14 (.bool true) pB nV S):=by
 unfold qdt;obtain⟨Y,hY⟩:=h.box;obtain⟨U2,b1,b2,b3,b4⟩:=hY.stA h.on qda (qb6 0 0);rw[i_b,c_t,qel,b_s,b1,b_s];dsimp only;rw[b2.ldrA (b3.on.trans h.on) qda,b_s];obtain⟨rows,r1,r2⟩:=h.ot;refine⟨U2,vo,rfl,⟨rows,r1.grew (fun r hr hw=>by have:=h.ob r hr; omega) b3,(r2.grew b3 fun x hx hw=>by omega).mono fun x hx=>by omega,fun r hr=>by have:=h.ob r hr; omega⟩,b3.mono fun x _ hx=>by omega⟩
theorem qi5 (self:EV) (M:Nat) (nk:Ac->St->Rs) (ek:Nat->Ac->St->Rs) (h:PD S N out vo) (hl:out.length<=50000) (text:Bs) (v0 v1 v2 v3 t24 pB nV:V):∃U vo',qfr self M nk ek n v0 v1 v2 v3 (.ptr N 0) vo (.bool (inD w)) (sv text) (.bool (!text.isEmpty)) t24 pB nV S=qdt self M nk ek n v0 v1 v2 v3 (.ptr N 0) vo' (.bool (inD w)) (sv []) (.bool false) t24 pB nV U/\PD U N (qi4 w out text) vo'/\Grew (fun x=>qa8 vo=some x) S U/\(∀r,qa8 vo'=some r->qa8 vo=some r\/S.next<=r):=by
 unfold qfr qi4;cases text with
 | nil=>exact⟨S,vo,by rw[show(!([]:Bs).isEmpty)=false from rfl,i_b,c_f],by rw[iP rfl]; exact h,Grew.refl _ _,fun r hr=>.inl hr⟩
 | cons c l=>
  rw[show(!(c::l).isEmpty)=true from rfl,i_b,c_t,iN (by simp)];cases hw:inD w with
  | true=>
   obtain⟨U,vo',u1,u2,u3,u4⟩:=h.push (p:=.mk 1 (c::l) [] true []) (qbg 1 (c::l) [] true) hl;refine⟨U,vo',?_,by simpa using u2,u3,u4⟩;rw[i_b,c_t,build_q1,b_s,zP_eq,u1]
  | false=>
   obtain⟨U,vo',u1,u2,u3,u4⟩:=h.push (p:=.mk 0 (c::l) [] false []) (qbg 0 (c::l) [] false) hl;refine⟨U,vo',?_,by simpa using u2,u3,u4⟩;rw[i_b,c_f,build_l0,b_s,zP_eq,u1]
end
theorem take1 {s:Bs} {i:Nat} (h:i<s.length):(s.drop i).take (i+1-i)=[byt s i]:=by
 rw[show i+1-i=1 by omega,List.drop_eq_getElem_cons h,List.take_succ_cons,List.take_zero,qb9 h]
section
variable {K:FuncId->Option KF} {S U T:St} {i j N P:Nat} {s:Bs} {vo:V} {X Y:Tr V} {n w deep d q:Nat} {out:List Part} {text:Bs} {nk:Ac->St->Rs} {ek:Nat->Ac->St->Rs}
theorem u8c (c:UInt8) (k:Nat) (hk:k<256):qa4 E0 .eql 5 false true (.int .u8 (c.toNat:Int)) (.int .u8 (k:Int))=some (.bool (decide (c=UInt8.ofNat k))):=by
 have:=qd9 c (UInt8.ofNat k)
 rwa [show(UInt8.ofNat k).toNat=k by simp; omega]at this
theorem tail_c36 (hL:qex K n) (h:PD S N out vo) (hs:s.length<=5000) (hi:i<s.length) (hc:byt s i=36) (hlen:out.length<=i) (hdp:deep<=20) (hd:4*n+2*s.length+60<=d) (hn:2*(s.length-i)<=n) (hn2:n<100000) (hq:n<=q) (hX:AgAt S P 49 6 X) {p:Part} (hp:PtAt S (fun x=>N<x/\x<S.next/\qa8 vo≠some x) p X) (hij:i<j) (hj:j<=s.length) :
 PdR (qam n s w deep j (out++[p]) []) S N (qdt (ev E0 K d) qa3 nk ek q (sv s) (.int .i64 (i:Int)) (.int .i64 (w:Int)) (.int .i64 (deep:Int)) (.ptr N 0) vo (.bool (inD w)) (sv []) (.bool false) (.bool false) (.ptr P 0) (.int .i64 ((j-i:Nat):Int)) S):=by
 unfold qdt;have e:=u8c (byt s i) 36 (by decide);rw[show((36:Nat):Int)=36 from rfl,show UInt8.ofNat 36=36 from rfl,dT hc]at e;obtain⟨U,vo',u1,u2,u3,u4⟩:=h.push hp (by omega);rw[i_b,c_f,qbl s .i64 i hi,qb9 hi,b_s,e,b_s,i_b,c_t,hX.ldA h.on qej,b_s];dsimp only;rw[zP_eq,u1];dsimp only;rw[addN (by omega),b_s,show i+(j-i)=j by omega];refine PdR.after (h.ge u3) ?_;exact hL d q U N j s w deep (out++[p]) [] vo' nk ek u2 hs hj (by simp; omega) hdp hd (by omega) hn2 hq
theorem tail_c92 (hK:RefL K) (hL:qex K n) (h:PD S N out vo) (hs:s.length<=5000) (hi:i<s.length) (hc:byt s i=92) (hlen:out.length<=i) (hdp:deep<=20) (hd:4*n+2*s.length+60<=d) (hn:2*(s.length-i)<=n) (hn2:n<100000) (hq:n<=q) (pB nV:V) :
 PdR (if s.length<=i+1 then .error (19,i)else qam n s w deep (i+2) (out++[.mk 1 [byt s (i+1)] [] false []]) []) S N (qdt (ev E0 K d) qa3 nk ek q (sv s) (.int .i64 (i:Int)) (.int .i64 (w:Int)) (.int .i64 (deep:Int)) (.ptr N 0) vo (.bool (inD w)) (sv []) (.bool false) (.bool false) pB nV S):=by
 obtain⟨d',rfl⟩:∃d',d=d'+1:=⟨d-1,by omega⟩
 unfold qdt;have e1:=u8c (byt s i) 36 (by decide);have e2:=u8c (byt s i) 92 (by decide);rw[show((36:Nat):Int)=36 from rfl,show UInt8.ofNat 36=36 from rfl,hc,show decide ((92:UInt8)=36)=false from rfl]at e1;rw[show((92:Nat):Int)=92 from rfl,show UInt8.ofNat 92=92 from rfl,hc,dT rfl]at e2;rw[i_b,c_f,qbl s .i64 i hi,qb9 hi,b_s,hc,e1,b_s,i_b,c_f,e2,b_s,i_b,c_t,qb0 (by omega),b_s,qfm,b_s];dsimp only;rw[geqN,b_s,i_b];by_cases hle:s.length<=i+1
 . rw[dT hle,c_t,iP hle]
   exact wrP29 hK d' h i
 . rw[dF hle,c_f,iN hle,b_s,show V.int .i64 2=.int .i64 ((2:Nat):Int)from rfl,addC 2 (by omega),b_s,qap qij s (qav .i64 .i64 (by omega) (by omega)) (by omega),b_s]
   dsimp only;rw[show(s.drop (i+1)).take (i+2-(i+1))=[byt s (i+1)]from take1 (by omega),build_q,b_s];obtain⟨U,vo',u1,u2,u3,u4⟩:=h.push (p:=.mk 1 [byt s (i+1)] [] false []) (qbg ..) (by omega);rw[zP_eq,u1];dsimp only;rw[b_s];refine PdR.after (h.ge u3) ?_;exact hL (d'+1) q U N (i+2) s w deep _ [] vo' nk ek u2 hs (by omega) (by simp; omega) hdp hd (by omega) hn2 hq
theorem scan29 (self:EV) (M:Nat) (nk:Ac->St->Rs) (ek:Nat->Ac->St->Rs) (s:Bs) (hs:s.length<1000000000) (v1 v2 v3 v10 v11 v12 v13 v14:V) :
 ∀(m k q:Nat),k+m=s.length->m<q->qky self M nk ek q (sv s) v1 v2 v3 v10 v11 v12 v13 v14 (.int .i64 (k:Int)) S=ek 3 (fr 316 [(0,sv s),(1,v1),(2,v2),(3,v3),(10,v10),(11,v11),(12,v12),(13,v13),(14,v14),(24,.int .i64 (qjl s k 39:Int))]) S
 | _,_,0,_,hq=>by omega
 | 0,k,q+1,hk,hq=>by
  rw[qlm,qfm,b_s];dsimp only;rw[qdz,dF (by omega),b_s];simp only[g_t,qf1,b_s,c_f,p_b,i_b];rw[show qjl s k 39=k by unfold qjl; rw[ql8 (by omega)]; exact(by omega:s.length=k)]
 | m+1,k,q+1,hk,hq=>by
  have hlt:k<s.length:=by omega
  have ih:=scan29 self M nk ek s hs v1 v2 v3 v10 v11 v12 v13 v14 m (k+1) q (by omega) (by omega);have e:=u8neU (byt s k) 39;rw[show((39:UInt8).toNat:Int)=39 from rfl]at e;rw[qlm,qfm,b_s];dsimp only;rw[qdz,dT hlt,b_s];simp only[g_t,b_s,c_t];rw[qbl s .i64 k hlt,qb9 hlt,b_s,e,b_s,p_b,c_t,b_s,i_b];unfold qjl at ih ⊢;rw[qj0 hlt];by_cases hb:byt s k=39
  . rw[dT hb,iP hb,Bool.not_true,c_f]
    rfl
  . rw[dF hb,iN hb,nF,c_t,qb0 (by omega),b_s,ih]
theorem tail_c39 (hK:RefL K) (hL:qex K n) (h:PD S N out vo) (hs:s.length<=5000) (hi:i<s.length) (hc:byt s i=39) (hlen:out.length<=i) (hdp:deep<=20) (hd:4*n+2*s.length+60<=d) (hn:2*(s.length-i)<=n) (hn2:n<100000) (hq:n<=q) (pB nV:V) :
 PdR (match qim s (i+1) 39 with
  | none=>.error (19,i)
  | some k=>qam n s w deep (k+1) (out++[.mk 1 ((s.drop (i+1)).take (k-(i+1))) [] false []]) []) S N (qdt (ev E0 K d) qa3 nk ek q (sv s) (.int .i64 (i:Int)) (.int .i64 (w:Int)) (.int .i64 (deep:Int)) (.ptr N 0) vo (.bool (inD w)) (sv []) (.bool false) (.bool false) pB nV S):=by
 obtain⟨d',rfl⟩:∃d',d=d'+1:=⟨d-1,by omega⟩
 unfold qdt;have e1:=u8c (byt s i) 36 (by decide);have e2:=u8c (byt s i) 92 (by decide);have e3:=u8c (byt s i) 39 (by decide);rw[show((36:Nat):Int)=36 from rfl,show UInt8.ofNat 36=36 from rfl,hc,show decide ((39:UInt8)=36)=false from rfl]at e1;rw[show((92:Nat):Int)=92 from rfl,show UInt8.ofNat 92=92 from rfl,hc,show decide ((39:UInt8)=92)=false from rfl]at e2;rw[show((39:Nat):Int)=39 from rfl,show UInt8.ofNat 39=39 from rfl,hc,dT rfl]at e3;have hle:=idxE_le (s:=s) (i:=i+1) (by omega) 39;rw[i_b,c_f,qbl s .i64 i hi,qb9 hi,b_s,hc,e1,b_s,i_b,c_f,e2,b_s,i_b,c_f,e3,b_s,i_b,c_t,qb0 (by omega),b_s,scan29 _ _ _ _ s (by omega) _ _ _ _ _ _ _ _ (s.length-(i+1)) (i+1) qa3 (by omega) (by unfold qa3; omega),exB_same,R29_1146_eq,qfm,b_s];dsimp only;rw[geqN,b_s,i_b];cases hx:qim s (i+1) 39 with
 | none=>
  rw[show qjl s (i+1) 39=s.length by unfold qjl; rw[hx]; rfl,dT (lR _),c_t];exact wrP29 hK d' h i
 | some k=>
  have hk:=qdu hx;rw[show qjl s (i+1) 39=k by unfold qjl; rw[hx]; rfl,dF (by omega),c_f,qb0 (by omega),b_s,qap qij s (qav .i64 .i64 (by omega) (by omega)) (by omega),b_s];dsimp only;rw[build_q,b_s];obtain⟨U,vo',u1,u2,u3,u4⟩:=h.push (p:=.mk 1 ((s.drop (i+1)).take (k-(i+1))) [] false []) (qbg ..) (by omega);rw[zP_eq,u1];dsimp only;rw[qb0 (by omega),b_s,cont29];refine PdR.after (h.ge u3) ?_;exact hL (d'+1) q U N (k+1) s w deep _ [] vo' nk ek u2 hs (by omega) (by simp; omega) hdp hd (by omega) hn2 hq
theorem tail_bad (hK:RefL K) (h:PD S N out vo) (hi:i<s.length) (h36:byt s i≠36) (h92:byt s i≠92) (h39:byt s i≠39) (h34:byt s i=34->w=4) (hd:1<=d) (pB nV:V) :
 PdR (.error (19,i)) S N (qdt (ev E0 K d) qa3 nk ek q (sv s) (.int .i64 (i:Int)) (.int .i64 (w:Int)) (.int .i64 (deep:Int)) (.ptr N 0) vo (.bool (inD w)) (sv []) (.bool false) (.bool false) pB nV S):=by
 obtain⟨d',rfl⟩:∃d',d=d'+1:=⟨d-1,by omega⟩
 unfold qdt;have e1:=u8c (byt s i) 36 (by decide);have e2:=u8c (byt s i) 92 (by decide);have e3:=u8c (byt s i) 39 (by decide);have e4:=u8c (byt s i) 34 (by decide);rw[show((36:Nat):Int)=36 from rfl,show UInt8.ofNat 36=36 from rfl,dF h36]at e1;rw[show((92:Nat):Int)=92 from rfl,show UInt8.ofNat 92=92 from rfl,dF h92]at e2;rw[show((39:Nat):Int)=39 from rfl,show UInt8.ofNat 39=39 from rfl,dF h39]at e3;rw[show((34:Nat):Int)=34 from rfl,show UInt8.ofNat 34=34 from rfl]at e4;rw[i_b,c_f,qbl s .i64 i hi,qb9 hi,b_s,e1,b_s,i_b,c_f,e2,b_s,i_b,c_f,e3,b_s,i_b,c_f,e4,b_s,i_b];by_cases h:byt s i=34
 . rw[dT h,c_t,show V.int .i64 4=.int .i64 ((4:Nat):Int)from rfl,i3eq,dT (h34 h),b_s,i_b,c_t]
   exact wrP29 hK d' ‹PD S N out vo› i
 . rw[dF h,c_f]
   exact wrP29 hK d' ‹PD S N out vo› i
theorem tail_c34 (hK:RefL K) (hP:qlo K n) (hL:qex K n) (h:PD S N out vo) (hs:s.length<=5000) (hi:i<s.length) (hc:byt s i=34) (hw4:w≠4) (hlen:out.length<=i) (hdp:deep<=20) (hd:4*n+2*s.length+61<=d) (hn:2*(s.length-i)<=n) (hn2:n<100000) (hq:n<=q) (pB nV:V) :
 PdR (match qam n s 1 deep (i+1) [] []with
  | .error e=>.error e
  | .ok (l,j)=>if atD s j [34]then qam n s w deep (j+1) (out++(if l.isEmpty then [.mk 1 [] [] true []]else l)) []else .error (19,i)) S N (qdt (ev E0 K d) qa3 nk ek q (sv s) (.int .i64 (i:Int)) (.int .i64 (w:Int)) (.int .i64 (deep:Int)) (.ptr N 0) vo (.bool (inD w)) (sv []) (.bool false) (.bool false) pB nV S):=by
 obtain⟨d',rfl⟩:∃d',d=d'+1:=⟨d-1,by omega⟩
 have hp:=hP (d'+1) S (i+1) s 1 deep h.on hs (by omega) hdp (by omega) (by omega) hn2;unfold qdt;have e1:=u8c (byt s i) 36 (by decide);have e2:=u8c (byt s i) 92 (by decide);have e3:=u8c (byt s i) 39 (by decide);have e4:=u8c (byt s i) 34 (by decide);rw[show((36:Nat):Int)=36 from rfl,show UInt8.ofNat 36=36 from rfl,hc,show decide ((34:UInt8)=36)=false from rfl]at e1;rw[show((92:Nat):Int)=92 from rfl,show UInt8.ofNat 92=92 from rfl,hc,show decide ((34:UInt8)=92)=false from rfl]at e2;rw[show((39:Nat):Int)=39 from rfl,show UInt8.ofNat 39=39 from rfl,hc,show decide ((34:UInt8)=39)=false from rfl]at e3;rw[show((34:Nat):Int)=34 from rfl,show UInt8.ofNat 34=34 from rfl,hc,dT rfl]at e4;rw[i_b,c_f,qbl s .i64 i hi,qb9 hi,b_s,hc,e1,b_s,i_b,c_f,e2,b_s,i_b,c_f,e3,b_s,i_b,c_f,e4,b_s,i_b,c_t,show V.int .i64 4=.int .i64 ((4:Nat):Int)from rfl,i3eq,dF hw4,b_s,i_b,c_f,qb0 (by omega),b_s];rw[show V.int .i64 1=.int .i64 ((1:Nat):Int)from rfl];cases hq':qam n s 1 deep (i+1) [] []with
 | error e=>
  rw[hq']at hp;obtain⟨U,z,p1,p2,p3⟩:=hp;have hU:=h.move (p3.mono fun x _ h=>h.elim);rw[p1,callP_ret,ex03,b_s,ex13,b_s,ex2,b_s,b_s,qan,fl0];obtain⟨n1,n2,n3⟩:=qar hU.on 29 2 (qb6 0 0);have on1:=n2.on.trans hU.on;obtain⟨V1,m1,m2,m3,m4⟩:=n1.stA on1 qda (qb6 e.1 e.2);have oV:=m3.on.trans on1;have nx2:=n2.next
  have gV:Grew (fun x=>U.next<=x) U V1:=(n2.mono fun x _ h=>h.elim).trans (m3.mono fun x _ h=>by omega);have hV:=hU.move gV;rw[m1,b_s];dsimp only;rw[f_0,b_s,m2.ld1 oV qda (by decide) (flt0 e.1 e.2),b_s];dsimp only;rw[ne27,show(e.1 != 0)=true by simpa using p2,b_s,i_b,c_t];have q1:ldA 2 (.ptr U.next 0) (V1.lg [])=some (.agg 2 (qb6 e.1 e.2),V1.lg [⟨U.next,0,0+2,false⟩]):=m2.ldOn qda [];obtain⟨Y,hY⟩:=hV.box;obtain⟨V2,r1,r2,r3,r4⟩:=hY.stA oV qda (qb6 e.1 e.2);have oV2:=r3.on.trans oV;have r5:=qk5 oV r1 [];rw[show onS V1=V1.lg []from Eq.trans rfl rfl,q1,b_s];dsimp only;rw[qee,llg,r5,b_s];dsimp only;obtain⟨W,t1,t2,t3,t4⟩:=qcp oV V2 [⟨N,0,0+2,true⟩] [[],(V1.lg [⟨U.next,0,0+2,false⟩]).log,[],[],(V2.lg [⟨N,0,0+2,true⟩]).log];rw[t1]
  have a0:AgAt W N 29 2 (qb6 e.1 e.2):=by
   obtain⟨c,x1,x2⟩:=r2;exact⟨c,by rw[t2]; exact x1,x2⟩
  rw[a0.ldrA t4 qda,b_s];have hl:=h.lt;have nxU:=p3.next
  exact⟨W,_,rfl,p2,(p3.mono fun x _ h=>h.elim).trans ((gV.mono fun x _ h=>by omega).trans (qmh (r3.mono fun x _ h=>by omega) t2 t3 (t4.trans oV2.symm)))⟩
 | ok r=>
  rw[hq']at hp;obtain⟨l,j⟩:=r;obtain⟨U,v,p1,⟨rows,p2,p3,p4⟩,p5⟩:=hp;have hle:=(qcc n).1 s 1 deep (i+1) [] [] l j hq' (by omega);have hend:=pars_end n s 1 deep (i+1) [] [] l j hq' (by omega);simp only[List.length_nil]at hle;have hU:=h.move (p5.mono fun x _ h=>h.elim);have nx:=p5.next
  have hlt:=h.lt;rw[p1,callP_ret,ex03,b_s,ex13,b_s,ex2,b_s,b_s,qan,fl0];obtain⟨n1,n2,n3⟩:=qar hU.on 29 2 (qb6 0 0);have on1:=n2.on.trans hU.on;obtain⟨V1,m1,m2,m3,m4⟩:=n1.stA on1 qda (qb6 0 0);have oV:=m3.on.trans on1;have nx2:=n2.next
  have gV:Grew (fun x=>U.next<=x) U V1:=(n2.mono fun x _ h=>h.elim).trans (m3.mono fun x _ h=>by omega);have nx3:=gV.next
  have hV:=hU.move gV;have gS:Grew (fun x=>N<=x) S V1:=(p5.mono fun x _ h=>h.elim).trans (gV.mono fun x _ h=>by omega);rw[m1,b_s];dsimp only;rw[f_0,b_s,m2.ld1 oV qda (by decide) (flt0 0 0),b_s];dsimp only;rw[ne27,show((0:Nat) != 0)=false from rfl,b_s,i_b,c_f,qfm,b_s];dsimp only;rw[geqN,b_s,i_b];refine PdR.after gS ?_;by_cases hjl:j<s.length
  . have hb:byt s j=34:=by
     rcases hend with h1|h1
     . omega
     . unfold qi1 at h1
       simpa using h1
    have ha:atD s j [34]=true:=by rw[qbn hjl,dT hb]
    rw[dF (by omega),c_f,iP ha];have pV:RV V1 v 49 6 rows:=p2.grew (fun r hr hw=>by have:=p2.blk_lt hr; omega) gV;have pP:PrAt V1 (fun x=>N<x/\x<V1.next/\qa8 vo≠some x) l rows:=(p3.grew gV fun x hx hw=>by omega).mono fun x hx=>⟨by omega,by omega,fun hv=>by have:=h.vo_lt _ hv; omega⟩
    rw[pV.len,b_s];dsimp only;rw[show V.int .i64 0=.int .i64 ((0:Nat):Int)from rfl,i3eq,b_s,i_b];have hll:=pP.len;cases l with
    | nil=>
     obtain⟨W,vo',u1,u2,u3,u4⟩:=hV.push (p:=.mk 1 [] [] true []) (qbg ..) (by omega);rw[dT (by simpa using hll),c_t,show V.int .i64 ((0:Nat):Int)=.int .i64 0 from rfl,show V.int .i64 ((1:Nat):Int)=.int .i64 1 from rfl,build_e,b_s,show(Tr.ofListFrom .nil [(.int .i64 0),(sv []),(sv []),(.bool false),.nilslice,.nilptr] 0:Tr V)=zP from rfl,u1];dsimp only;rw[qb0 (by omega),b_s];refine PdR.after (hV.ge u3) ?_;exact hL (d'+1) q W N (j+1) s w deep _ [] vo' nk ek u2 hs (by omega) (by simp; omega) hdp (by omega) (by omega) hn2 hq
    | cons x l=>
     obtain⟨W,vo',u1,u2,u3,u4⟩:=hV.cat (pV.pv oV) pP (by omega);rw[dF (by simp at hll; omega),c_f,u1,b_s];dsimp only;rw[show V.int .i64 ((1:Nat):Int)=.int .i64 1 from rfl,qb0 (by omega),b_s];refine PdR.after (hV.ge u3) ?_;exact hL (d'+1) q W N (j+1) s w deep _ [] vo' nk ek u2 hs (by omega) (by simp only[lAq,List.length_nil,List.isEmpty_cons,Bool.false_eq_true,if_false]; omega) hdp (by omega) (by omega) hn2 hq
  . rw[dT (by omega),c_t,iN (by
     have:j=s.length:=by omega
     rw[this,show([34]:Bs)=34::[]from rfl];have:=qit (s:=s) (i:=s.length) (by omega) 34
     simp[this])]
    exact wrP29 hK d' hV i
end
theorem at_byt {s:Bs} {i:Nat} {c:UInt8} {t:Bs} (h:atD s i (c::t)=true):byt s i=c:=by
 unfold atD at h;have h:=beq_iff_eq.1 h
 have h1:(s.drop i)[0]?=some c:=by
  cases hd:s.drop i with
  | nil=>rw[hd]at h; simp at h
  | cons x l=>
   rw[hd]at h;simp only[List.length_cons,List.take_succ_cons,List.cons.injEq]at h;simp[h.1]
 rw[List.getElem?_drop,Nat.add_zero]at h1;unfold byt;rw[List.getD_eq_getElem?_getD,h1];rfl
theorem app_ne (t:Bs) (c:UInt8):(!(t++[c]).isEmpty)=true:=by cases t<;>rfl
theorem esc_has (c:UInt8) (w:Nat):(([36,96,92]:Bs).contains c||(c==34&&w != 2))=(decide (c=36)||(decide (c=96)||(decide (c=92)||((w != 2)&&decide (c=34))))):=by
 rw[List.contains_cons,List.contains_cons,List.contains_cons,List.contains_nil];have hb:∀k:UInt8,(c==k)=decide (c=k):=fun k=>by rw[Bool.eq_iff_iff,beq_iff_eq,decide_eq_true_iff]
 rw[hb,hb,hb,hb,Bool.or_false,Bool.and_comm,Bool.or_assoc,Bool.or_assoc]
section
variable {K:FuncId->Option KF} {S U T:St} {i j N P:Nat} {s:Bs} {vo:V} {X Y:Tr V} {n w deep d q:Nat} {out:List Part} {text:Bs} {nk:Ac->St->Rs} {ek:Nat->Ac->St->Rs}
theorem loopd_dollar (hK:RefL K) (hPm:∀m,m+1=n->qlo K m) (hL:qex K n) (h:PD S N out vo) (hs:s.length<=5000) (hi:i<s.length) (hc:byt s i=36) (hlen:out.length+text.length<=i) (hdp:deep<=20) (hd:4*(n+1)+2*s.length+60<=d) (hn:2*(s.length-i)<=n) (hn2:n<100000) (hq:n<=q) :
 PdR (match qh6 n s w deep i with
  | .error e=>.error e
  | .ok none=>qam n s w deep (i+1) out (text++[36])
  | .ok (some (p,j))=>qam n s w deep j (qi4 w out text++[p]) []) S N (
  callP ((ev E0 K d).f 51 [sv s,.int .i64 (i:Int),.int .i64 (w:Int),.int .i64 (deep:Int)] (nwP 49 6 zP S).2) fun t186 S186=>
  (qa6 t186 0).bind fun t188=>
  (qa6 t186 1).bind fun t189=>
  (qa6 t186 2).bind fun t190=>
  (some (nwP 49 6 zP S186)).bind fun p191=>
  (some (nwP 29 2 (qb6 0 0) p191.2)).bind fun p192=>
  (stP 6 p191.1 t188 p192.2).bind fun p193=>
  (stP 2 p192.1 t190 p193.2).bind fun p195=>
  (faP 0 false 1 p192.1).bind fun t196=>
  (ld1 t196 p195.2).bind fun p197=>
  (qa4 E0 .neq 27 false true p197.1 (.int .i64 0)).bind fun t198=>
  ifK t198 (
  (ldA 2 p192.1 (onS p197.2)).bind fun p200=>
  (stP 2 (.ptr N 0) p200.1 (onS p200.2)).bind fun p203=>
  (ldrA 2 (.ptr N 0) (qbk p197.2 p203.2 [[],p200.2.log,[],[],p203.2.log])).bind fun p204=>
  some (.ret (.tuple [.nilslice,.int .i64 (i:Int),p204.1]),p204.2)) (
  (qa4 E0 .eql 3 false true t189 (.int .i64 0)).bind fun t206=>
  ifK t206 (
  (qa4 E0 .add 9 false true (sv text) (sv [36])).bind fun t208=>
  (qa4 E0 .add 3 false true (.int .i64 (i:Int)) (.int .i64 1)).bind fun t212=>
  qdx (ev E0 K d) qa3 nk ek q (sv s) t212 (.int .i64 (w:Int)) (.int .i64 (deep:Int)) (.ptr N 0) vo (.bool (inD w)) t208 (.bool true) p197.2) (
  (ldA 6 p191.1 p197.2).bind fun p214=>
  (stP 6 (.ptr S.next 0) p214.1 p214.2).bind fun p215=>
  qfr (ev E0 K d) qa3 nk ek q (sv s) (.int .i64 (i:Int)) (.int .i64 (w:Int)) (.int .i64 (deep:Int)) (.ptr N 0) vo (.bool (inD w)) (sv text) (.bool (!text.isEmpty)) (.bool false) (.ptr S.next 0) t189 p215.2))):=by
 obtain⟨d',rfl⟩:∃d',d=d'+1:=⟨d-1,by omega⟩
 obtain⟨m,rfl⟩:∃m,n=m+1:=⟨n-1,by omega⟩
 obtain⟨k1,k2,k3⟩:=qar h.on 49 6 zP;have on1:=k2.on.trans h.on;have hlt:=h.lt;have hdol:=dold_run (w:=w) (deep:=deep) (i:=i) hK (hPm m rfl) d' on1 hs hi hdp (by omega) (by omega) (by omega);have zR:∀{r:Nat},qa8 vo=some r->r<S.next:=fun hr=>h.vo_lt _ hr
 generalize hS1:(nwP 49 6 zP S).2=S1 at *;cases hq':qh6 (m+1) s w deep i with
 | error e=>
  rw[hq']at hdol;obtain⟨U,X,p1,p2,p3⟩:=hdol;have oU:=p3.on.trans on1;have nxU:=p3.next
  rw[p1,callP_ret,ex03,b_s,ex13,b_s,ex2,b_s,b_s,qan,b_s,qan];obtain⟨n1,n2,n3⟩:=qar oU 49 6 zP;have on2:=n2.on.trans oU;obtain⟨m1,m2,m3⟩:=qar on2 29 2 (qb6 0 0);have on3:=m2.on.trans on2;rw[n3]at m1 ⊢;obtain⟨V1,a1,a2,a3,a4⟩:=(n1.grew (by omega) (fun h=>h) m2).stA on3 qej X;have on4:=a3.on.trans on3;obtain⟨V2,b1,b2,b3,b4⟩:=(m1.grew (by omega) (by omega) a3).stA on4 qda (qb6 e.1 e.2);have oV:=b3.on.trans on4;have nx2:=n2.next
  have nx3:=m2.next
  have gV:Grew (fun x=>S1.next<=x) S1 V2:=p3.trans ((n2.mono fun x _ h=>h.elim).trans ((m2.mono fun x _ h=>h.elim).trans ((a3.mono fun x _ h=>by omega).trans (b3.mono fun x _ h=>by omega))));have gS:Grew (fun x=>S.next<=x) S V2:=(k2.mono fun x _ h=>h.elim).trans (gV.mono fun x _ h=>by omega);have hV:=h.move gS;rw[a1,b_s];dsimp only;rw[b1,b_s];dsimp only;rw[f_0,b_s,b2.ld1 oV qda (by decide) (flt0 e.1 e.2),b_s];dsimp only;rw[ne27,show(e.1 != 0)=true by simpa using p2,b_s,i_b,c_t];have q1:ldA 2 (.ptr (U.next+1) 0) (V2.lg [])=some (.agg 2 (qb6 e.1 e.2),V2.lg [⟨U.next+1,0,0+2,false⟩]):=b2.ldOn qda [];obtain⟨Y,hY⟩:=hV.box;obtain⟨V3,r1,r2,r3,r4⟩:=hY.stA oV qda (qb6 e.1 e.2);have oV3:=r3.on.trans oV;have r5:=qk5 oV r1 [];rw[show onS V2=V2.lg []from Eq.trans rfl rfl,q1,b_s];dsimp only;rw[qee,llg,r5,b_s];dsimp only;obtain⟨W,t1,t2,t3,t4⟩:=qcp oV V3 [⟨N,0,0+2,true⟩] [[],(V2.lg [⟨U.next+1,0,0+2,false⟩]).log,[],[],(V3.lg [⟨N,0,0+2,true⟩]).log];rw[t1]
  have a0:AgAt W N 29 2 (qb6 e.1 e.2):=by
   obtain⟨c,x1,x2⟩:=r2;exact⟨c,by rw[t2]; exact x1,x2⟩
  rw[a0.ldrA t4 qda,b_s];exact⟨W,_,rfl,p2,(gS.mono fun x _ h=>by omega).trans (qmh (r3.mono fun x _ h=>by omega) t2 t3 (t4.trans oV3.symm))⟩
 | ok r=>
  have both:∀(U:St) (X:Tr V) (z:Nat),Grew (fun x=>S1.next<=x) S1 U->∃V2,(∀(k:V->V->V->St->Rs),((some (nwP 49 6 zP U)).bind fun p191=>
   (some (nwP 29 2 (qb6 0 0) p191.2)).bind fun p192=>
   (stP 6 p191.1 (.agg 6 X) p192.2).bind fun p193=>
   (stP 2 p192.1 (.agg 2 (qb6 0 0)) p193.2).bind fun p195=>
   (faP 0 false 1 p192.1).bind fun t196=>
   (ld1 t196 p195.2).bind fun p197=>
   (qa4 E0 .neq 27 false true p197.1 (.int .i64 0)).bind fun t198=>k p191.1 p192.1 t198 p197.2)=k (.ptr U.next 0) (.ptr (U.next+1) 0) (.bool false) V2)/\AgAt V2 U.next 49 6 X/\Grew (fun x=>U.next<=x) U V2:=fun U X z p3=>by
   have oU:=p3.on.trans on1;obtain⟨n1,n2,n3⟩:=qar oU 49 6 zP;have on2:=n2.on.trans oU;obtain⟨m1,m2,m3⟩:=qar on2 29 2 (qb6 0 0);have on3:=m2.on.trans on2;rw[n3]at m1;obtain⟨V1,a1,a2,a3,a4⟩:=(n1.grew (by omega) (fun h=>h) m2).stA on3 qej X;have on4:=a3.on.trans on3;obtain⟨V2,b1,b2,b3,b4⟩:=(m1.grew (by omega) (by omega) a3).stA on4 qda (qb6 0 0);have oV:=b3.on.trans on4;have nx2:=n2.next
   have nx3:=m2.next
   refine⟨V2,fun k=>?_,a2.grew (by omega) (by omega) b3,(n2.mono fun x _ h=>h.elim).trans ((m2.mono fun x _ h=>h.elim).trans ((a3.mono fun x _ h=>by omega).trans (b3.mono fun x _ h=>by omega)))⟩;rw[b_s,qan,b_s,qan,n3,a1,b_s];dsimp only;rw[b1,b_s];dsimp only;rw[f_0,b_s,b2.ld1 oV qda (by decide) (flt0 0 0),b_s];dsimp only;rw[ne27,show((0:Nat) != 0)=false from rfl,b_s]
  cases r with
  | none=>
   rw[hq']at hdol;obtain⟨U,X,p1,p3⟩:=hdol;obtain⟨V2,v1,v2,v3⟩:=both U X 0 p3;rw[p1,callP_ret,ex03,b_s,ex13,b_s,ex2,b_s];refine(show PdR _ S N _ from ?_)
   have hv:=v1 fun p191 p192 t198 p197=>ifK t198 (
    (ldA 2 p192 (onS p197)).bind fun p200=>
    (stP 2 (.ptr N 0) p200.1 (onS p200.2)).bind fun p203=>
    (ldrA 2 (.ptr N 0) (qbk p197 p203.2 [[],p200.2.log,[],[],p203.2.log])).bind fun p204=>
    some (.ret (.tuple [.nilslice,.int .i64 (i:Int),p204.1]),p204.2)) (
    (qa4 E0 .eql 3 false true (.int .i64 0) (.int .i64 0)).bind fun t206=>
    ifK t206 (
    (qa4 E0 .add 9 false true (sv text) (sv [36])).bind fun t208=>
    (qa4 E0 .add 3 false true (.int .i64 (i:Int)) (.int .i64 1)).bind fun t212=>
    qdx (ev E0 K (d'+1)) qa3 nk ek q (sv s) t212 (.int .i64 (w:Int)) (.int .i64 (deep:Int)) (.ptr N 0) vo (.bool (inD w)) t208 (.bool true) p197) (
    (ldA 6 p191 p197).bind fun p214=>
    (stP 6 (.ptr S.next 0) p214.1 p214.2).bind fun p215=>
    qfr (ev E0 K (d'+1)) qa3 nk ek q (sv s) (.int .i64 (i:Int)) (.int .i64 (w:Int)) (.int .i64 (deep:Int)) (.ptr N 0) vo (.bool (inD w)) (sv text) (.bool (!text.isEmpty)) (.bool false) (.ptr S.next 0) (.int .i64 0) p215.2))
   rw[hv];have nxU:=p3.next
   have gS:Grew (fun x=>S.next<=x) S V2:=(k2.mono fun x _ h=>h.elim).trans ((p3.mono fun x _ h=>by omega).trans (v3.mono fun x _ h=>by omega));have hV:=h.move gS;rw[i_b,c_f,show V.int .i64 0=.int .i64 ((0:Nat):Int)from rfl,i3eq,dT rfl,b_s,i_b,c_t,qbh _ _ (by simp; omega),b_s,qb0 (by omega),b_s];refine PdR.after (gS.mono fun x _ h=>by omega) ?_;have hgo:=hL (d'+1) q V2 N (i+1) s w deep out (text++[36]) vo nk ek hV hs (by omega) (by simp; omega) hdp (by omega) (by omega) hn2 hq
   rwa [app_ne]at hgo
  | some pj=>
   rw[hq']at hdol;obtain⟨p,j⟩:=pj;obtain⟨U,X,p1,pij,pp,p3⟩:=hdol;have pij:i<j:=pij;have hjl:=((qcc (m+1)).2 s w deep i p j hq').2;obtain⟨V2,v1,v2,v3⟩:=both U X 0 p3;rw[p1,callP_ret,ex03,b_s,ex13,b_s,ex2,b_s];refine(show PdR _ S N _ from ?_)
   have hv:=v1 fun p191 p192 t198 p197=>ifK t198 (
    (ldA 2 p192 (onS p197)).bind fun p200=>
    (stP 2 (.ptr N 0) p200.1 (onS p200.2)).bind fun p203=>
    (ldrA 2 (.ptr N 0) (qbk p197 p203.2 [[],p200.2.log,[],[],p203.2.log])).bind fun p204=>
    some (.ret (.tuple [.nilslice,.int .i64 (i:Int),p204.1]),p204.2)) (
    (qa4 E0 .eql 3 false true (.int .i64 ((j-i:Nat):Int)) (.int .i64 0)).bind fun t206=>
    ifK t206 (
    (qa4 E0 .add 9 false true (sv text) (sv [36])).bind fun t208=>
    (qa4 E0 .add 3 false true (.int .i64 (i:Int)) (.int .i64 1)).bind fun t212=>
    qdx (ev E0 K (d'+1)) qa3 nk ek q (sv s) t212 (.int .i64 (w:Int)) (.int .i64 (deep:Int)) (.ptr N 0) vo (.bool (inD w)) t208 (.bool true) p197) (
    (ldA 6 p191 p197).bind fun p214=>
    (stP 6 (.ptr S.next 0) p214.1 p214.2).bind fun p215=>
    qfr (ev E0 K (d'+1)) qa3 nk ek q (sv s) (.int .i64 (i:Int)) (.int .i64 (w:Int)) (.int .i64 (deep:Int)) (.ptr N 0) vo (.bool (inD w)) (sv text) (.bool (!text.isEmpty)) (.bool false) (.ptr S.next 0) (.int .i64 ((j-i:Nat):Int)) p215.2))
   rw[hv];have nxU:=p3.next
   have nxV:=v3.next
   have oV:V2.on=false:=v3.on.trans (p3.on.trans on1);rw[i_b,c_f,eql0,dF (by omega),b_s,i_b,c_f,v2.ldA oV qej,b_s];dsimp only;have kP:AgAt V2 S.next 49 6 zP:=(k1.grew (by omega) (by omega) p3).grew (by omega) (by omega) v3
   obtain⟨V3,r1,r2,r3,r4⟩:=kP.stA oV qej X;rw[r1,b_s];dsimp only;have gS:Grew (fun x=>S.next<=x) S V3:=(k2.mono fun x _ h=>h.elim).trans ((p3.mono fun x _ h=>by omega).trans ((v3.mono fun x _ h=>by omega).trans (r3.mono fun x _ h=>by omega)));have hV:=h.move gS;have hfl:=qjt w out text;obtain⟨U3,vo',f1,f2,f3,f4⟩:=qi5 (w:=w) (n:=q) (ev E0 K (d'+1)) qa3 nk ek hV (by omega) text (sv s) (.int .i64 (i:Int)) (.int .i64 (w:Int)) (.int .i64 (deep:Int)) (.bool false) (.ptr S.next 0) (.int .i64 ((j-i:Nat):Int));rw[f1];have nx3:=f3.next
   refine PdR.after ((gS.mono fun x _ h=>by omega).trans (hV.ge f3)) ?_;refine tail_c36 hL f2 hs hi hc (by omega) hdp (by omega) hn hn2 hq (r2.grew (by omega) (fun hr=>by have:=zR hr; omega) f3) ?_ pij hjl;refine((((pp.grew v3 fun x hx hw=>by omega).grew r3 fun x hx hw=>by omega).grew f3 fun x hx hw=>by have:=zR hw; omega)).mono fun x hx=>⟨by omega,by omega,fun hv=>?_⟩
   rcases f4 x hv with h1|h1
   . have:=zR h1; omega
   . omega
end
end Go.Proofs.YtafbipadnnmccaaDoor.W
end
