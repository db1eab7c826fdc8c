/-
  WHAT THE FUNCTIONS COME TO: each is read by the evaluator,printed,and told as a function of data,part 11 of 11 (no condition).
-/
import Derived.Test.YtafbipadnnmccaaDoorW10
import Derived.Test.YtafbipadnnmccaaDoorProg
import Derived.KernelRfl
noncomputable section
namespace Go.Proofs.YtafbipadnnmccaaDoor.W
open Go.Proofs.YtafbipadnnmccaaDoor.Ev
set_option maxRecDepth 100000
noncomputable section
def C5:Code:=Tryd.f5.body.getD .skip
def B5:D:=(qb3 C5 [[],[],[],[1,2],[],[],[],[],[],[],[0],[0],[],[],[],[3,4,5],[],[],[],[],[],[],[0],[0],[],[],[],[]]).1
def RL5:List Nat:=cellsOf Tryd.f5.results.toList
def R5_35 (self:EV) (N:Nat) (nk:Ac->St->Rs) (ek:Nat->Ac->St->Rs) (a:Ac) (S:St):Rs:=qby [] a fun a=>dr E0 self RL5 N (B5.r.r).r (mkK E0 self Tryd.f5 nk ek) a S
def R5_41 (self:EV) (N:Nat) (nk:Ac->St->Rs) (ek:Nat->Ac->St->Rs) (a:Ac) (S:St):Rs:=qby [] a fun a=>dr E0 self RL5 N (B5.r.r.r.l.r.r).r (mkK E0 self Tryd.f5 nk ek) a S
theorem R5_41_eq (self:EV) (N:Nat) (nk:Ac->St->Rs) (ek:Nat->Ac->St->Rs) (S:St):R5_41 self N nk ek (fr 115 []) S =
callP (self.f 16 [(sv [36,123,120,45]),(.int .i64 20)] S) fun t42 S42=>
callP (self.f 16 [(sv [125]),(.int .i64 20)] S42) fun t43 S43=>
(qa4 E0 .add 9 false false t42 t43).bind fun t44=>
callP (self.f 8 [t44] S43) fun t47 S47=>
(qaa t47 0).bind fun t49=>
(qaa t47 1).bind fun t50=>
callP (self.f 16 [(sv [97]),(.int .i64 4000)] S47) fun t53 S53=>
callP (self.f 8 [t53] S53) fun t54 S54=>
(qaa t54 0).bind fun t56=>
(qaa t54 1).bind fun t57=>
(qa3 true (.bool true)).bind fun g61=>callP (bif g61 then self.f 12 [] S54 else some (.ret (.tuple []),S54)) fun t61 S61=>
(qau (.bool true) (some t61) (some (.bool false))).bind fun t62=>
(qa3 true t62).bind fun g64=>(bif g64 then some t50 else some (.tuple [])).bind fun t64=>
(qa3 true t62).bind fun g65=>(bif g65 then qa4 E0 .eql 24 false true t64 .niliface else some (.tuple [])).bind fun t65=>
(qau t62 (some t65) (some (.bool false))).bind fun t66=>
(qa3 true t66).bind fun g68=>(bif g68 then some t57 else some (.tuple [])).bind fun t68=>
(qa3 true t66).bind fun g69=>(bif g69 then qa4 E0 .eql 24 false true t68 .niliface else some (.tuple [])).bind fun t69=>
(qau t66 (some t69) (some (.bool false))).bind fun t70=>
(qa3 true t70).bind fun g72=>(bif g72 then some t44 else some (.tuple [])).bind fun t72=>
(qa3 true t70).bind fun g73=>(bif g73 then qa4 E0 .add 9 true false (sv [36,123,120,45]) t72 else some (.tuple [])).bind fun t73=>
(qa3 true t70).bind fun g74=>(bif g74 then qa4 E0 .add 9 false true t73 (sv [125])else some (.tuple [])).bind fun t74=>
(qa3 true t70).bind fun g75=>callP (bif g75 then self.f 15 [t74,(.int .i64 3),(.int .i64 80)] S61 else some (.ret (.tuple []),S61)) fun t75 S75=>
(qau t70 (some t75) (some (.bool false))).bind fun t76=>
(qa3 true t76).bind fun g78=>callP (bif g78 then self.f 16 [(sv [97]),(.int .i64 4001)] S75 else some (.ret (.tuple []),S75)) fun t78 S78=>
(qa3 true t76).bind fun g79=>callP (bif g79 then self.f 15 [t78,(.int .i64 3),(.int .i64 4000)] S78 else some (.ret (.tuple []),S78)) fun t79 S79=>
(qau t76 (some t79) (some (.bool false))).bind fun t80=>
some (.ret t80,S79):=by kernel_rfl
def L5_83 (self:EV) (N:Nat) (nk:Ac->St->Rs) (ek:Nat->Ac->St->Rs) (n:Nat) ( v3 v4 v5:V) (S:St):Rs:=qew [3,4,5] (dr E0 self RL5 N (B5.r.r.r.l.r.r.l.r.l.l)) (mkK E0 self Tryd.f5 nk ek) n (fr 115 [(3,v3),(4,v4),(5,v5)]) S
theorem L5_83_eq (self:EV) (N:Nat) (nk:Ac->St->Rs) (ek:Nat->Ac->St->Rs) (n:Nat) ( v3 v4 v5:V) (S:St):L5_83 self N nk ek (n+1) v3 v4 v5 S =
(lnS v3 S).bind fun p86=>
(qa4 E0 .lss 3 false false v5 p86.1).bind fun t87=>
ifK t87 (
(ixP 1 v3 v5).bind fun t90=>
(ld1 t90 (onS p86.2)).bind fun p91=>
(ixA 19 1 false 1 v4 v5).bind fun t93=>
(ld1 t93 (onS p91.2)).bind fun p94=>
qkq (qas E0 (B5.r.r.r.l.r.r.l.r.l.l.r.l.l.l).ops) p86.2 7 [[],[],[],p91.2.log,[],[],p94.2.log] (self.f 15 [p91.1,(.int .i64 19),p94.1] (onS p94.2)) fun t95 S95=>
(unV .not t95).bind fun t96=>
qhk [(3,[6])] p86.2 [[],[],[],p91.2.log,[],[],p94.2.log,S95.log,[]] (onS S95) fun S97=>
ifK t96 (
some (.ret (.bool false),S97)) (
(qa4 E0 .add 3 false true v5 (.int .i64 1)).bind fun t100=>
L5_83 self N nk ek n v3 v4 t100 S97)) (
ek 2 (fr 115 []) p86.2):=by kernel_rfl
theorem R5_35_eq (self:EV) (N:Nat) (nk:Ac->St->Rs) (ek:Nat->Ac->St->Rs) (S:St):R5_35 self N nk ek (fr 115 []) S =
(bsP 9 1 19 (Ev.one (sv [])) [(0,(sv [34,97])),(1,(sv [97,39])),(2,(sv [36,40,97])),(3,(sv [36,40,40,49,41,41])),(4,(sv [36,123])),(5,(sv [36,123,125])),(6,(sv [36,123,120])),(7,(sv [36,123,120,33,121,125])),(8,(sv [36,123,120,58,121,125])),(9,(sv [92])),(10,(sv [97,96,98,96])),(11,(sv [34,96,34])),(12,(sv [60,60,69,10,97,10])),(13,(sv [60,60,69])),(14,(sv [60,60,36,120,10])),(15,(sv [97,32,38,32,98])),(16,(sv [34,36,123,120,58,45,34,97,34,125,34])),(17,(sv [36,40,34,97,41])),(18,(sv [34,97,92]))] S).bind fun p36=>
(qa9 E0 43 [(0,(.int .i64 0)),(1,(.int .i64 1)),(2,(.int .i64 0)),(3,(.int .i64 0)),(4,(.int .i64 0)),(5,(.int .i64 0)),(6,(.int .i64 0)),(7,(.int .i64 0)),(8,(.int .i64 0)),(9,(.int .i64 0)),(10,(.int .i64 1)),(11,(.int .i64 1)),(12,(.int .i64 6)),(13,(.int .i64 3)),(14,(.int .i64 2)),(15,(.int .i64 2)),(16,(.int .i64 6)),(17,(.int .i64 0)),(18,(.int .i64 2))]).bind fun t38=>
(some (nwP 43 19 (Tr.ofListFrom .nil [(.int .i64 0),(.int .i64 0),(.int .i64 0),(.int .i64 0),(.int .i64 0),(.int .i64 0),(.int .i64 0),(.int .i64 0),(.int .i64 0),(.int .i64 0),(.int .i64 0),(.int .i64 0),(.int .i64 0),(.int .i64 0),(.int .i64 0),(.int .i64 0),(.int .i64 0),(.int .i64 0),(.int .i64 0)] 0) p36.2)).bind fun p39=>
(stP 19 p39.1 t38 p39.2).bind fun p40=>
L5_83 self N (R5_41 self N (fun a s=>qby [0] a fun a=>nk a s) ek) (exB 2 (R5_41 self N (fun a s=>qby [0] a fun a=>nk a s) ek) ek) N p36.1 p39.1 (.int .i64 0) p40.2:=by kernel_rfl
def L5_103 (self:EV) (N:Nat) (nk:Ac->St->Rs) (ek:Nat->Ac->St->Rs) (n:Nat) ( v1 v2:V) (S:St):Rs:=qew [1,2] (dr E0 self RL5 N (B5.r.r.l.r.l.l)) (mkK E0 self Tryd.f5 nk ek) n (fr 115 [(1,v1),(2,v2)]) S
theorem L5_103_eq (self:EV) (N:Nat) (nk:Ac->St->Rs) (ek:Nat->Ac->St->Rs) (n:Nat) ( v1 v2:V) (S:St):L5_103 self N nk ek (n+1) v1 v2 S =
(lnS v1 S).bind fun p106=>
(qa4 E0 .lss 3 false false v2 p106.1).bind fun t107=>
ifK t107 (
(ixP 1 v1 v2).bind fun t110=>
(ld1 t110 (onS p106.2)).bind fun p111=>
(ixP 1 p111.1 (.int .i64 0)).bind fun t112=>
(ld1 t112 (onS p111.2)).bind fun p113=>
qkq (qas E0 (B5.r.r.l.r.l.l.r.l.l.l).ops) p106.2 6 [[],[],[],p111.2.log,[],p113.2.log] (self.f 14 [p113.1] (onS p113.2)) fun t114 S114=>
(ixP 1 v1 v2).bind fun t117=>
(ld1 t117 (onS S114)).bind fun p118=>
(ixP 1 p118.1 (.int .i64 1)).bind fun t119=>
(ld1 t119 (onS p118.2)).bind fun p120=>
(qa4 E0 .neq 9 false false t114 p120.1).bind fun t121=>
qhk [(3,[10,12]),(5,[10,12]),(6,[10,12])] p106.2 [[],[],[],p111.2.log,[],p113.2.log,S114.log,[],[],[],p118.2.log,[],p120.2.log,[]] (onS p120.2) fun S122=>
ifK t121 (
some (.ret (.bool false),S122)) (
(qa4 E0 .add 3 false true v2 (.int .i64 1)).bind fun t125=>
L5_103 self N nk ek n v1 t125 S122)) (
ek 0 (fr 115 []) p106.2):=by kernel_rfl
def F5 (self:EV) (N:Nat) (S:St):Rs:=qbk E0 self N Tryd.f5 B5 [] S
def rowsK:List (List UInt8×List UInt8):=[([],[]),([32,32,9,92,10,32],[]),([97,92,10,98],[91,97,98,93]),([92,97,92,32,98],[91,113,97,46,113,32,46,98,93]),([39,39,34,34],[91,113,46,113,81,93]),([36],[91,36,93]),([36,120,36,49,36,63,36,64,121],[91,36,120,46,36,49,46,36,63,46,36,64,46,121,93]),([97,36,32,98],[91,97,36,93,91,98,93]),([34,36,34],[91,113,81,36,93]),([120,35,121,32,35,122],[91,120,35,121,93]),([49,62,97,32,50,62,62,98,32,48,60,99,32,51,62,100,32,62,38,50],[32,49,62,32,91,97,93,32,50,62,62,32,91,98,93,32,48,60,32,91,99,93,91,51,93,32,62,32,91,100,93,32,62,38,32,91,50,93]),([49,50,62,97],[91,49,50,93,32,62,32,91,97,93]),([97,124,124,98,124,99],[91,97,93,32,124,124,32,91,98,93,32,124,32,91,99,93]),([40,97,41,59,59],[32,40,32,91,97,93,32,41,32,32,59,59,32]),([123,32,97,59,32,125],[91,123,93,91,97,93,32,59,32,91,125,93]),([97,10,10,98],[91,97,93,47,47,91,98,93]),([36,123,120,125,36,123,35,125,36,123,35,120,125,36,123,35,35,125,36,123,49,125],[91,36,120,46,36,35,46,36,120,108,101,110,46,36,35,35,46,36,49,93]),([36,123,120,37,37,47,42,125],[91,36,120,37,37,60,47,42,62,93]),([36,123,120,58,61,39,97,32,98,39,36,121,125],[91,36,120,58,61,60,113,97,32,98,46,36,121,62,93]),([34,36,123,120,43,92,125,121,125,34],[91,36,81,120,43,60,113,81,92,125,121,62,93]),([36,123,120,45,36,123,121,45,122,125,125],[91,36,120,45,60,36,121,45,60,122,62,62,93]),([36,123,120,63,125],[91,36,120,63,93]),([36,123,35,45,97,125],[91,36,35,45,60,97,62,93]),([36,40,97,32,36,40,98,41,32,34,40,34,41],[91,40,97,32,36,40,98,41,32,34,40,34,93]),([34,120,36,40,101,99,104,111,32,34,41,34,41,121,34],[91,113,81,120,46,40,81,101,99,104,111,32,34,41,34,46,113,81,121,93]),([34,97,92,110,98,92,36,99,92,92,34],[91,113,81,97,92,110,98,36,99,92,93]),([39,97,92,10,98,39],[91,113,97,92,10,98,93]),([60,60,39,69,32,70,39,10,36,120,10,69,32,70],[32,60,60,32,91,113,69,32,70,93,123,36,120,10,125,47]),([60,60,65,32,60,60,66,10,49,10,65,10,50,10,66,10,122],[32,60,60,32,91,65,93,123,49,10,58,113,81,49,10,125,32,60,60,32,91,66,93,123,50,10,58,113,81,50,10,125,47,91,122,93]),([60,60,69,10,69],[32,60,60,32,91,69,93,123,58,125,47]),([60,60,92,69,10,97,10,69,10],[32,60,60,32,91,113,69,93,123,97,10,125,47]),([60,60,69,10,97,92,10,98,32,34,92,34,10,69,10],[32,60,60,32,91,69,93,123,97,92,10,98,32,34,92,34,10,58,113,81,97,98,32,34,92,34,10,125,47])]
def fixOp (o:Oper) (d:Nat) (x:List UInt8×List UInt8):Oper:={o with dst:=some d,op:=.buildSlice 40 2 #[(0,.const (.string ⟨⟨x.1⟩⟩)),(1,.const (.string ⟨⟨x.2⟩⟩))],guard:=none}
def opsOf:Nat->List Oper->List (List UInt8×List UInt8)->List Oper
 | d,o::os,x::l=>fixOp o d x::opsOf (d+1) os l
 | _,_,_=>[]
def setA:Nat->Nat->Nat->Tr V->Tr V
 | _,_,0,t=>t
 | d,n,m+1,t=>setA (d+1) (n+1) m (t.set (.slice n 0 2 2) d)
def slsL:Nat->Nat->List V
 | _,0=>[]
 | n,m+1=>.slice n 0 2 2::slsL (n+1) m
def numbV:Nat->List V->List (Nat×V)
 | _,[]=>[]
 | i,v::l=>(i,v)::numbV (i+1) l
def kk5 (self:EV) (N:Nat):Ac->St->Rs:=fun a s=>dr E0 self RL5 N B5.r.r (mkK E0 self Tryd.f5 (qct E0 self Tryd.f5) qb4) a s
def pp5 (self:EV):V->Ac->St->Rs:=fun v a s=>qba E0 self Tryd.f5 a a.defers (.pan v) s
theorem B5_seq:B5=.seq B5.l (.seq B5.r.l B5.r.r):=by kernel_rfl
theorem B5_l:B5.l=.region B5.l.ops:=by kernel_rfl
theorem B5_rl:B5.r.l=.region B5.r.l.ops:=by kernel_rfl
theorem dr_seq (E:Env) (self:EV) (RL:List Nat) (N:Nat) (x y:D) (K:Kt) (a:Ac) (s:St):dr E self RL N (.seq x y) K a s=dr E self RL N x {K with norm:=fun a s=>dr E self RL N y K a s} a s:=rfl
theorem dr_region (E:Env) (self:EV) (RL:List Nat) (N:Nat) (ops:Array Oper) (K:Kt) (a:Ac) (s:St):dr E self RL N (.region ops) K a s=opsK E self ops ops.toList K.norm K.pan a s:=rfl
theorem F5_first (self:EV) (k:Ac->St->Rs) (p:V->Ac->St->Rs) (S:St):opsK E0 self B5.l.ops B5.l.ops.toList k p (qg7 Tryd.f5 []) S=k (fr 115 [(0,.bool false)]) S:=by kernel_rfl
theorem F5_ops:B5.r.l.ops.toList=opsOf 11 (B5.r.l.ops.toList.take 32) rowsK++B5.r.l.ops.toList.drop 32:=by kernel_rfl
theorem F5_ble:Nat.ble ([]:List V).length Tryd.f5.ntmps=true:=by kernel_rfl
theorem F5_head (self:EV) (N:Nat) (S:St):F5 self N S=opsK E0 self B5.r.l.ops (opsOf 11 (B5.r.l.ops.toList.take 32) rowsK++B5.r.l.ops.toList.drop 32) (kk5 self N) (pp5 self) (fr 115 [(0,.bool false)]) S:=by
 unfold F5 qbk;rw[F5_ble,cT,B5_seq,dr_seq,B5_l,dr_region,F5_first];dsimp only;rw[dr_seq,B5_rl,dr_region];rw[F5_ops];rfl
theorem F5_len:(B5.r.l.ops.toList.take 32).length=32:=by kernel_rfl
theorem F5_op (self:EV) (ops:Array Oper) (l:List Oper) (k:Ac->St->Rs) (p:V->Ac->St->Rs) (o:Oper) (d:Nat) (x:List UInt8×List UInt8) (a:Ac) (S:St):opsK E0 self ops (fixOp o d x::l) k p a S=(bsP 9 1 2 (Ev.one (sv [])) [(0,sv x.1),(1,sv x.2)] S).bind fun q=>bif Nat.blt d a.n then opsK E0 self ops l k p {a with tmps:=a.tmps.set q.1 d} q.2 else none:=by kernel_rfl
def partsT:Nat->Nat->List (Nat×Operand)
 | _,0=>[]
 | i,m+1=>(i,.tmp (11+i))::partsT (i+1) m
theorem F5_t1 (self:EV) (k:Ac->St->Rs) (p:V->Ac->St->Rs) (a:Ac) (S:St):opsK E0 self B5.r.l.ops (B5.r.l.ops.toList.drop 32) k p a S =
((qdq E0 a (partsT 0 32)).bind fun ps=>qf5 E0 41 32 ps S).bind fun q=>bif Nat.blt 43 a.n then opsK E0 self B5.r.l.ops (B5.r.l.ops.toList.drop 33) k p {a with tmps:=a.tmps.set q.1 43} q.2 else none:=by kernel_rfl
theorem F5_t2 (self:EV) (k:Ac->St->Rs) (p:V->Ac->St->Rs) (a:Ac) (S:St):opsK E0 self B5.r.l.ops (B5.r.l.ops.toList.drop 33) k p a S =
(evO E0 a (.tmp 43)).bind fun v=>bif Nat.blt 1 a.n then k {a with tmps:=a.tmps.set v 1} S else none:=by kernel_rfl
theorem F5_t3 (n:Nat):qdq E0 {(fr 115 [(0,.bool false)])with tmps:=setA 11 n 32 (fr 115 [(0,.bool false)]).tmps} (partsT 0 32)=some (numbV 0 (slsL n 32)):=by kernel_rfl
theorem F5_t4 (ps:List (Nat×V)) (S:St):qf5 E0 41 32 ps S=bsP 40 1 32 (Ev.one .nilslice) ps S:=by kernel_rfl
theorem F5_loop (self:EV) (N n:Nat) (v:V) (S:St):kk5 self N {(fr 115 [(0,.bool false)])with tmps:=((setA 11 n 32 (fr 115 [(0,.bool false)]).tmps).set v 43).set v 1} S =
L5_103 self N (R5_35 self N (qct E0 self Tryd.f5) qb4) (exB 0 (R5_35 self N (qct E0 self Tryd.f5) qb4) qb4) N v (.int .i64 0) S:=by kernel_rfl
end
end Go.Proofs.YtafbipadnnmccaaDoor.W
namespace Go.Proofs.YtafbipadnnmccaaDoor.W
open Go.Proofs.YtafbipadnnmccaaDoor.Ev Go.RowKit
def goodB (x:Bs×Bs):Bool:=(shwD (qfr x.1)==x.2)&&depA (qfr x.1)&&Nat.ble x.1.length 100&&Nat.ble x.2.length 100
theorem rows_good:rowsK.all goodB=true:=by kernel_rfl
theorem good_of {x:Bs×Bs} (h:goodB x=true):shwD (qfr x.1)=x.2/\depA (qfr x.1)=true/\x.1.length<=100/\x.2.length<=100:=by
 unfold goodB at h;rw[Bool.and_eq_true_iff,Bool.and_eq_true_iff,Bool.and_eq_true_iff]at h;obtain⟨⟨⟨h1,h2⟩,h3⟩,h4⟩:=h;exact⟨beq_iff_eq.1 h1,h2,Nat.le_of_ble_eq_true h3,Nat.le_of_ble_eq_true h4⟩
def badK:List (Bs×Nat):=[([34,97],0),([97,39],1),([36,40,97],0),([36,40,40,49,41,41],0),([36,123],0),([36,123,125],0),([36,123,120],0),([36,123,120,33,121,125],0),([36,123,120,58,121,125],0),([92],0),([97,96,98,96],1),([34,96,34],1),([60,60,69,10,97,10],6),([60,60,69],3),([60,60,36,120,10],2),([97,32,38,32,98],2),([34,36,123,120,58,45,34,97,34,125,34],6),([36,40,34,97,41],0),([34,97,92],2)]
def badB (x:Bs×Nat):Bool:=(match qfr x.1 with|.error e=>Nat.beq e.1 19&&Nat.beq e.2 x.2|.ok _=>false)&&Nat.ble x.1.length 100
theorem bad_good:badK.all badB=true:=by kernel_rfl
theorem bad_of {x:Bs×Nat} (h:badB x=true):qfr x.1=.error (19,x.2)/\x.1.length<=100:=by
 unfold badB at h;rw[Bool.and_eq_true_iff]at h;obtain⟨h1,h2⟩:=h;refine⟨?_,Nat.le_of_ble_eq_true h2⟩;cases hA:qfr x.1 with
 | ok t=>rw[hA]at h1; cases h1
 | error e=>
  rw[hA]at h1;obtain⟨c,n⟩:=e;rw[Bool.and_eq_true_iff]at h1;rw[show c=19 from Nat.eq_of_beq_eq_true h1.1,show n=x.2 from Nat.eq_of_beq_eq_true h1.2]
theorem pairs_row {A B C A' B':List LE} (h1:qbc A A'=false) (h2:qbc A B'=false) (h3:qbc B A'=false) (h4:qbc B B'=false) (h5:qbc C A'=false) (h6:qbc C B'=false):qae [[],[],[],A,[],B,C,[],[],[],A',[],B',[]] [(3,[10,12]),(5,[10,12]),(6,[10,12])]=true:=by
 show(bif (bif qbc A A' then true else bif qbc A B' then true else false)then false else(bif (bif qbc B A' then true else bif qbc B B' then true else false)then false else(bif (bif qbc C A' then true else bif qbc C B' then true else false)then false else true)))=true;rw[h1,h2,h3,h4,h5,h6];rfl
theorem pairs_bad {A B C:List LE} (h1:qbc A B=false):qae [[],[],[],A,[],[],B,C,[]] [(3,[6])]=true:=by
 show(bif (bif qbc A B then true else false)then false else true)=true;rw[h1];rfl
theorem wd_clash {b k:Nat} {C:List LE} (h:∀e∈C,e.w=false\/e.b≠b):qbc C [⟨b,k,k+1,false⟩]=false:=clash_or fun e he f hf=>by
 cases List.mem_singleton.1 hf;rcases h e he with h|h
 . exact .inr ⟨h,rfl⟩
 . exact .inl h
theorem ixA_at (r n i:Nat) (h:i<n):ixA n 1 false 1 (.ptr r 0) (.int .i64 (i:Int))=some (.ptr r i):=by
 show(bif Nat.blt i n then some (V.ptr r (0+i*1))else none)=_;rw[blt_true.2 h,cT,Nat.zero_add,Nat.mul_one]
theorem numbV_eq:∀(i:Nat) (l:List V),numbV i l=numb i l
 | _,[]=>rfl
 | i,v::l=>by
  show(i,v)::numbV (i+1) l=(i,v)::numb (i+1) l;rw[numbV_eq]
theorem slsL_len:∀(n m:Nat),(slsL n m).length=m
 | _,0=>rfl
 | n,m+1=>by
  show(slsL (n+1) m).length+1=m+1;rw[slsL_len]
theorem slsL_get:∀(n m i:Nat),i<m->(slsL n m)[i]?=some (.slice (n+i) 0 2 2)
 | n,0,i,h=>by omega
 | n,m+1,0,h=>rfl
 | n,m+1,i+1,h=>by
  show(slsL (n+1) m)[i]?=_;rw[slsL_get (n+1) m i (by omega),show n+1+i=n+(i+1) by omega]
theorem slsL_mem:∀(n m:Nat) (v:V),v∈slsL n m->OneV v
 | _,0,v,h=>by cases h
 | n,m+1,v,h=>by
  rcases List.mem_cons.1 h with rfl|h
  . exact⟨rfl,rfl,rfl,rfl⟩
  . exact slsL_mem _ _ _ h
theorem qjm (S:St) (l:List LE):onS (S.lg l)=S.lg []:=Eq.trans rfl rfl
theorem onS_S (S:St):onS S=S.lg []:=Eq.trans rfl rfl
section
variable {K:FuncId->Option KF} {S U T:St}
theorem grew_same {W:Nat->Prop} (g:Grew W S U) (h:T.heap=U.heap) (n:T.next=U.next) (o:T.on=U.on):Grew W S T:=⟨by rw[n]; exact g.next,o.trans g.on,fun x hx hw=>by rw[h]; exact g.keep x hx hw⟩
theorem rv5 (h:K 5=none) {n:Nat} {args:List V} {s:St} {r:En×St} (e:qbk E0 (ev E0 K n) qa2 Tryd.f5 B5 args s=some r):(ev E0 K (n+1)).f 5 args s=some r:=qag (c:=C5) (d:=B5) (by kernel_rfl) (by kernel_rfl) (qa5 C5 _ (by kernel_rfl)) h e
def RowsAt (S:St) (n0:Nat) (l:List (Bs×Bs)):Prop:=n0+l.length<=S.next/\∀(i:Nat) (x:Bs×Bs),l[i]?=some x->RowAt S (n0+i) 9 1 [Ev.one (sv x.1),Ev.one (sv x.2)]
theorem RowsAt.grew {n0:Nat} {l:List (Bs×Bs)} (h:RowsAt S n0 l) (g:Grew (fun _=>False) S U):RowsAt U n0 l:=⟨Nat.le_trans h.1 g.next,fun i x hx=>(h.2 i x hx).grew (by have:=(List.getElem?_eq_some_iff.1 hx).1; have:=h.1; omega) (fun h=>h) g⟩
theorem two_row (ho:S.on=false) (a b:Bs):∃U,bsP 9 1 2 (Ev.one (sv [])) [(0,sv a),(1,sv b)] S=some (.slice S.next 0 2 2,U)/\RowAt U S.next 9 1 [Ev.one (sv a),Ev.one (sv b)]/\Grew (fun _=>False) S U/\U.next=S.next+1:=by
 obtain⟨U,h1,h2,h3,h4⟩:=qi5 ho 9 (Ev.one (sv [])) [sv a,sv b] (fun v hv=>by
  rcases List.mem_cons.1 hv with rfl|hv
  . exact⟨rfl,rfl,rfl,rfl⟩
  . cases List.mem_singleton.1 hv; exact⟨rfl,rfl,rfl,rfl⟩) (by unfold big; simp)
 exact⟨U,h1 none,h2,h3,h4⟩
theorem rows_ops (self:EV) (ops:Array Oper) (rest:List Oper) (k:Ac->St->Rs) (p:V->Ac->St->Rs):∀(l:List (Bs×Bs)) (os:List Oper) (d:Nat) (a:Ac) (S:St),S.on=false->os.length=l.length->d+l.length<=a.n->
 ∃U,opsK E0 self ops (opsOf d os l++rest) k p a S=opsK E0 self ops rest k p {a with tmps:=setA d S.next l.length a.tmps} U/\RowsAt U S.next l/\Grew (fun _=>False) S U/\U.next=S.next+l.length
 | [],os,d,a,S,ho,hl,hd=>by
  have:os=[]:=List.eq_nil_of_length_eq_zero hl;subst this;exact⟨S,rfl,⟨lR _,fun i x hx=>by simp at hx⟩,Grew.refl _ _,rfl⟩
 | x::l,[],d,a,S,ho,hl,hd=>by simp at hl
 | x::l,o::os,d,a,S,ho,hl,hd=>by
  rw[List.length_cons]at hd;obtain⟨S1,a1,a2,a3,a4⟩:=two_row ho x.1 x.2;have on1:=a3.on.trans ho;obtain⟨U,u1,u2,u3,u4⟩:=rows_ops self ops rest k p l os (d+1) {a with tmps:=a.tmps.set (.slice S.next 0 2 2) d} S1 on1 (by simpa using hl) (by show d+1+l.length<=a.n; omega);rw[a4]at u1 u2 u4;refine⟨U,?_,⟨?_,fun i y hy=>?_⟩,a3.trans u3,by rw[u4,List.length_cons]; omega⟩
  . show opsK E0 self ops (fixOp o d x::(opsOf (d+1) os l++rest)) k p a S=_
    rw[F5_op,a1,b_s];dsimp only;rw[blt_true.2 (show d<a.n by omega),c_t,u1];rfl
  . rw[u4,List.length_cons]; omega
  . cases i with
    | zero=>
     simp only[List.getElem?_cons_zero,oS]at hy;subst hy;exact a2.grew (by omega) (fun h=>h) u3
    | succ i=>
     rw[List.getElem?_cons_succ]at hy;have:=u2.2 i y hy;rw[show S.next+1+i=S.next+(i+1) by omega]at this;exact this
theorem rows_loop (hX:KnX K) (hL:Lg.KnLoc K) (hF:∀F,Fz.KnLoc F K) (d:Nat) (hd:2500<=d) (N:Nat) (nk:Ac->St->Rs) (ek:Nat->Ac->St->Rs) {r n0:Nat} :
 ∀(l:List (Bs×Bs)) (i q:Nat) (S:St),S.on=false->RowAt S r 40 1 ((slsL n0 32).map Ev.one)->r<S.next->RowsAt S n0 rowsK->rowsK.drop i=l->l.length<q->
 ∃U,L5_103 (ev E0 K (d+22)) N nk ek q (.slice r 0 32 32) (.int .i64 (i:Int)) S=ek 0 (fr 115 []) U/\Grew (fun _=>False) S U
 | l,i,0,S,_,_,_,_,_,hq=>by omega
 | [],i,q+1,S,ho,hr,hrn,hR,hd',hq=>by
  have:=qea hd';refine⟨S,?_,Grew.refl _ _⟩;rw[L5_103_eq,lnS_sl,b_s];dsimp only;rw[lssN,dF (by have h32:rowsK.length=32:=rfl; omega),b_s,i_b,c_f]
 | x::l,i,q+1,S,ho,hr,hrn,hR,hd',hq=>by
  obtain⟨hlt,e1,e2,hm⟩:=qg4 hd';have h32:rowsK.length=32:=rfl;obtain⟨g1,g2,g3,g4⟩:=good_of (List.all_eq_true.1 rows_good x hm);have hx:rowsK[i]?=some x:=by rw[List.getElem?_eq_getElem hlt,e1]
  have hrow:=hR.2 i x hx;have hlt2:n0+i<S.next:=by have:=hR.1; omega
  obtain⟨U,u1,u2⟩:=qe4 (S:=S) hX.r d g1 g2 ho (by omega) (by omega) (by omega);have onU:=u2.on.trans ho;obtain⟨c1,hc1,_⟩:=hr.row;obtain⟨c2,hc2,_⟩:=hrow.row;obtain⟨V1,v1,_⟩:=qe4 (S:=icy S r 40 1 ((slsL n0 32).map Ev.one).length c1) hX.r d g1 g2 ho (by omega) (by omega) (by omega);obtain⟨V2,v2,_⟩:=qe4 (S:=icy S (n0+i) 9 1 2 c2) hX.r d g1 g2 ho (by omega) (by omega) (by omega);obtain⟨L,q1,q2⟩:=Fz.ev_log (hF _) hL (icy_same hc1 hrn) v1 u1;obtain⟨L',q1',q2'⟩:=Fz.ev_log (hF _) hL (icy_same (n:=2) hc2 hlt2) v2 u1
  have hLL:L=L':=by
   have:=q1.symm.trans q1';simp only[oS,pM,true_and]at this;exact congrArg St.log this
  subst hLL;have w1:∀e∈L,e.w=false\/e.b≠r:=q2;have w2:∀e∈L,e.w=false\/e.b≠n0+i:=q2';have rd1:∀{Y:St} (_:Y.on=false) (_:RowAt Y r 40 1 ((slsL n0 32).map Ev.one)),ld1 (.ptr r i) (Y.lg [])=some (.slice (n0+i) 0 2 2,Y.lg [⟨r,i,i+1,false⟩]):=fun hY h=>qdo hY (RowAt.ld1 hY h (by rw[List.getElem?_map,slsL_get _ _ _ (by omega)]; rfl)) [];have rd2:∀{Y:St} (_:Y.on=false) (_:RowAt Y (n0+i) 9 1 [Ev.one (sv x.1),Ev.one (sv x.2)]),ld1 (.ptr (n0+i) 0) (Y.lg [])=some (sv x.1,Y.lg [⟨n0+i,0,0+1,false⟩]):=fun hY h=>qdo hY (RowAt.ld1 hY h rfl) [];have rd3:∀{Y:St} (_:Y.on=false) (_:RowAt Y (n0+i) 9 1 [Ev.one (sv x.1),Ev.one (sv x.2)]),ld1 (.ptr (n0+i) 1) (Y.lg [])=some (sv x.2,Y.lg [⟨n0+i,1,1+1,false⟩]):=fun hY h=>qdo hY (RowAt.ld1 hY h rfl) [];have hr2:=hr.grew hrn (fun h=>h) u2;have hrow2:=hrow.grew hlt2 (fun h=>h) u2;have ix0:ixP 1 (.slice (n0+i) 0 2 2) (.int .i64 0)=some (.ptr (n0+i) 0):=ixP_sl (n0+i) 2 0 (by omega);have ix1:ixP 1 (.slice (n0+i) 0 2 2) (.int .i64 1)=some (.ptr (n0+i) 1):=ixP_sl (n0+i) 2 1 (by omega);obtain⟨T,t1,t2,t3,t4⟩:=qdg ho U [] [[],[],[],(S.lg [⟨r,i,i+1,false⟩]).log,[],(S.lg [⟨n0+i,0,0+1,false⟩]).log,(U.lg L).log,[],[],[],(U.lg [⟨r,i,i+1,false⟩]).log,[],(U.lg [⟨n0+i,1,1+1,false⟩]).log,[]];have gT:Grew (fun _=>False) S T:=grew_same u2 t2 t3 (t4.trans onU.symm)
  obtain⟨Z,z1,z2⟩:=rows_loop hX hL hF d hd N nk ek l (i+1) q T (gT.on.trans ho) (hr.grew hrn (fun h=>h) gT) (Nat.lt_of_lt_of_le hrn gT.next) (hR.grew gT) e2 (by simp only[List.length_cons]at hq; omega);refine⟨Z,?_,gT.trans z2⟩;rw[L5_103_eq,lnS_sl,b_s];dsimp only;rw[lssN,dT (by omega),b_s,i_b,c_t,ixP_sl _ _ _ (by omega),b_s,onS_S,rd1 ho hr,b_s];dsimp only;rw[ix0,b_s,qjm,rd2 ho hrow,b_s];dsimp only;rw[qjm,q1,qc6,b_s,qjm,rd1 onU hr2,b_s];dsimp only;rw[ix1,b_s,qjm,rd3 onU hrow2,b_s];dsimp only;rw[neStr,b_s,qf7 (show qae [[],[],[],(S.lg [⟨r,i,i+1,false⟩]).log,[],(S.lg [⟨n0+i,0,0+1,false⟩]).log,(U.lg L).log,[],[],[],(U.lg [⟨r,i,i+1,false⟩]).log,[],(U.lg [⟨n0+i,1,1+1,false⟩]).log,[]] [(3,[10,12]),(5,[10,12]),(6,[10,12])]=true from pairs_row (qb8 _ _ _ _ _ _ _ (.inl rfl)) (qb8 _ _ _ _ _ _ _ (.inl rfl)) (qb8 _ _ _ _ _ _ _ (.inl rfl)) (qb8 _ _ _ _ _ _ _ (.inl rfl)) (wd_clash w1) (wd_clash w2)),qjm];rw[t1,show(x.2==x.2)=true from beq_self_eq_true _,Bool.not_true,i_b,c_f,qff (by omega),b_s,z1]
theorem bad_loop (hX:KnX K) (hL:Lg.KnLoc K) (d:Nat) (hd:2500<=d) (N:Nat) (nk:Ac->St->Rs) (ek:Nat->Ac->St->Rs) {r b:Nat} :
 ∀(l:List (Bs×Nat)) (i q:Nat) (S:St),S.on=false->Hd S->RowAt S r 9 1 (badK.map fun x=>Ev.one (sv x.1))->r<S.next->AgAt S b 43 19 (Tr.ofListFrom .nil (badK.map fun x=>V.int .i64 (x.2:Int)) 0)->b<S.next->badK.drop i=l->l.length<q->
 ∃U,L5_83 (ev E0 K (d+22)) N nk ek q (.slice r 0 19 19) (.ptr b 0) (.int .i64 (i:Int)) S=ek 2 (fr 115 []) U/\Grew (fun _=>False) S U
 | l,i,0,S,_,_,_,_,_,_,_,hq=>by omega
 | [],i,q+1,S,ho,hH,hr,hrn,hb,hbn,hd',hq=>by
  have:=qea hd';refine⟨S,?_,Grew.refl _ _⟩;rw[L5_83_eq,lnS_sl,b_s];dsimp only;rw[lssN,dF (by have h19:badK.length=19:=rfl; omega),b_s,i_b,c_f]
 | x::l,i,q+1,S,ho,hH,hr,hrn,hb,hbn,hd',hq=>by
  obtain⟨hlt,e1,e2,hm⟩:=qg4 hd';have h19:badK.length=19:=rfl;obtain⟨g1,g2⟩:=bad_of (List.all_eq_true.1 bad_good x hm);have hx:badK[i]?=some x:=by rw[List.getElem?_eq_getElem hlt,e1]
  obtain⟨U,u1,u2⟩:=qe7 hX d x.1 ho hH (by omega) (by omega) g1 (by decide);have onU:=u2.on.trans ho;obtain⟨L,q1⟩:=Lg.ev_lg hL u1 [];have rd1:ld1 (.ptr r i) (S.lg [])=some (sv x.1,S.lg [⟨r,i,i+1,false⟩]):=qdo ho (RowAt.ld1 ho hr (by rw[List.getElem?_map,hx]; rfl)) [];have rd2:ld1 (.ptr b i) (S.lg [])=some (.int .i64 (x.2:Int),S.lg [⟨b,i,i+1,false⟩]):=qdo ho (hb.ld1 ho (by unfold big; decide) (by omega) (by rw[Tr.get_ofList,List.getElem?_map,hx]; rfl)) [];obtain⟨T,t1,t2,t3,t4⟩:=qdg ho U [] [[],[],[],(S.lg [⟨r,i,i+1,false⟩]).log,[],[],(S.lg [⟨b,i,i+1,false⟩]).log,(U.lg L).log,[]];have gT:Grew (fun _=>False) S T:=grew_same u2 t2 t3 (t4.trans onU.symm);obtain⟨Z,z1,z2⟩:=bad_loop hX hL d hd N nk ek l (i+1) q T (gT.on.trans ho) (hH.grew (fun h=>h) gT) (hr.grew hrn (fun h=>h) gT) (Nat.lt_of_lt_of_le hrn gT.next) (hb.grew hbn (fun h=>h) gT) (Nat.lt_of_lt_of_le hbn gT.next) e2 (by simp only[List.length_cons]at hq; omega);refine⟨Z,?_,gT.trans z2⟩;rw[L5_83_eq,lnS_sl,b_s];dsimp only;rw[lssN,dT (by omega),b_s,i_b,c_t,ixP_sl _ _ _ (by omega),b_s,onS_S,rd1,b_s];dsimp only;rw[ixA_at _ _ _ (by omega),b_s,qjm,rd2,b_s];dsimp only;rw[qjm,show(V.int .i64 19)=.int .i64 ((19:Nat):Int)from rfl,q1,qc6,u_not,b_s]
  rw[qf7 (show qae [[],[],[],(S.lg [⟨r,i,i+1,false⟩]).log,[],[],(S.lg [⟨b,i,i+1,false⟩]).log,(U.lg L).log,[]] [(3,[6])]=true from pairs_bad (qb8 _ _ _ _ _ _ _ (.inl rfl))),qjm];rw[t1,Bool.not_true,i_b,c_f,qff (by omega),b_s,z1]
end
theorem atD_byt {s:Bs} {i:Nat} {c:UInt8} {t:Bs} (h:atD s i (c::t)=true):byt s i=c:=by
 unfold atD at h;have h:=beq_iff_eq.1 h
 have h1:(s.drop i)[0]?=some c:=by
  cases hd:s.drop i with
  | nil=>rw[hd]at h; simp at h
  | cons x l=>
   rw[hd]at h;simp only[List.length_cons,List.take_succ_cons,List.cons.injEq]at h;simp[h.1]
 rw[List.getElem?_drop,Nat.add_zero]at h1;unfold byt;rw[List.getD_eq_getElem?_getD,h1];rfl
def AllA (s:Bs):Prop:=∀i,i<s.length->byt s i=97
theorem na_at {s:Bs} (ha:AllA s) {i:Nat} (hi:i<s.length) (c:UInt8) (t:Bs) (hc:c≠97):atD s i (c::t)=false:=by
 cases h:atD s i (c::t)with
 | false=>rfl
 | true=>exact absurd ((atD_byt h).symm.trans (ha i hi)) hc
theorem pars_as {s:Bs} (ha:AllA s):∀(m n i:Nat) (text:Bs),i+m=s.length->m<n->∃l,qbd n s 0 0 i [] text=.ok (l,s.length)
 | m,0,i,text,h,hn=>by omega
 | 0,n+1,i,text,h,hn=>by
  unfold qbd;rw[iN (by omega),show i=s.length by omega];exact⟨_,rfl⟩
 | m+1,n+1,i,text,h,hn=>by
  have hi:i<s.length:=by omega
  have hb:=ha i hi;obtain⟨l,hl⟩:=pars_as ha m n (i+1) (text++[byt s i]) (by omega) (by omega);refine⟨l,?_⟩;unfold qbd;rw[iP ⟨hi,by rw[hb]; rfl⟩,na_at ha hi 92 [10] (by decide),iN (by decide),iN (by rw[hb]; decide),iN (by rw[hb]; decide),iN (by rw[hb]; decide),iN (by rw[hb]; decide),iN (by rw[hb]; decide),hl]
theorem byt_end (s:Bs):byt s s.length=0:=by
 unfold byt;rw[List.getD_eq_getElem?_getD,List.getElem?_eq_none (lR _)];rfl
theorem at_end (s:Bs) (c:UInt8) (t:Bs):atD s s.length (c::t)=false:=by
 unfold atD;rw[List.drop_length];rfl
theorem mark_as {s:Bs} (ha:AllA s) (h0:0<s.length):qjw s 0=0:=by
 have hb:=ha 0 h0;rw[qk7]
 have hd:digM s 0=false:=by
  unfold digM;rw[hb];rfl
 rw[hd,iN (by decide)]
 have hn:(marT.find? fun o=>atD s (0+0) o)=none:=by
  rw[List.find?_eq_none];intro o ho
  have:∃c t,o=c::t/\c≠97:=by
   unfold marT at ho;simp only[List.mem_cons,List.not_mem_nil,or_false]at ho;rcases ho with rfl|rfl|rfl|rfl|rfl|rfl|rfl|rfl|rfl|rfl|rfl|rfl<;>exact⟨_,_,rfl,by decide⟩
  obtain⟨c,t,rfl,hc⟩:=this;rw[na_at ha h0 c t hc]
  decide
 rw[hn]
theorem lex_as {s:Bs} (ha:AllA s) (h0:0<s.length) (h1:s.length<=4000):∃t,qfr s=.ok t:=by
 have hb:=ha 0 h0;obtain⟨l,hl⟩:=pars_as ha s.length (qeu s) 0 [] (by omega) (by unfold qeu; omega)
 have k0:qjp (s.length+1) s 0=0:=by
  unfold qjp;rw[iN (by rw[hb]; rintro ⟨h,_⟩; revert h; decide),iN (by rw[hb]; decide),na_at ha h0 92 [10] (by decide),iN (by decide)]
 have k1:qjp (s.length+1) s s.length=s.length:=by
  unfold qjp;rw[iN (by omega),iN (by rw[byt_end]; decide),at_end,iN (by decide)]
 unfold qfr;rw[iN (by omega),ql6,k0,iP h0]
 have hs:stepD s 0 [] []=.ok (s.length,[⟨0,[],l,false,0⟩],[]):=by
  unfold stepD linD remD mrkD wrdD;rw[qbq h0,qbq h0,qbq h0,hb,mark_as ha h0,hl];rfl
 rw[hs];dsimp only;obtain⟨n,hn⟩:∃n,s.length=n+1:=⟨s.length-1,by omega⟩
 have:lexD s.length s s.length [⟨0,[],l,false,0⟩] []=.ok [⟨0,[],l,false,0⟩]:=by
  conv=>lhs; arg 1; rw[hn]
  rw[ql6,k1,iN (by omega),iP rfl]
 exact⟨_,this⟩
theorem repA (c:Nat):AllA (Lib.repeatL [97] c):=by
 induction c with
 | zero=>intro i hi; simp[Lib.repeatL]at hi
 | succ c ih=>
  intro i hi;rw[Lib.repeatL_length,List.length_singleton,Nat.mul_one]at hi;cases i with
  | zero=>rfl
  | succ i=>exact ih i (by rw[Lib.repeatL_length,List.length_singleton,Nat.mul_one]; omega)
theorem repL (c:Nat):(Lib.repeatL [97] c).length=c:=by rw[Lib.repeatL_length,List.length_singleton,Nat.mul_one]
def isOk:Except Flt (List Tok)->Bool
 | .ok _=>true
 | .error _=>false
theorem of_isOk {o:Except Flt (List Tok)} (h:isOk o=true):∃t,o=.ok t:=by
 cases o with
 | ok t=>exact⟨t,rfl⟩
 | error e=>cases h
def deepK:Bs:=Lib.repeatL [36,123,120,45] 20++Lib.repeatL [125] 20
theorem deep_ok:isOk (qfr deepK)=true:=by kernel_rfl
theorem qgq:deepK.length=100:=by kernel_rfl
def err380:Except Flt (List Tok)->Bool
 | .ok _=>false
 | .error e=>Nat.beq e.1 3&&Nat.beq e.2 80
theorem of_380 {o:Except Flt (List Tok)} (h:err380 o=true):o=.error (3,80):=by
 cases o with
 | ok t=>cases h
 | error e=>
  obtain⟨c,n⟩:=e;unfold err380 at h;rw[Bool.and_eq_true_iff]at h;rw[show c=3 from Nat.eq_of_beq_eq_true h.1,show n=80 from Nat.eq_of_beq_eq_true h.2]
theorem deeper:err380 (qfr ([36,123,120,45]++deepK++[125]))=true:=by kernel_rfl
theorem long_bad:qfr (Lib.repeatL [97] 4001)=.error (3,4000):=by
 unfold qfr;rw[iP (by rw[repL]; omega)]
section
variable {S U T:St}
theorem lex_nil (d:Nat) {s:Bs} (h:∃t,qfr s=.ok t) (ho:S.on=false) (hs:s.length<=5000) (hd:18*s.length+600<=d):∃U v,(ev E0 KR (d+21)).f 8 [sv s] S=some (.ret (.tuple [v,.niliface]),U)/\Grew (fun _=>False) S U:=by
 obtain⟨t,ht⟩:=h;have hq:=lex_run refR d s ho hs hd;rw[ht]at hq;obtain⟨U,v,rT,h1,_,_,_,h5⟩:=hq;exact⟨U,v,h1,qgt h5⟩
theorem known_end (d:Nat) (hd:80000<=d) (ho:S.on=false) (hH:Hd S) (nk:Ac->St->Rs) (ek:Nat->Ac->St->Rs):∃U,R5_41 (ev E0 KR (d+30)) qa2 nk ek (fr 115 []) S=some (.ret (.bool true),U)/\Grew (fun _=>False) S U:=by
 obtain⟨U1,v1,a1,g1⟩:=lex_nil (S:=S) (d+9) (of_isOk deep_ok) ho (by rw[qgq]; omega) (by rw[qgq]; omega);have o1:=g1.on.trans ho;obtain⟨U2,v2,a2,g2⟩:=lex_nil (S:=U1) (d+9) (lex_as (repA 4000) (by rw[repL]; omega) (by rw[repL]; omega)) o1 (by rw[repL]; omega) (by rw[repL]; omega);have o2:=g2.on.trans o1;have H2:=(hH.grew (fun h=>h) g1).grew (fun h=>h) g2;obtain⟨U3,a3,g3⟩:=works_run knR (S:=U2) (d+7) (by omega) o2 H2;have o3:=g3.on.trans o2;have H3:=H2.grew (fun h=>h) g3;obtain⟨U4,a4,g4⟩:=qe7 knR (S:=U3) (d+8) ([36,123,120,45]++deepK++[125]) o3 H3 (by simp only[lAq,qgq]; simp) (by simp only[lAq,qgq]; simp; omega) (of_380 deeper) (by decide);have o4:=g4.on.trans o3;have H4:=H3.grew (fun h=>h) g4;obtain⟨U5,a5,g5⟩:=qe7 knR (S:=U4) (d+8) (Lib.repeatL [97] 4001) o4 H4 (by rw[repL]; omega) (by rw[repL]; omega) long_bad (by decide);refine⟨U5,?_,(((g1.trans g2).trans g3).trans g4).trans g5⟩;have r1:=fun T=>qgx (d+29) (l:=[36,123,120,45]) 20 T (by decide) (by decide) (by decide);have r2:=fun T=>qgx (d+29) (l:=[125]) 20 T (by decide) (by decide) (by decide);have r3:=fun T=>qgx (d+29) (l:=[97]) 4000 T (by decide) (by decide) (by decide);have r4:=fun T=>qgx (d+29) (l:=[97]) 4001 T (by decide) (by decide) (by decide);rw[R5_41_eq]
 rw[show(V.int .i64 20)=.int .i64 ((20:Nat):Int)from rfl,show(V.int .i64 4000)=.int .i64 ((4000:Nat):Int)from rfl,show(V.int .i64 4001)=.int .i64 ((4001:Nat):Int)from rfl,show(V.int .i64 80)=.int .i64 ((80:Nat):Int)from rfl,show(V.int .i64 3)=.int .i64 ((3:Nat):Int)from rfl];rw[r1,callP_ret,r2,callP_ret,qbe _ _ (by simp only[Lib.repeatL_length]; decide),b_s,show Lib.repeatL [36,123,120,45] 20++Lib.repeatL [125] 20=deepK from rfl,a1,callP_ret,ex0,b_s,ex1,b_s,r3,callP_ret,a2,callP_ret,ex0,b_s,ex1,b_s];simp only[g_t,b_s,c_t,p_b,callP_ret];rw[a3,callP_ret];simp only[g_t,b_s,c_t,p_b,eql24n];rw[qbe _ _ (by rw[qgq]; decide),b_s,qbe _ _ (by simp only[lAq,qgq]; decide),b_s,a4,callP_ret];simp only[g_t,b_s,c_t,p_b,eql24n];rw[r4,callP_ret,a5,callP_ret]
theorem badOne:∀v∈badK.map (fun x=>sv x.1),OneV v:=fun v hv=>by
 obtain⟨x,_,rfl⟩:=List.mem_map.1 hv;exact⟨rfl,rfl,rfl,rfl⟩
theorem bad_len:(badK.map fun x=>sv x.1).length=19:=by kernel_rfl
theorem buildAt:qa9 E0 43 [(0,(.int .i64 0)),(1,(.int .i64 1)),(2,(.int .i64 0)),(3,(.int .i64 0)),(4,(.int .i64 0)),(5,(.int .i64 0)),(6,(.int .i64 0)),(7,(.int .i64 0)),(8,(.int .i64 0)),(9,(.int .i64 0)),(10,(.int .i64 1)),(11,(.int .i64 1)),(12,(.int .i64 6)),(13,(.int .i64 3)),(14,(.int .i64 2)),(15,(.int .i64 2)),(16,(.int .i64 6)),(17,(.int .i64 0)),(18,(.int .i64 2))]=some (.agg 19 (Tr.ofListFrom .nil (badK.map fun x=>V.int .i64 (x.2:Int)) 0)):=by kernel_rfl
theorem big19:19<big:=by unfold big; decide
theorem known_bad (d:Nat) (hd:80000<=d) (ho:S.on=false) (hH:Hd S) (nk:Ac->St->Rs) (ek:Nat->Ac->St->Rs):∃U,R5_35 (ev E0 KR (d+30)) qa2 nk ek (fr 115 []) S=some (.ret (.bool true),U)/\Grew (fun _=>False) S U:=by
 obtain⟨S1,h1,h2,h3,h4⟩:=qi5 ho 9 (Ev.one (sv [])) (badK.map fun x=>sv x.1) badOne (by rw[bad_len]; exact big19);have h1:=h1 none;rw[bad_len]at h1;have o1:=h3.on.trans ho;obtain⟨n1,n2,n3⟩:=qbw o1 43 19 (Tr.ofListFrom .nil [(.int .i64 0),(.int .i64 0),(.int .i64 0),(.int .i64 0),(.int .i64 0),(.int .i64 0),(.int .i64 0),(.int .i64 0),(.int .i64 0),(.int .i64 0),(.int .i64 0),(.int .i64 0),(.int .i64 0),(.int .i64 0),(.int .i64 0),(.int .i64 0),(.int .i64 0),(.int .i64 0),(.int .i64 0)] 0);have on2:=n2.on.trans o1;obtain⟨S3,m1,m2,m3,m4⟩:=n1.stA on2 big19 (Tr.ofListFrom .nil (badK.map fun x=>V.int .i64 (x.2:Int)) 0);have on3:=m3.on.trans on2;have nx:=n2.next
 have g3:Grew (fun _=>False) S1 S3:=⟨by omega,on3.trans o1.symm,fun x hx hw=>by rw[m3.keep x (by omega) (by omega)]; exact n2.keep x hx hw⟩
 have H3:=(hH.grew (fun h=>h) h3).grew (fun h=>h) g3
 have hr:RowAt S3 S.next 9 1 (badK.map fun x=>Ev.one (sv x.1)):=by
  have:=h2.grew (by omega) (fun h=>h) g3
  rwa [List.map_map]at this
 obtain⟨U,u1,u2⟩:=bad_loop knR lgR (d+8) (by omega) qa2 (R5_41 (ev E0 KR (d+30)) qa2 (fun a s=>qby [0] a fun a=>nk a s) ek) (exB 2 (R5_41 (ev E0 KR (d+30)) qa2 (fun a s=>qby [0] a fun a=>nk a s) ek) ek) badK 0 qa2 S3 on3 H3 hr (by omega) m2 (by omega) rfl (by unfold qa2; decide);have oU:=u2.on.trans on3;obtain⟨W,w1,w2⟩:=known_end d hd oU (H3.grew (fun h=>h) u2) (fun a s=>qby [0] a fun a=>nk a s) ek;refine⟨W,?_,((h3.trans g3).trans u2).trans w2⟩;rw[R5_35_eq];rw[show(bsP 9 1 19 (Ev.one (sv [])) [(0,(sv [34,97])),(1,(sv [97,39])),(2,(sv [36,40,97])),(3,(sv [36,40,40,49,41,41])),(4,(sv [36,123])),(5,(sv [36,123,125])),(6,(sv [36,123,120])),(7,(sv [36,123,120,33,121,125])),(8,(sv [36,123,120,58,121,125])),(9,(sv [92])),(10,(sv [97,96,98,96])),(11,(sv [34,96,34])),(12,(sv [60,60,69,10,97,10])),(13,(sv [60,60,69])),(14,(sv [60,60,36,120,10])),(15,(sv [97,32,38,32,98])),(16,(sv [34,36,123,120,58,45,34,97,34,125,34])),(17,(sv [36,40,34,97,41])),(18,(sv [34,97,92]))] S)=some (.slice S.next 0 19 19,S1)from h1,b_s,buildAt,b_s];dsimp only;rw[b_s,qbu,m1,b_s];dsimp only;rw[show(V.int .i64 0)=.int .i64 ((0:Nat):Int)from rfl,u1,exB_same,w1]
theorem F5_t5 (n r:Nat):evO E0 {(fr 115 [(0,.bool false)])with tmps:=(setA 11 n 32 (fr 115 [(0,.bool false)]).tmps).set (.slice r 0 32 32) 43} (.tmp 43)=some (.slice r 0 32 32):=by kernel_rfl
theorem F5_t6 (t:Tr V):Nat.blt 43 {(fr 115 [(0,.bool false)])with tmps:=t}.n=true:=by kernel_rfl
theorem F5_t7 (t:Tr V):Nat.blt 1 {(fr 115 [(0,.bool false)])with tmps:=t}.n=true:=by kernel_rfl
theorem known_run (d:Nat) (hd:80000<=d) (ho:S.on=false) (hH:Hd S):∃U,(ev E0 KR (d+31)).f 5 [] S=some (.ret (.bool true),U)/\Grew (fun _=>False) S U:=by
 obtain⟨S1,a1,a2,a3,a4⟩:=rows_ops (ev E0 KR (d+30)) B5.r.l.ops (B5.r.l.ops.toList.drop 32) (kk5 (ev E0 KR (d+30)) qa2) (pp5 (ev E0 KR (d+30))) rowsK (B5.r.l.ops.toList.take 32) 11 (fr 115 [(0,.bool false)]) S ho (by rw[F5_len]; rfl) (by decide);have o1:=a3.on.trans ho;obtain⟨S2,b1,b2,b3,b4⟩:=qi5 o1 40 (Ev.one .nilslice) (slsL S.next 32) (fun v hv=>slsL_mem _ _ v hv) (by rw[slsL_len]; unfold big; decide);have b1:=b1 none;rw[slsL_len]at b1;have o2:=b3.on.trans o1;have H2:=(hH.grew (fun h=>h) a3).grew (fun h=>h) b3;have R2:=a2.grew b3;have hlen:rowsK.length=32:=rfl;obtain⟨U,u1,u2⟩:=rows_loop knR lgR (fun F=>fzR) (d+8) (by omega) qa2 (R5_35 (ev E0 KR (d+30)) qa2 (qct E0 (ev E0 KR (d+30)) Tryd.f5) qb4) (exB 0 (R5_35 (ev E0 KR (d+30)) qa2 (qct E0 (ev E0 KR (d+30)) Tryd.f5) qb4) qb4) (r:=S1.next) (n0:=S.next) rowsK 0 qa2 S2 o2 b2 (by omega) R2 rfl (by rw[hlen]; unfold qa2; decide);have oU:=u2.on.trans o2;obtain⟨W,w1,w2⟩:=known_bad d hd oU (H2.grew (fun h=>h) u2) (qct E0 (ev E0 KR (d+30)) Tryd.f5) qb4;refine⟨W,rv5 rfl ?_,((a3.trans b3).trans u2).trans w2⟩;show F5 (ev E0 KR (d+30)) qa2 S=_;rw[F5_head,a1,F5_t1];rw[show rowsK.length=32 from rfl,F5_t3,b_s,F5_t4,numbV_eq];rw[show bsP 40 1 32 (Ev.one .nilslice) (numb 0 (slsL S.next 32)) S1=some (.slice S1.next 0 32 32,S2)from b1,b_s];dsimp only;rw[F5_t6,c_t,F5_t2,F5_t5,b_s,F5_t7,c_t]
 rw[F5_loop,show(V.int .i64 0)=.int .i64 ((0:Nat):Int)from rfl,u1,exB_same,w1]
end
end Go.Proofs.YtafbipadnnmccaaDoor.W
end
