/-
  WHAT THE FUNCTIONS COME TO: each is read by the evaluator,printed,and told as a function of data,part 11 of 13 (no condition).
-/
import Derived.Test.YtafbipadnnmccaaDoorW10
import Derived.Test.YtafbipadnnmccaaDoorProg
import Derived.KernelRfl
import Derived.Test.YtafbipadnnmccaaDoorShelf
import Derived.Test.YtafbipadnnmccaaDoorChecked
import Derived.WalkKit
import Derived.ProofKit
noncomputable section
namespace Go.Proofs.YtafbipadnnmccaaDoor.W
open Go.Proofs.YtafbipadnnmccaaDoor.Ev
set_option maxRecDepth 100000
noncomputable section
def C17:Code:=Tryd.f17.body.getD .skip
def B17:D:=(qaz C17 [[],[]]).1
def F17 (self:EV) (N:Nat) (x0 x1 x2:V) (S:St):Rs:=qdg E0 self N Tryd.f17 B17 [x0,x1,x2] S
theorem F17_eq (self:EV) (N:Nat) (x0 x1 x2:V) (S:St):F17 self N x0 x1 x2 S =
callP (self.f 43 [x0,x1,x2,(.int .i64 (-1))] S) fun t4 S4=>
some (.ret t4,S4):=by kernel_rfl
def C43:Code:=Tryd.f43.body.getD .skip
def B43:D:=(qaz C43 [[],[],[],[],[],[],[],[],[0,0,1,2,3],[8],[],[],[],[],[],[0,1,2,10,11,52,53],[],[0,10,11],[],[],[],[],[],[],[],[0,2,10,11,77,78],[],[0,10,11],[],[],[],[],[],[],[0,0,10,11],[8],[],[]]).1
def RL43:List Nat:=cellsOf Tryd.f43.results.toList
def qld (self:EV) (N:Nat) (nk:Ac->St->Rs) (ek:Nat->Ac->St->Rs) (a:Ac) (S:St):Rs:=qb8 [0,10,11] a fun a=>dr E0 self RL43 N (B43.r.r.r.l.r.r.r).r (mkK E0 self Tryd.f43 nk ek) a S
theorem R43_40_eq (self:EV) (N:Nat) (nk:Ac->St->Rs) (ek:Nat->Ac->St->Rs) ( v0 v10 v11:V) (S:St):qld self N nk ek (fr 104 [(0,v0),(10,v10),(11,v11)]) S =
(qak E0 9 v0 (some v11) none none S).bind fun p43=>
callP (self.f 40 [v10,p43.1] p43.2) fun t44 S44=>
callP (self.f 42 [v10] S44) fun t45 S45=>
some (.ret t45,S45):=by kernel_rfl
def L43_52 (self:EV) (N:Nat) (nk:Ac->St->Rs) (ek:Nat->Ac->St->Rs) (n:Nat) ( v0 v1 v2 v10 v11 v52 v53:V) (S:St):Rs:=qdq [0,1,2,10,11,52,53] (dr E0 self RL43 N (B43.r.r.r.l.r.r.r.l.r.l.r.l.l)) (mkK E0 self Tryd.f43 nk ek) n (fr 104 [(0,v0),(1,v1),(2,v2),(10,v10),(11,v11),(52,v52),(53,v53)]) S
theorem L43_52_eq (self:EV) (N:Nat) (nk:Ac->St->Rs) (ek:Nat->Ac->St->Rs) (n:Nat) ( v0 v1 v2 v10 v11 v52 v53:V) (S:St):L43_52 self N nk ek (n+1) v0 v1 v2 v10 v11 v52 v53 S =
(qa5 E0 .lss 3 false false v53 v52).bind fun t53=>
ifK t53 (
(qak E0 9 v0 (some v11) none none S).bind fun p57=>
callP (self.f 64 [p57.1,v1] p57.2) fun t59 S59=>
(qa5 E0 .add 3 false false v11 t59).bind fun t60=>
(qak E0 9 v0 (some v11) (some t60) none S59).bind fun p65=>
callP (self.f 40 [v10,p65.1] p65.2) fun t66 S66=>
callP (self.f 40 [v10,v2] S66) fun t68 S68=>
(qbw v1 S68).bind fun p71=>
(qa5 E0 .add 3 false false t60 p71.1).bind fun t72=>
(qa5 E0 .add 3 false true v53 (.int .i64 1)).bind fun t74=>
L43_52 self N nk ek n v0 v1 v2 v10 t72 v52 t74 p71.2) (
ek 0 (fr 104 [(0,v0),(10,v10),(11,v11)]) S):=by kernel_rfl
def L43_81 (self:EV) (N:Nat) (nk:Ac->St->Rs) (ek:Nat->Ac->St->Rs) (n:Nat) ( v0 v2 v10 v11 v77 v78:V) (S:St):Rs:=qdq [0,2,10,11,77,78] (dr E0 self RL43 N (B43.r.r.r.l.r.r.r.l.r.r.r.r.l.l)) (mkK E0 self Tryd.f43 nk ek) n (fr 104 [(0,v0),(2,v2),(10,v10),(11,v11),(77,v77),(78,v78)]) S
def R43_120 (self:EV) (N:Nat) (nk:Ac->St->Rs) (ek:Nat->Ac->St->Rs) (a:Ac) (S:St):Rs:=qb8 [0,10,11] a fun a=>dr E0 self RL43 N (B43.r.r.r.l.r.r.r).r (mkK E0 self Tryd.f43 nk ek) a S
def L43_132 (self:EV) (N:Nat) (nk:Ac->St->Rs) (ek:Nat->Ac->St->Rs) (n:Nat) ( v0 v1 v2 v10 v11 v52 v53:V) (S:St):Rs:=qdq [0,1,2,10,11,52,53] (dr E0 self RL43 N (B43.r.r.r.l.r.r.r.l.r.l.r.l.l)) (mkK E0 self Tryd.f43 nk ek) n (fr 104 [(0,v0),(1,v1),(2,v2),(10,v10),(11,v11),(52,v52),(53,v53)]) S
def L43_161 (self:EV) (N:Nat) (nk:Ac->St->Rs) (ek:Nat->Ac->St->Rs) (n:Nat) ( v0 v2 v10 v11 v77 v78:V) (S:St):Rs:=qdq [0,2,10,11,77,78] (dr E0 self RL43 N (B43.r.r.r.l.r.r.r.l.r.r.r.r.l.l)) (mkK E0 self Tryd.f43 nk ek) n (fr 104 [(0,v0),(2,v2),(10,v10),(11,v11),(77,v77),(78,v78)]) S
def F43 (self:EV) (N:Nat) (x0 x1 x2 x3:V) (S:St):Rs:=qdg E0 self N Tryd.f43 B43 [x0,x1,x2,x3] S
theorem F43_eq (self:EV) (N:Nat) (x0 x1 x2 x3:V) (S:St):F43 self N x0 x1 x2 x3 S =
(qa5 E0 .eql 9 false false x1 x2).bind fun t3=>
(qa2 false t3).bind fun g5=>(bif g5 then some x3 else some (.tuple [])).bind fun t5=>
(qa2 false t3).bind fun g6=>(bif g6 then qa5 E0 .eql 3 false true t5 (.int .i64 0)else some (.tuple [])).bind fun t6=>
(qao t3 (some (.bool true)) (some t6)).bind fun t7=>
ifK t7 (
some (.ret x0,S)) (
callP (self.f 63 [x0,x1] S) fun t12 S12=>
(qa5 E0 .eql 3 false true t12 (.int .i64 0)).bind fun t15=>
ifK t15 (
some (.ret x0,S12)) (
(qa5 E0 .lss 3 false true x3 (.int .i64 0)).bind fun t19=>
(qa2 false t19).bind fun g21=>(bif g21 then some t12 else some (.tuple [])).bind fun t21=>
(qa2 false t19).bind fun g22=>(bif g22 then some x3 else some (.tuple [])).bind fun t22=>
(qa2 false t19).bind fun g23=>(bif g23 then qa5 E0 .lss 3 false false t21 t22 else some (.tuple [])).bind fun t23=>
(qao t19 (some (.bool true)) (some t23)).bind fun t24=>
ifK t24 (
(some (nwP 81 2 (Tr.ofListFrom .nil [.nilptr,.nilslice] 0) S12)).bind fun p27=>
(qbw x0 p27.2).bind fun p29=>
(qbw x2 p29.2).bind fun p32=>
(qbw x1 p32.2).bind fun p34=>
(qa5 E0 .sub 3 false false p32.1 p34.1).bind fun t35=>
(qa5 E0 .mul 3 false false t12 t35).bind fun t36=>
(qa5 E0 .add 3 false false p29.1 t36).bind fun t37=>
callP (self.f 39 [p27.1,t37] p34.2) fun t38 S38=>
(qbw x1 S38).bind fun p48=>
(qa5 E0 .gtr 3 false true p48.1 (.int .i64 0)).bind fun t49=>
ifK t49 (
L43_52 self N (qld self N (fun a s=>qb8 [8] a fun a=>(qbu E0 self Tryd.f43) a s) qav) (exB 0 (qld self N (fun a s=>qb8 [8] a fun a=>(qbu E0 self Tryd.f43) a s) qav) qav) N x0 x1 x2 p27.1 (.int .i64 0) t12 (.int .i64 0) p48.2) (
callP (self.f 40 [p27.1,x2] p48.2) fun t77 S77=>
(qa5 E0 .sub 3 false true t12 (.int .i64 1)).bind fun t79=>
L43_81 self N (qld self N (fun a s=>qb8 [8] a fun a=>(qbu E0 self Tryd.f43) a s) qav) (exB 2 (qld self N (fun a s=>qb8 [8] a fun a=>(qbu E0 self Tryd.f43) a s) qav) qav) N x0 x2 p27.1 (.int .i64 0) t79 (.int .i64 0) S77)) (
(some (nwP 81 2 (Tr.ofListFrom .nil [.nilptr,.nilslice] 0) S12)).bind fun p107=>
(qbw x0 p107.2).bind fun p109=>
(qbw x2 p109.2).bind fun p112=>
(qbw x1 p112.2).bind fun p114=>
(qa5 E0 .sub 3 false false p112.1 p114.1).bind fun t115=>
(qa5 E0 .mul 3 false false x3 t115).bind fun t116=>
(qa5 E0 .add 3 false false p109.1 t116).bind fun t117=>
callP (self.f 39 [p107.1,t117] p114.2) fun t118 S118=>
(qbw x1 S118).bind fun p128=>
(qa5 E0 .gtr 3 false true p128.1 (.int .i64 0)).bind fun t129=>
ifK t129 (
L43_132 self N (R43_120 self N (fun a s=>qb8 [8] a fun a=>(qbu E0 self Tryd.f43) a s) qav) (exB 0 (R43_120 self N (fun a s=>qb8 [8] a fun a=>(qbu E0 self Tryd.f43) a s) qav) qav) N x0 x1 x2 p107.1 (.int .i64 0) x3 (.int .i64 0) p128.2) (
callP (self.f 40 [p107.1,x2] p128.2) fun t157 S157=>
(qa5 E0 .sub 3 false true x3 (.int .i64 1)).bind fun t159=>
L43_161 self N (R43_120 self N (fun a s=>qb8 [8] a fun a=>(qbu E0 self Tryd.f43) a s) qav) (exB 2 (R43_120 self N (fun a s=>qb8 [8] a fun a=>(qbu E0 self Tryd.f43) a s) qav) qav) N x0 x2 p107.1 (.int .i64 0) t159 (.int .i64 0) S157)))):=by kernel_rfl
def C63:Code:=Tryd.f63.body.getD .skip
def B63:D:=(qaz C63 [[],[],[],[],[],[],[],[],[0,1,5],[],[],[],[],[]]).1
def RL63:List Nat:=cellsOf Tryd.f63.results.toList
def L63_17 (self:EV) (N:Nat) (nk:Ac->St->Rs) (ek:Nat->Ac->St->Rs) (n:Nat) ( v0 v1 v5:V) (S:St):Rs:=qdq [0,1,5] (dr E0 self RL63 N (B63.r.r.r.r.l.l)) (mkK E0 self Tryd.f63 nk ek) n (fr 34 [(0,v0),(1,v1),(5,v5)]) S
def F63 (self:EV) (N:Nat) (x0 x1:V) (S:St):Rs:=qdg E0 self N Tryd.f63 B63 [x0,x1] S
theorem F63_eq (self:EV) (N:Nat) (x0 x1:V) (S:St):F63 self N x0 x1 S =
(qbw x1 S).bind fun p2=>
(qa5 E0 .eql 3 false true p2.1 (.int .i64 0)).bind fun t3=>
ifK t3 (
callP (self.f 83 [x0] p2.2) fun t5 S5=>
(qa5 E0 .add 3 false true t5 (.int .i64 1)).bind fun t6=>
some (.ret t6,S5)) (
(qbw x1 p2.2).bind fun p9=>
(qa5 E0 .eql 3 false true p9.1 (.int .i64 1)).bind fun t10=>
ifK t10 (
(ixS x1 (.int .i64 0)).bind fun t13=>
callP (qbo E0 self (.fn (.func 84) [] []) [x0,t13] p9.2) fun t14 S14=>
some (.ret t14,S14)) (
L63_17 self N (qbu E0 self Tryd.f63) (exB 0 (qbu E0 self Tryd.f63) qav) N x0 x1 (.int .i64 0) p9.2)):=by kernel_rfl
def C64:Code:=Tryd.f64.body.getD .skip
def B64:D:=(qaz C64 [[],[]]).1
def F64 (self:EV) (N:Nat) (x0 x1:V) (S:St):Rs:=qdg E0 self N Tryd.f64 B64 [x0,x1] S
theorem F64_eq (self:EV) (N:Nat) (x0 x1:V) (S:St):F64 self N x0 x1 S =
callP (self.f 85 [x0,x1] S) fun t3 S3=>
some (.ret t3,S3):=by kernel_rfl
def C39:Code:=Tryd.f39.body.getD .skip
def B39:D:=(qaz C39 [[],[],[0,0,1],[],[]]).1
def RL39:List Nat:=cellsOf Tryd.f39.results.toList
def R39_2 (self:EV) (N:Nat) (nk:Ac->St->Rs) (ek:Nat->Ac->St->Rs) (a:Ac) (S:St):Rs:=qb8 [0,1] a fun a=>dr E0 self RL39 N (B39.r).r (mkK E0 self Tryd.f39 nk ek) a S
theorem R39_2_eq (self:EV) (N:Nat) (nk:Ac->St->Rs) (ek:Nat->Ac->St->Rs) ( v0 v1:V) (S:St):R39_2 self N nk ek (fr 25 [(0,v0),(1,v1)]) S =
(qa1 v0).bind fun t4=>
(faP 1 false 1 t4).bind fun t5=>
(ld1 t5 (onS S)).bind fun p6=>
(capP p6.1 (onS p6.2)).bind fun p7=>
(qa1 v0).bind fun t9=>
(faP 1 false 1 t9).bind fun t10=>
(ld1 t10 (onS p7.2)).bind fun p11=>
(lnS p11.1 (onS p11.2)).bind fun p12=>
(qa5 E0 .sub 3 false false p7.1 p12.1).bind fun t13=>
(qa5 E0 .lss 3 false false t13 v1).bind fun t15=>
qh7 [(3,[8,9]),(4,[8,9])] S [[],[],[],p6.2.log,p7.2.log,[],[],[],p11.2.log,p12.2.log,[],[],[]] (onS p12.2) fun S16=>
ifK t15 (
callP (self.f 62 [v0,v1] S16) fun t19 S19=>
nk (fr 25 []) S19) (
nk (fr 25 []) S16):=by kernel_rfl
def F39 (self:EV) (N:Nat) (x0 x1:V) (S:St):Rs:=qdg E0 self N Tryd.f39 B39 [x0,x1] S
theorem F39_eq (self:EV) (N:Nat) (x0 x1:V) (S:St):F39 self N x0 x1 S =
callP (self.f 61 [x0] S) fun t1 S1=>
(qa5 E0 .lss 3 false true x1 (.int .i64 0)).bind fun t21=>
ifK t21 (
callP (qkc (.iface 9 (sv [115,116,114,105,110,103,115,46,66,117,105,108,100,101,114,46,71,114,111,119,58,32,110,101,103,97,116,105,118,101,32,99,111,117,110,116])) S1) fun t23 S23=>
R39_2 self N (qbu E0 self Tryd.f39) qav (fr 25 [(0,x0),(1,x1)]) S23) (
R39_2 self N (qbu E0 self Tryd.f39) qav (fr 25 [(0,x0),(1,x1)]) S1):=by kernel_rfl
def C40:Code:=Tryd.f40.body.getD .skip
def B40:D:=(qaz C40 [[],[],[],[]]).1
def F40 (self:EV) (N:Nat) (x0 x1:V) (S:St):Rs:=qdg E0 self N Tryd.f40 B40 [x0,x1] S
theorem F40_eq (self:EV) (N:Nat) (x0 x1:V) (S:St):F40 self N x0 x1 S =
callP (self.f 61 [x0] S) fun t3 S3=>
(qa1 x0).bind fun t6=>
(faP 1 false 1 t6).bind fun t7=>
(ld1 t7 S3).bind fun p8=>
(apP 5 1 1 p8.1 x1 p8.2).bind fun p10=>
(qa1 x0).bind fun t11=>
(faP 1 false 1 t11).bind fun t12=>
(stP 1 t12 p10.1 p10.2).bind fun p13=>
(qbw x1 p13.2).bind fun p15=>
some (.ret (.tuple [p15.1,.niliface]),p15.2):=by kernel_rfl
def C62:Code:=Tryd.f62.body.getD .skip
def B62:D:=(qaz C62 [[],[]]).1
def F62 (self:EV) (N:Nat) (x0 x1:V) (S:St):Rs:=qdg E0 self N Tryd.f62 B62 [x0,x1] S
theorem F62_eq (self:EV) (N:Nat) (x0 x1:V) (S:St):F62 self N x0 x1 S =
(qa1 x0).bind fun t1=>
(faP 1 false 1 t1).bind fun t2=>
(ld1 t2 (onS S)).bind fun p3=>
(capP p3.1 (onS p3.2)).bind fun p4=>
(qa5 E0 .mul 3 true false (.int .i64 2) p4.1).bind fun t5=>
(qa5 E0 .add 3 false false t5 x1).bind fun t7=>
qlm (qas E0 (B62.l).ops) S 8 [[],[],[],p3.2.log,p4.2.log,[],[],[]] (qbo E0 self (.fn (.func 82) [] []) [t7] (onS p4.2)) fun t8 S8=>
(qa1 x0).bind fun t10=>
(faP 1 false 1 t10).bind fun t11=>
(ld1 t11 (onS S8)).bind fun p12=>
(lnS p12.1 (onS p12.2)).bind fun p13=>
(qak E0 79 t8 none (some p13.1) none (onS p13.2)).bind fun p14=>
qh7 [(3,[12,13]),(4,[12,13]),(8,[12,13])] S [[],[],[],p3.2.log,p4.2.log,[],[],[],S8.log,[],[],[],p12.2.log,p13.2.log,p14.2.log,[]] (onS p14.2) fun S16=>
(qa1 x0).bind fun t19=>
(faP 1 false 1 t19).bind fun t20=>
(ld1 t20 S16).bind fun p21=>
(cpP 1 p14.1 p21.1 p21.2).bind fun p22=>
(qa1 x0).bind fun t25=>
(faP 1 false 1 t25).bind fun t26=>
(stP 1 t26 p14.1 p22.2).bind fun p27=>
some (.ret (.tuple []),p27.2):=by kernel_rfl
end
end Go.Proofs.YtafbipadnnmccaaDoor.W
namespace Go.Proofs.YtafbipadnnmccaaDoor.W
open Go.Proofs.YtafbipadnnmccaaDoor.Ev Go.RowKit
theorem setG (t:Tr V) (v:V) (i j:Nat) (h:j≠i):(t.set v i).get j=t.get j:=by rw[Tr.get_set,iN h]
theorem setS (t:Tr V) (v:V) (i:Nat):(t.set v i).get i=some v:=by rw[Tr.get_set,iP rfl]
theorem grew_eq {S U:St} (hh:U.heap=S.heap) (hn:U.next=S.next) (hu:U.on=S.on):Grew (fun _=>False) S U:=⟨by omega,hu,fun x _ _=>by rw[hh]⟩
section
variable {K:FuncId->Option KF}
theorem rb17 (h:K 17=none):RdL K 17 Tryd.f17 B17:=qa9 (c:=C17) (d:=B17) (by kernel_rfl) (by kernel_rfl) (qa4 C17 _ (by kernel_rfl)) h
theorem rb43 (h:K 43=none):RdL K 43 Tryd.f43 B43:=qa9 (c:=C43) (d:=B43) (by kernel_rfl) (by kernel_rfl) (qa4 C43 _ (by kernel_rfl)) h
theorem rb63 (h:K 63=none):RdL K 63 Tryd.f63 B63:=qa9 (c:=C63) (d:=B63) (by kernel_rfl) (by kernel_rfl) (qa4 C63 _ (by kernel_rfl)) h
theorem rb64 (h:K 64=none):RdL K 64 Tryd.f64 B64:=qa9 (c:=C64) (d:=B64) (by kernel_rfl) (by kernel_rfl) (qa4 C64 _ (by kernel_rfl)) h
theorem rb39 (h:K 39=none):RdL K 39 Tryd.f39 B39:=qa9 (c:=C39) (d:=B39) (by kernel_rfl) (by kernel_rfl) (qa4 C39 _ (by kernel_rfl)) h
theorem rb40 (h:K 40=none):RdL K 40 Tryd.f40 B40:=qa9 (c:=C40) (d:=B40) (by kernel_rfl) (by kernel_rfl) (qa4 C40 _ (by kernel_rfl)) h
theorem rb62 (h:K 62=none):RdL K 62 Tryd.f62 B62:=qa9 (c:=C62) (d:=B62) (by kernel_rfl) (by kernel_rfl) (qa4 C62 _ (by kernel_rfl)) h
end
section
variable {S T U:St} {v:V} {bs:Bs} {N b r n:Nat}
def Pre (S:St) (r n:Nat) (bs:Bs):Prop:=∃c,S.heap.get r=some (.cells 5 1 n false c)/\bs.length<=n/\n<1000000/\∀(i:Nat) b,bs[i]?=some b->c.get i=some (qc6 b)
theorem Pre.grew {W:Nat->Prop} (h:Pre S r n bs) (hr:r<S.next) (hw:¬W r) (g:Grew W S T):Pre T r n bs:=by
 obtain⟨c,h1,h2⟩:=h;exact⟨c,by rw[g.keep r hr hw,h1],h2⟩
theorem Pre.ldN (h:Pre S r n bs) (ho:S.on=false):∀(k i:Nat),i+k<=bs.length->Ev.ldN r 1 k i S=some (((bs.drop i).take k).map qc6,S)
 | 0,i,_=>by simp[Ev.ldN]
 | k+1,i,hle=>by
  obtain⟨c,h1,h2,h3,h4⟩:=id h;have hlt:i<bs.length:=by omega
  have hk:ldK S r i 1=some (qc6 bs[i],S):=by
   unfold ldK;rw[h1];dsimp only;rw[ble_true.2 (show i+1<=1*n by omega),blt_true.2 (show 1*n<big by unfold big; omega),Bool.and_self,cT];unfold qg1;rw[Nat.beq_refl,show Nat.beq (i%1) 0=true from beq_true.2 (Nat.mod_one i),Bool.and_self,cT,Nat.div_one,h4 i _ (List.getElem?_eq_getElem hlt),oB,qau ho]
  unfold Ev.ldN;rw[hk,oB];dsimp only;rw[Pre.ldN h ho k (i+1) (by omega),oB,List.drop_eq_getElem_cons hlt,List.take_succ_cons];rfl
theorem Pre.stN:∀(m:Bs) {S:St} {bs:Bs},Pre S r n bs->S.on=false->bs.length+m.length<=n->∃U,Ev.stN r 1 (m.map qc6) bs.length S=some U/\Pre U r n (bs++m)/\Grew (fun x=>x=r) S U/\U.next=S.next
 | [],S,bs,h,ho,_=>⟨S,rfl,by simpa using h,Grew.refl _ _,rfl⟩
 | x::m,S,bs,h,ho,hle=>by
  obtain⟨c,h1,h2,h3,h4⟩:=h;rw[List.length_cons]at hle
  have hk:stK S r bs.length 1 (qc6 x)=some (S.put r (.cells 5 1 n false (c.set (qc6 x) bs.length))):=by
   unfold stK;rw[h1];dsimp only;rw[ble_true.2 (show bs.length+1<=1*n by omega),blt_true.2 (show 1*n<big by unfold big; omega)];simp only[nF,Bool.and_self,cT];unfold qg2;rw[Nat.beq_refl,show Nat.beq (bs.length%1) 0=true from beq_true.2 (Nat.mod_one _),Bool.and_self,cT,Nat.div_one,Tr.setC_eq,oB,qau ho]
  have hP:Pre (S.put r (.cells 5 1 n false (c.set (qc6 x) bs.length))) r n (bs++[x]):=⟨_,by rw[qft,iP rfl],by rw[lAq,List.length_singleton]; omega,h3,fun i b hb=>by
   rw[Tr.get_set];by_cases e:i=bs.length
   . subst e
     rw[iP rfl];simp at hb;rw[hb]
   . rw[iN e]
     have hlt:=(List.getElem?_eq_some_iff.1 hb).1;rw[lAq,List.length_singleton]at hlt;rw[List.getElem?_append_left (by omega)]at hb
     exact h4 i b hb⟩
  obtain⟨U,k1,k2,k3,k4⟩:=Pre.stN m hP ho (by rw[lAq,List.length_singleton]; omega);refine⟨U,?_,by simpa using k2,(qiq r _).trans k3,k4⟩;rw[List.map_cons];unfold Ev.stN;rw[hk,oB];rw[lAq,List.length_singleton]at k1;exact k1
theorem pre_new (ho:S.on=false) (l:Bs) (hl:l.length<1000000):Pre (qan S 5 1 (l.map qc6)) S.next l.length l:=by
 refine⟨Tr.ofListFrom .nil (l.map qc6) 0,?_,lR _,hl,fun i b hb=>?_⟩
 . unfold qan
   rw[qgo,iP rfl,lM]
 . rw[Tr.get_ofList,List.getElem?_map,hb]; rfl
def BP (S:St) (v:V) (bs:Bs) (N:Nat):Prop:=(bs=[]/\v=.nilslice)\/∃r n,v=.oslice r 0 bs.length 1/\Pre S r n bs/\r<S.next/\N<=r
theorem BP.grew {W:Nat->Prop} (h:BP S v bs N) (g:Grew W S T) (hw:∀x,N<=x->x<S.next->¬W x):BP T v bs N:=by
 rcases h with h|⟨r,n,h1,h2,h3,h4⟩
 . exact .inl h
 . exact .inr ⟨r,n,h1,h2.grew h3 (hw r h4 h3) g,Nat.lt_of_lt_of_le h3 g.next,h4⟩
theorem BP.oneV (h:BP S v bs N):OneV v:=by
 rcases h with⟨_,rfl⟩|⟨r,n,rfl,_⟩<;>exact⟨rfl,rfl,rfl,rfl⟩
theorem BP.app (h:BP S v bs N) (ho:S.on=false) (hN:N<=S.next) {y:V} {l:Bs} (hy:lenV y=some l.length) (hf:qb7 1 l.length y S=some (l.map qc6,S)) (hl:bs.length+l.length<100000) :
 ∃w U,apP 5 1 1 v y S=some (w,U)/\BP U w (bs++l) N/\Grew (fun x=>N<=x) S U:=by
 have hm:∀k,lenV v=some k->k=bs.length->apP 5 1 1 v y S=qcs 5 1 l.length v y S:=fun k hk e=>by
  unfold apP;rw[hy,oB,hk,oB,blt_true.2 (show(k+l.length)*(1+1+1)<qai by unfold qai; omega),cT]
 rcases h with⟨rfl,rfl⟩|⟨r,n,rfl,h2,h3,h4⟩
 . rw[hm 0 rfl rfl]
   unfold qcs;rw[hf,oB];dsimp only;by_cases h0:l=[]
   . subst h0
     exact⟨_,S,rfl,.inl ⟨rfl,rfl⟩,Grew.refl _ _⟩
   . have hlp:0<l.length:=List.length_pos_iff.2 h0
     rw[show Nat.beq l.length 0=false from beq_false.2 (by omega),cF];refine⟨_,_,rfl,.inr ⟨S.next,l.length,rfl,pre_new ho l (by simp only[List.length_nil]at hl; omega),by show S.next<S.next+1; omega,hN⟩,(qeo ho _ _).mono fun _ _ h=>(h:False).elim⟩
 . obtain⟨c,c1,c2,c3,c4⟩:=id h2
   rw[hm _ rfl rfl];unfold qcs;rw[hf,oB];dsimp only;rw[show Nat.beq 1 1=true from rfl,cT]
   have hsz:qic S r=some (1*n,S):=by
    unfold qic;rw[c1];dsimp only;rw[blt_true.2 (show 1*n<big by unfold big; omega),cT,qau ho]
   rw[hsz,oB];dsimp only;by_cases hin:bs.length+l.length<=n
   . obtain⟨U,k1,k2,k3,k4⟩:=Pre.stN l h2 ho hin
     rw[ble_true.2 (show 0+(bs.length+l.length)*1<=1*n by omega),cT,show 0+bs.length*1=bs.length by omega,k1,oB];exact⟨_,U,rfl,.inr ⟨r,n,by rw[lAq],k2,by omega,h4⟩,k3.mono fun x _ e=>by rw[e]; exact h4⟩
   . have hb:Nat.ble (0+(bs.length+l.length)*1) (1*n)=false:=by
      cases hh:Nat.ble (0+(bs.length+l.length)*1) (1*n)with
      | false=>rfl
      | true=>rw[ble_true]at hh; omega
     rw[hb,cF];unfold qjh;rw[c1];dsimp only;simp only[Nat.beq_refl,Bool.not_true,Bool.or_self,cF,Bool.true_and,show Nat.beq 1 1=true from rfl,show Nat.beq 0 0=true from rfl];have hset:setO S r .dead=S.put r .dead:=by unfold setO; rw[qau ho]
     have hgrow:Grew (fun x=>N<=x) S (nw (S.put r .dead) (.cells 5 1 (bs.length+l.length) false (addL c (l.map qc6) bs.length))):=⟨by show S.next<=S.next+1; omega,(nw_on (s:=S.put r .dead) ho _).trans ho.symm,fun x hx hw=>by
      rw[qgo,iN (by show x≠S.next; omega),qft,iN (fun e=>hw (by rw[e]; exact h4))]⟩
     by_cases hn:n=bs.length
     . rw[show Nat.beq n bs.length=true from beq_true.2 hn,blt_true.2 (show 1*n<big by unfold big; omega),Bool.and_self,cT,qdd,hset]
       refine⟨_,_,rfl,.inr ⟨S.next,bs.length+l.length,by rw[lAq],⟨addL c (l.map qc6) bs.length,?_,by rw[lAq]; exact lR _,by omega,fun i b hb=>?_⟩,?_,hN⟩,hgrow⟩
       . rw[qgo]; exact iP rfl
       . rw[addL_get,lM]
         by_cases hi:bs.length<=i
         . rw[List.getElem?_append_right hi]at hb
           have hlt:=(List.getElem?_eq_some_iff.1 hb).1;rw[iP ⟨hi,by omega⟩,List.getElem?_map,hb]; rfl
         . rw[iN (by omega)]
           rw[List.getElem?_append_left (by omega)]at hb;exact c4 i b hb
       . show S.next<S.next+1; omega
     . rw[show Nat.beq n bs.length=false from beq_false.2 hn,Bool.false_and,cF,cT]
       have hld:=h2.ldN ho bs.length 0 (by omega);rw[List.drop_zero,List.take_of_length_le (lR _)]at hld;rw[hld,oB];dsimp only;have hl2:(bs.map qc6++l.map qc6)=(bs++l).map qc6:=(List.map_append ..).symm;rw[hl2,hset];refine⟨_,_,rfl,.inr ⟨S.next,(bs++l).length,by rw[lAq],pre_new (S:=S.put r .dead) ho (bs++l) (by rw[lAq]; omega),by show S.next<S.next+1; omega,hN⟩,?_⟩
       exact⟨by show S.next<=S.next+1; omega,(nw_on (s:=S.put r .dead) ho _).trans ho.symm,fun x hx hw=>by
        unfold qan
        rw[qgo,iN (by show x≠S.next; omega),qft,iN (fun e=>hw (by rw[e]; exact h4))]⟩
def Bd (S:St) (b:Nat) (bs:Bs) (N:Nat):Prop:=S.on=false/\b<N/\N<=S.next/\∃t v,AgAt S b 81 2 t/\(t.get 0=some .nilptr\/t.get 0=some (.ptr b 0))/\t.get 1=some v/\BP S v bs N
theorem Bd.on (h:Bd S b bs N):S.on=false:=h.1
variable {K:FuncId->Option KF}
theorem check_built (h40:K 61=some (qaq 81)) (m:Nat) (h:Bd S b bs N):∃U,(ev E0 K (m+1)).f 61 [.ptr b 0] S=some (.ret (.tuple []),U)/\Bd U b bs N/\Grew (fun x=>x=b) S U:=by
 obtain⟨ho,hb,hN,t,v,h1,h2,h3,h4⟩:=h;obtain⟨c,hc1,hc2⟩:=id h1
 have hhead:∀u,t.get 0=some u->headB 81 b S=some (u,S):=fun u hu=>by
  unfold headB;rw[hc1];dsimp only;rw[show(Nat.beq 81 81&&Nat.beq 2 2&&Nat.blt 0 1&&!false)=true from rfl,cT,hc2,oB,hu,oB,qau ho]
 rcases h2 with h2|h2
 . obtain⟨w,k1,k2,k3,k4⟩:=h1.st1 ho big2 (by decide) (i:=0) (by decide) (.ptr b 0) rfl rfl rfl
   have hst:stK S b 0 1 (Ev.one (.ptr b 0))=some w:=by
    have hk:vu (stK S b 0 1 (Ev.one (.ptr b 0)))=some (.tuple [],w):=k1;cases hq:stK S b 0 1 (Ev.one (.ptr b 0))with
    | none=>rw[hq]at hk; cases hk
    | some z=>rw[hq]at hk; cases hk; rfl
   refine⟨w,?_,⟨k3.on.trans ho,hb,by omega,_,v,k2,.inr (by rw[Tr.get_set,iP rfl]),by rw[Tr.get_set,iN (by omega)]; exact h3,h4.grew k3 fun x hx _ e=>by omega⟩,k3⟩;rw[qeb h40];unfold qaq;dsimp only;rw[Nat.beq_refl,cT,hhead _ h2,oB];dsimp only;rw[hst,oB]
 . refine⟨S,?_,⟨ho,hb,hN,t,v,h1,.inr h2,h3,h4⟩,Grew.refl _ _⟩
   rw[qeb h40];unfold qaq;dsimp only;rw[Nat.beq_refl,cT,hhead _ h2,oB];dsimp only;rw[Nat.beq_refl,Nat.beq_refl,Bool.and_self,cT]
theorem faP1 (b:Nat):faP 1 false 1 (.ptr b 0)=some (.ptr b 1):=rfl
theorem built_more (h:Bd S b bs N) {y:V} {l:Bs} {S0:St} (h0:S0.on=false) (hg:Grew (fun x=>N<=x) S S0) (hB:Bd S0 b bs N) (hy:lenV y=some l.length) (hf:qb7 1 l.length y S0=some (l.map qc6,S0)) (hl:bs.length+l.length<100000) :
 ∃v,ld1 (.ptr b 1) S=some (v,S)/\∃w S1 S2,apP 5 1 1 v y S0=some (w,S1)/\stP 1 (.ptr b 1) w S1=some (.tuple [],S2)/\Bd S2 b (bs++l) N/\Grew (fun x=>x=b\/N<=x) S0 S2:=by
 obtain⟨ho,hb,hN,t,v,h1,h2,h3,h4⟩:=h;obtain⟨ho',hb',hN',t',v',h1',h2',h3',h4'⟩:=hB;refine⟨v,h1.ld1 ho big2 (by decide) h3,?_⟩;have htt:AgAt S0 b 81 2 t:=h1.grew (by omega) (by omega) hg
 have:t'=t:=by
  obtain⟨c,c1,c2⟩:=htt;obtain⟨c',d1,d2⟩:=h1';rw[c1]at d1;cases d1;rw[c2]at d2;cases d2;rfl
 subst this;rw[h3]at h3';cases h3';obtain⟨w,S1,a1,a2,a3⟩:=h4'.app ho' hN' hy hf hl;have n1:=a3.next
 have g1:AgAt S1 b 81 2 t':=h1'.grew (by omega) (by omega) a3;have hv:=a2.oneV;obtain⟨S2,c1,c2,c3,c4⟩:=g1.st1 (a3.on.trans ho') big2 (by decide) (i:=1) (by decide) w hv.size hv.cells hv.tup;exact⟨w,S1,S2,a1,c1,⟨c3.on.trans (a3.on.trans ho'),hb,by omega,_,w,c2,by rw[Tr.get_set,iN (by omega)]; exact h2',by rw[Tr.get_set,iP rfl],a2.grew c3 fun x hx _ e=>by omega⟩,(a3.mono fun x _ e=>.inr e).trans (c3.mono fun x _ e=>.inl e)⟩
theorem first_sv (l:Bs) (S:St):qb7 1 l.length (sv l) S=some (l.map qc6,S):=by
 unfold qb7;show(bif Nat.ble l.length l.length&&Nat.beq 1 1 then some (qex l.length (qb0 l),S)else none)=_;rw[ble_true.2 (lR _),Nat.beq_refl,Bool.and_self,cT,qjy]
theorem str_run (h40:K 61=some (qaq 81)) (h17:K 40=none) (m:Nat) (h:Bd S b bs N) (l:Bs) (hl:bs.length+l.length<100000):∃U v,(ev E0 K (m+2)).f 40 [.ptr b 0,sv l] S=some (.ret v,U)/\Bd U b (bs++l) N/\Grew (fun x=>x=b\/N<=x) S U:=by
 obtain⟨S1,a1,a2,a3⟩:=check_built h40 m h;obtain⟨v,b1,w,S2,S3,b2,b3,b4,b5⟩:=built_more a2 a2.on (Grew.refl _ _) a2 (y:=sv l) (l:=l) rfl (first_sv l S1) hl;refine⟨S3,.tuple [.int .i64 (l.length:Int),.niliface],qa9 (c:=C40) (d:=B40) (by kernel_rfl) (by kernel_rfl) (qa4 C40 _ (by kernel_rfl)) h17 (?_:F40 (ev E0 K (m+1)) qa3 (.ptr b 0) (sv l) S=_),b4,(a3.mono fun x _ e=>.inl e).trans b5⟩;rw[F40_eq,a1,callP_ret,n_k,oB,faP1,oB,b1,oB];dsimp only;rw[b2,oB,oB,faP1,oB];dsimp only;rw[b3,oB];dsimp only;rw[lnStr_sv,oB]
theorem told_run (h20:K 42=some (qd0 5)) (m:Nat) (h:Bd S b bs N) (h0:bs≠[]):∃U,(ev E0 K (m+1)).f 42 [.ptr b 0] S=some (.ret (sv bs),U)/\Grew (fun x=>N<=x) S U:=by
 obtain⟨ho,hb,hN,t,v,h1,h2,h3,h4⟩:=h;rcases h4 with⟨rfl,_⟩|⟨r,n,rfl,k2,k3,k4⟩
 . exact absurd rfl h0
 . obtain⟨c,q1,_⟩:=id k2
   have hld:=k2.ldN ho bs.length 0 (by omega);rw[List.drop_zero,List.take_of_length_le (lR _)]at hld;have hcell:ld S b 1=some (.oslice r 0 bs.length 1,S):=h1.ld1 ho big2 (by decide) h3
   have hown:ownB 5 r S=some ((),S):=by
    unfold ownB;rw[q1];dsimp only;rw[show(Nat.beq 5 5&&Nat.beq 1 1&&!false)=true from rfl,cT,oB,qau ho]
   refine⟨S.put r .dead,?_,(qiq r _).mono fun x _ e=>by rw[e]; exact k4⟩;rw[qeb h20];unfold qd0;dsimp only;rw[Nat.beq_refl,cT,hcell,oB];dsimp only;rw[show(Nat.beq 1 1&&Nat.blt 0 bs.length)=true from by rw[Nat.beq_refl,blt_true.2 (List.length_pos_iff.2 h0)]; rfl,cT];unfold strAt;rw[hown,oB,hld,oB];dsimp only;rw[u8sOf_row,oB];unfold setO;rw[qau ho]
end
theorem ext80:E0.ext.get 82=some 105:=by kernel_rfl
section
variable {S T U:St} {b N:Nat} {K:FuncId->Option KF}
theorem make_lg (self:EV) (n:Nat) (hn:n<1000000) (S:St):qbo E0 self (.fn (.func 82) [] []) [.int .i64 (n:Int)] S=some (.ret (.oslice S.next 0 n 1),nw S (.cells 5 1 n false .nil)):=by
 have h:=qln (E:=E0) (self:=self) ext80 [] [] [.int .i64 (n:Int)] S;have h1:extV 105 [.int .i64 (n:Int)] S=bif Nat.blt n qai then some (.val (.oslice S.next 0 n 1) (nw S (.cells 5 1 n false .nil)))else none:=rfl;rw[blt_true.2 (show n<qai by unfold qai; omega),cT]at h1;rw[List.nil_append,List.append_nil,h1]at h;exact h
theorem pairs62 {b N:Nat} (hb:b≠N) (l:List LE):qag [[],[],[],[⟨b,1,1+1,false⟩],[],[],[],[],[⟨N,0,big,true⟩],[],[],[],[⟨b,1,1+1,false⟩],[],l,[]] [(3,[12,13]),(4,[12,13]),(8,[12,13])]=true:=by
 have h1:qbi [⟨b,1,1+1,false⟩] [⟨b,1,1+1,false⟩]=false:=qim (by simp);have h2:qbi [⟨N,0,big,true⟩] [⟨b,1,1+1,false⟩]=false:=qim (by simp; exact fun e=>hb e.symm);have h3:qbi [⟨b,1,1+1,false⟩] []=false:=qim (by simp);have h4:qbi [⟨N,0,big,true⟩] []=false:=qim (by simp);show(bif (bif qbi [⟨b,1,1+1,false⟩] [⟨b,1,1+1,false⟩]then true else(bif qbi [⟨b,1,1+1,false⟩] []then true else false))then false else(bif (bif qbi ([]:List LE) [⟨b,1,1+1,false⟩]then true else(bif qbi ([]:List LE) []then true else false))then false else(bif (bif qbi [⟨N,0,big,true⟩] [⟨b,1,1+1,false⟩]then true else(bif qbi [⟨N,0,big,true⟩] []then true else false))then false else true)))=true;rw[h1,h2,h3,h4];rfl
def Fresh (S:St) (b N:Nat):Prop:=S.on=false/\b<N/\N<=S.next/\∃t,AgAt S b 81 2 t/\(t.get 0=some .nilptr\/t.get 0=some (.ptr b 0))/\t.get 1=some .nilslice
theorem fresh_new (ho:S.on=false):Fresh (nwP 81 2 (Tr.ofListFrom .nil [.nilptr,.nilslice] 0) S).2 S.next (S.next+1):=by
 obtain⟨a1,a2,a3⟩:=qbp ho 81 2 (Tr.ofListFrom .nil [.nilptr,.nilslice] 0);exact⟨a2.on.trans ho,by omega,by omega,_,a1,.inl rfl,rfl⟩
theorem qhy (h40:K 61=some (qaq 81)) (m:Nat) (h:Fresh S b N):∃U,(ev E0 K (m+1)).f 61 [.ptr b 0] S=some (.ret (.tuple []),U)/\Fresh U b N/\Grew (fun x=>x=b) S U:=by
 obtain⟨ho,hb,hN,t,h1,h2,h3⟩:=h;obtain⟨c,hc1,hc2⟩:=id h1
 have hhead:∀u,t.get 0=some u->headB 81 b S=some (u,S):=fun u hu=>by
  unfold headB;rw[hc1];dsimp only;rw[show(Nat.beq 81 81&&Nat.beq 2 2&&Nat.blt 0 1&&!false)=true from rfl,cT,hc2,oB,hu,oB,qau ho]
 rcases h2 with h2|h2
 . obtain⟨w,k1,k2,k3,k4⟩:=h1.st1 ho big2 (by decide) (i:=0) (by decide) (.ptr b 0) rfl rfl rfl
   have hst:stK S b 0 1 (Ev.one (.ptr b 0))=some w:=by
    have hk:vu (stK S b 0 1 (Ev.one (.ptr b 0)))=some (.tuple [],w):=k1;cases hq:stK S b 0 1 (Ev.one (.ptr b 0))with
    | none=>rw[hq]at hk; cases hk
    | some z=>rw[hq]at hk; cases hk; rfl
   refine⟨w,?_,⟨k3.on.trans ho,hb,by omega,_,k2,.inr (setS _ _ _),by rw[setG _ _ _ _ (by decide)]; exact h3⟩,k3⟩;rw[qeb h40];unfold qaq;dsimp only;rw[Nat.beq_refl,cT,hhead _ h2,oB];dsimp only;rw[hst,oB]
 . refine⟨S,?_,⟨ho,hb,hN,t,h1,.inr h2,h3⟩,Grew.refl _ _⟩
   rw[qeb h40];unfold qaq;dsimp only;rw[Nat.beq_refl,cT,hhead _ h2,oB];dsimp only;rw[Nat.beq_refl,Nat.beq_refl,Bool.and_self,cT]
theorem grow_run (h62:K 62=none) (m:Nat) (h:Fresh S b N) (n:Nat) (h0:0<n) (hn:n<100000):∃U,(ev E0 K (m+1)).f 62 [.ptr b 0,.int .i64 (n:Int)] S=some (.ret (.tuple []),U)/\Bd U b [] N/\Grew (fun x=>x=b\/N<=x) S U:=by
 obtain⟨ho,hb,hN,t,h4,h5,h6⟩:=h;have g1:Grew (fun _=>False) S (nw S (.cells 5 1 n false .nil)):=qeo ho _ _;have on1:=g1.on.trans ho;have hF:=F62_eq (ev E0 K m) qa3 (.ptr b 0) (.int .i64 (n:Int)) S;have hld:=h4.ld1 ho big2 (by decide) h6;have hl1:=qc5 ho hld [];have ag1:=h4.grew (by omega) (fun h=>h) g1;have hl2:=qc5 on1 (ag1.ld1 on1 big2 (by decide) h6) [];obtain⟨U1,r1,r2,r3,r4⟩:=qdn ho (nw S (.cells 5 1 n false .nil)) [] [[],[],[],[⟨b,1,1+1,false⟩],[],[],[],[],[⟨S.next,0,big,true⟩],[],[],[],[⟨b,1,1+1,false⟩],[],[⟨S.next,big-1,big,false⟩],[]];have gU1:=grew_eq r2 r3 (r4.trans on1.symm);have agU:=ag1.grew (by show b<S.next+1; omega) (fun h=>h) gU1;obtain⟨U2,k1,k2,k3,k4⟩:=agU.st1 r4 big2 (by decide) (i:=1) (by decide) (.oslice S.next 0 0 1) rfl rfl rfl
 have hsl:qak E0 79 (.oslice S.next 0 n 1) none (some (.int .i64 ((0:Nat):Int))) none ((nw S (.cells 5 1 n false .nil)).lg [])=some (.oslice S.next 0 0 1,(nw S (.cells 5 1 n false .nil)).lg [⟨S.next,big-1,big,false⟩]):=by
  unfold qak;rw[und79,oB];simp only;rw[show Ev.sizeT E0 5=some 1 by kernel_rfl,oB,show(Nat.beq 1 1&&Nat.blt 0 1)=true from rfl,cT]
  have hsz:qic ((nw S (.cells 5 1 n false .nil)).lg []) S.next=some (1*n,(nw S (.cells 5 1 n false .nil)).lg [⟨S.next,big-1,big,false⟩]):=by
   unfold qic;rw[show((nw S (.cells 5 1 n false .nil)).lg []).heap.get S.next=some (.cells 5 1 n false .nil)from by show(nw S _).heap.get _=_; rw[qgo,iP rfl]];dsimp only;rw[blt_true.2 (show 1*n<big by unfold big; omega),cT,note_lg]
  rw[hsz,oB];dsimp only;rw[show(1*n-0)/1=n by omega,qey .i64 (Nat.zero_le n),oB];dsimp only;rw[blt_true.2 h0,cT]
 refine⟨U2,rb62 h62 ?_,⟨k3.on.trans r4,hb,by have:=g1.next; have:=gU1.next; have:=k3.next; omega,_,_,k2,by rw[setG _ _ _ _ (by decide)]; exact h5,setS _ _ _,.inr ⟨S.next,n,rfl,?_,by have:=gU1.next; have:=k3.next; show S.next<U2.next; rw[k4,r3]; show S.next<S.next+1; omega,hN⟩⟩,(g1.mono fun _ _ h=>(h:False).elim).trans ((gU1.mono fun _ _ h=>(h:False).elim).trans (k3.mono fun x _ e=>.inl e))⟩
 . refine hF.trans ?_
   rw[n_k,oB,faP1,oB,qj0,hl1,oB];dsimp only;rw[show capP .nilslice (onS (S.lg [⟨b,1,1+1,false⟩]))=some (.int .i64 0,S.lg [])from rfl,oB];dsimp only;rw[show qa5 E0 .mul 3 true false (.int .i64 2) (.int .i64 0)=some (.int .i64 0)from rfl,oB,show qa5 E0 .add 3 false false (.int .i64 0) (.int .i64 (n:Int))=some (.int .i64 (n:Int))from by rw[binV_ii,intsV_add,Int.zero_add,qdi (by omega) (by omega)],oB,qdk,qj0,make_lg _ n (by omega),qc8,oB,faP1,oB];rw[show(S.lg []).next=S.next from rfl,nw_lg ho,qdk,qj0,hl2,oB];dsimp only;rw[show lnS .nilslice (onS ((nw S (.cells 5 1 n false .nil)).lg [⟨b,1,1+1,false⟩]))=some (.int .i64 ((0:Nat):Int),(nw S (.cells 5 1 n false .nil)).lg [])from rfl,oB];dsimp only;rw[qdk,qj0,hsl,oB];dsimp only;rw[show(S.lg [⟨b,1,1+1,false⟩]).log=[⟨b,1,1+1,false⟩]from rfl,show(S.lg []).log=[]from rfl,show((nw S (.cells 5 1 n false .nil)).lg [⟨S.next,0,big,true⟩]).log=[⟨S.next,0,big,true⟩]from rfl,show((nw S (.cells 5 1 n false .nil)).lg [⟨b,1,1+1,false⟩]).log=[⟨b,1,1+1,false⟩]from rfl,show((nw S (.cells 5 1 n false .nil)).lg []).log=[]from rfl,show((nw S (.cells 5 1 n false .nil)).lg [⟨S.next,big-1,big,false⟩]).log=[⟨S.next,big-1,big,false⟩]from rfl,qfm (pairs62 (by omega) _),qdk,qj0,r1,oB,faP1,oB,agU.ld1 r4 big2 (by decide) h6,oB];dsimp only
   rw[show cpP 1 (.oslice S.next 0 0 1) .nilslice U1=some (.int .i64 (.ofNat 0),U1)from rfl,oB,oB,faP1,oB];dsimp only;rw[k1,oB]
 . refine⟨.nil,?_,Nat.zero_le _,by omega,fun i b hb=>by simp at hb⟩
   rw[k3.keep S.next (by rw[r3]; show S.next<S.next+1; omega) (by omega),r2,qgo,iP rfl]
theorem Grow_run (h40:K 61=some (qaq 81)) (h62:K 62=none) (h39:K 39=none) (m:Nat) (h:Fresh S b N) (n:Nat) (h0:0<n) (hn:n<100000):∃U v,(ev E0 K (m+2)).f 39 [.ptr b 0,.int .i64 (n:Int)] S=some (.ret v,U)/\Bd U b [] N/\Grew (fun x=>x=b\/N<=x) S U:=by
 obtain⟨S1,a1,a2,a3⟩:=qhy h40 m h;obtain⟨ho,hb,hN,t,h1,h2,h3⟩:=id a2;obtain⟨U,b1,b2,b3⟩:=grow_run h62 m a2 n h0 hn;refine⟨U,.tuple [],rb39 h39 ?_,b2,(a3.mono fun x _ e=>.inl e).trans b3⟩;show F39 (ev E0 K (m+1)) qa3 (.ptr b 0) (.int .i64 (n:Int)) S=_;have hl:=qc5 ho (h1.ld1 ho big2 (by decide) h3) []
 have e0:qa5 E0 .lss 3 false true (.int .i64 (n:Int)) (.int .i64 0)=some (.bool false):=by
  rw[binV_ii,intsV_lss,dF (by omega)]
 rw[F39_eq,a1,callP_ret,e0,oB,ifK_bool,cF,R39_2_eq,n_k,oB,faP1,oB,qj0,hl,oB];dsimp only;rw[show capP .nilslice (onS (S1.lg [⟨b,1,1+1,false⟩]))=some (.int .i64 ((0:Nat):Int),S1.lg [])from rfl,oB,oB,faP1,oB];dsimp only;rw[qdk,qj0,hl,oB];dsimp only;rw[show lnS .nilslice (onS (S1.lg [⟨b,1,1+1,false⟩]))=some (.int .i64 ((0:Nat):Int),S1.lg [])from rfl,oB];dsimp only;rw[show qa5 E0 .sub 3 false false (.int .i64 ((0:Nat):Int)) (.int .i64 ((0:Nat):Int))=some (.int .i64 ((0:Nat):Int))from rfl,oB,qk5,dT h0,oB,qbq (by rfl),qdk,relog_onS ho,ifK_bool,cT,b1,callP_ret];rfl
end
section
variable {K:FuncId->Option KF} {S:St}
theorem ln_s (s:Bs) (S:St):qbw (sv s) S=some (.int .i64 (s.length:Int),S):=lnStr_sv ..
end
end Go.Proofs.YtafbipadnnmccaaDoor.W

namespace Go.Proofs.YtafbipadnnmccaaDoor.W
open Go.Proofs.YtafbipadnnmccaaDoor.Ev Go.RowKit
theorem i3eq (w k:Nat):qa5 E0 .eql 3 false true (.int .i64 (w:Int)) (.int .i64 (k:Int))=some (.bool (decide (w=k))):=by
 rw[binV_ii,intsV_eql]
 congr 2
 simp;omega
section
variable {K:FuncId->Option KF} {S:St}
end
section
variable {K:FuncId->Option KF} {S T U:St}
theorem minL (a b:Nat) (S:St):qki minV (.int .i64 (a:Int)) [.int .i64 (b:Int)] S=some (.int .i64 ((min a b:Nat):Int),S):=by
 rw[foldK_min]
 congr 3
 omega
end
end Go.Proofs.YtafbipadnnmccaaDoor.W

namespace Go.Proofs.YtafbipadnnmccaaDoor.W
open Go.Proofs.YtafbipadnnmccaaDoor.Ev Go.RowKit
def qd4 (c:UInt8) (new:Bs):Bs->Bs
 | []=>[]
 | x::t=>if x=c then new++qd4 c new t else x::qd4 c new t
theorem cnt_cons (c x:UInt8) (t:Bs):qie (x::t) c=qie t c+if x=c then 1 else 0:=by
 unfold qie;by_cases h:x=c
 . rw[iP h,List.filter_cons_of_pos (by simpa using h),List.length_cons]
 . rw[iN h,List.filter_cons_of_neg (by simpa using h),Nat.add_zero]
theorem rpl_none (c:UInt8) (new:Bs):∀t:Bs,qie t c=0->qd4 c new t=t
 | [],_=>rfl
 | x::t,h=>by
  rw[cnt_cons]at h;unfold qd4;by_cases hx:x=c
  . rw[iP hx]at h; omega
  . rw[iN hx]at h ⊢
    rw[rpl_none c new t (by omega)]
theorem qmx (c:UInt8) (new:Bs):∀t:Bs,(qd4 c new t).length+qie t c=t.length+qie t c*new.length
 | []=>by rw[show qie [] c=0 from rfl,Nat.zero_mul]; rfl
 | x::t=>by
  have ih:=qmx c new t;rw[cnt_cons];unfold qd4;by_cases hx:x=c
  . rw[iP hx,iP hx,lAq,List.length_cons,Nat.add_mul,Nat.one_mul]; omega
  . rw[iN hx,iN hx,List.length_cons,List.length_cons]
    simp only[Nat.add_zero];omega
theorem rpl_split (c:UInt8) (new:Bs):∀t:Bs,0<qie t c->∃p,p<t.length/\t.findIdx? (fun x=>x==c)=some p/\qd4 c new t=t.take p++new++qd4 c new (t.drop (p+1))/\qie (t.drop (p+1)) c+1=qie t c
 | [],h=>by rw[show qie [] c=0 from rfl]at h; omega
 | x::t,h=>by
  rw[cnt_cons]at h ⊢;by_cases hx:x=c
  . refine⟨0,by simp,by rw[List.findIdx?_cons,hx]; simp,?_,?_⟩
    . unfold qd4
      rw[iP hx];cases t<;>rfl
    . rw[iP hx]; rfl
  . rw[iN hx]at h ⊢
    obtain⟨p,h1,h2,h3,h4⟩:=rpl_split c new t (by omega);refine⟨p+1,by rw[List.length_cons]; omega,?_,?_,by rw[List.drop_succ_cons]; omega⟩
    . rw[List.findIdx?_cons,show(x==c)=false by simpa using hx,h2]; rfl
    . rw[show qd4 c new (x::t)=x::qd4 c new t by rw[qd4,iN hx],h3,List.take_succ_cons,List.drop_succ_cons]; rfl
structure KB (K:FuncId->Option KF):Prop where
 r:RefL K
 k61:K 61=some (qaq 81)
 k42:K 42=some (qd0 5)
 k17:K 17=none
 k43:K 43=none
 k63:K 63=none
 k64:K 64=none
 k39:K 39=none
 k40:K 40=none
 k62:K 62=none
section
variable {K:FuncId->Option KF} {S U T:St} {b N L:Nat} {acc:Bs}
theorem ix64_run (hK:KB K) (m:Nat) (t:Bs) (c:UInt8) (S:St):(ev E0 K (m+3)).f 64 [sv t,sv [c]] S=some (.ret (.int .i64 (ixB t c)),S):=by
 have h87:∀T,(ev E0 K (m+1)).f 87 [sv t,.int .u8 (c.toNat:Int)] T=some (.ret (.int .i64 (ixB t c)),T):=fun T=>rv87 hK.r (F87_spec (ev E0 K m) qa3 t c T)
 have h85:(ev E0 K (m+2)).f 85 [sv t,sv [c]] S=some (.ret (.int .i64 (ixB t c)),S):=rv85 hK.r (by
  show F85 (ev E0 K (m+1)) qa3 (sv t) (sv [c]) S=_;rw[F85_eq,lnStr_sv,oB];dsimp only;rw[eql0,oB,show decide (([c]:Bs).length=0)=false from rfl];simp only[qat,nF,oB,cT];rw[eqStr,oB,pickV_bool,cF,oB,ifK_bool];cases he:([c]:Bs)==t with
  | true=>
   rw[cT];have:t=[c]:=(beq_iff_eq.1 he).symm;subst this;show _=some (En.ret (V.int .i64 (ixB [c] c)),S);unfold ixB;rw[List.findIdx?_cons,beq_self_eq_true];rfl
  | false=>
   rw[cF,show qa5 E0 .eql 3 false true (.int .i64 ((([c]:Bs).length:Nat):Int)) (.int .i64 1)=some (.bool true)from rfl,oB,ifK_bool,cT,show ixS (sv [c]) (.int .i64 0)=some (.int .u8 (c.toNat:Int))from qf5 [c] .i64 0 (by simp),oB,h87,callP_ret])
 refine rb64 hK.k64 ?_;show F64 (ev E0 K (m+2)) qa3 (sv t) (sv [c]) S=_;rw[F64_eq,h85,callP_ret]
theorem ext84:E0.ext.get 84=some 3:=by kernel_rfl
theorem call84 (self:EV) (s:Bs) (c:UInt8) (S:St):qbo E0 self (.fn (.func 84) [] []) [sv s,.int .u8 (c.toNat:Int)] S=some (.ret (.int .i64 (qie s c:Int)),S):=by
 have h:=qln (E:=E0) (self:=self) ext84 [] [] [sv s,.int .u8 (c.toNat:Int)] S;have h1:extV 3 [sv s,.int .u8 (c.toNat:Int)] S=bif Nat.blt c.toNat 256 then some (.val (.int .i64 (.ofNat (countByte c.toNat s.length (qb0 s) 0))) S)else none:=extV_three _ _ _ _;rw[blt_true.2 c.toNat_lt,countByte_spec,Nat.zero_add,cT]at h1;rw[List.nil_append,List.append_nil,h1]at h;exact h
theorem cnt_run (hK:KB K) (m:Nat) (s:Bs) (c:UInt8) (S:St):(ev E0 K (m+1)).f 63 [sv s,sv [c]] S=some (.ret (.int .i64 (qie s c:Int)),S):=by
 refine rb63 hK.k63 ?_;show F63 (ev E0 K m) qa3 (sv s) (sv [c]) S=_;rw[F63_eq,lnStr_sv,oB];dsimp only;rw[show qa5 E0 .eql 3 false true (.int .i64 ((([c]:Bs).length:Nat):Int)) (.int .i64 0)=some (.bool false)from rfl,oB,ifK_bool,cF,lnStr_sv,oB];dsimp only;rw[show qa5 E0 .eql 3 false true (.int .i64 ((([c]:Bs).length:Nat):Int)) (.int .i64 1)=some (.bool true)from rfl,oB,ifK_bool,cT,show ixS (sv [c]) (.int .i64 0)=some (.int .u8 (c.toNat:Int))from qf5 [c] .i64 0 (by simp),oB,call84,callP_ret]
def BdX (S:St) (b N L:Nat) (acc:Bs):Prop:=acc.length<=L/\L<90000/\if L=0 then Fresh S b N else Bd S b acc N
theorem str_fresh (hK:KB K) (m:Nat) (h:Fresh S b N):∃U v,(ev E0 K (m+2)).f 40 [.ptr b 0,sv []] S=some (.ret v,U)/\Fresh U b N/\Grew (fun x=>x=b\/N<=x) S U:=by
 obtain⟨S1,a1,a2,a3⟩:=qhy hK.k61 (m) h;obtain⟨ho,hb,hN,t,h1,h2,h3⟩:=id a2;obtain⟨U,k1,k2,k3,k4⟩:=h1.st1 ho big2 (by decide) (i:=1) (by decide) .nilslice rfl rfl rfl;refine⟨U,.tuple [.int .i64 ((0:Nat):Int),.niliface],rb40 hK.k40 (?_:F40 (ev E0 K (m+1)) qa3 (.ptr b 0) (sv []) S=_),⟨k3.on.trans ho,hb,by omega,_,k2,by rw[setG _ _ _ _ (by decide)]; exact h2,setS _ _ _⟩,(a3.mono fun x _ e=>.inl e).trans (k3.mono fun x _ e=>.inl e)⟩;rw[F40_eq,a1,callP_ret,n_k,oB,faP1,oB,h1.ld1 ho big2 (by decide) h3,oB];dsimp only;rw[show apP 5 1 1 .nilslice (sv []) S1=some (.nilslice,S1)from rfl,oB,oB,faP1,oB];dsimp only;rw[k1,oB];dsimp only;rw[lnStr_sv,oB];rfl
theorem BdX.write (hK:KB K) (m:Nat) (h:BdX S b N L acc) (l:Bs) (hl:(acc++l).length<=L):∃U v,(ev E0 K (m+2)).f 40 [.ptr b 0,sv l] S=some (.ret v,U)/\BdX U b N L (acc++l)/\Grew (fun x=>x=b\/N<=x) S U:=by
 obtain⟨h1,h2,h3⟩:=h;rw[lAq]at hl;by_cases h0:L=0
 . rw[iP h0]at h3
   have e1:l=[]:=List.length_eq_zero_iff.1 (by omega);have e2:acc=[]:=List.length_eq_zero_iff.1 (by omega);subst e1 e2;obtain⟨U,v,k1,k2,k3⟩:=str_fresh hK m h3;exact⟨U,v,k1,⟨Nat.zero_le _,h2,by rw[iP h0]; exact k2⟩,k3⟩
 . rw[iN h0]at h3
   obtain⟨U,v,k1,k2,k3⟩:=str_run hK.k61 hK.k40 m h3 l (by omega);exact⟨U,v,k1,⟨by rw[lAq]; exact hl,h2,by rw[iN h0]; exact k2⟩,k3⟩
theorem BdX.told (hK:KB K) (m:Nat) (h:BdX S b N L acc) (hl:acc.length=L):∃U,(ev E0 K (m+1)).f 42 [.ptr b 0] S=some (.ret (sv acc),U)/\Grew (fun x=>N<=x) S U:=by
 obtain⟨h1,h2,h3⟩:=h;by_cases h0:L=0
 . rw[iP h0]at h3
   have e2:acc=[]:=List.length_eq_zero_iff.1 (by omega);subst e2;obtain⟨ho,hb,hN,t,k1,k2,k3⟩:=h3;refine⟨S,?_,Grew.refl _ _⟩;have hcell:ld S b 1=some (.nilslice,S):=k1.ld1 ho big2 (by decide) k3;rw[qeb hK.k42];unfold qd0;dsimp only;rw[Nat.beq_refl,cT,hcell,oB]
 . rw[iN h0]at h3
   exact told_run hK.k42 m h3 (fun e=>by rw[e]at hl; simp at hl; omega)
theorem grow_BdX (hK:KB K) (m:Nat) (h:Fresh S b N) (hL:L<90000):∃U v,(ev E0 K (m+2)).f 39 [.ptr b 0,.int .i64 (L:Int)] S=some (.ret v,U)/\BdX U b N L []/\Grew (fun x=>x=b\/N<=x) S U:=by
 rcases Nat.eq_zero_or_pos L with h0|h0
 . obtain⟨S1,a1,a2,a3⟩:=qhy hK.k61 m h
   obtain⟨ho,hb,hN,t,h1,h2,h3⟩:=id a2;refine⟨S1,.tuple [],rb39 hK.k39 ?_,⟨Nat.zero_le _,hL,by rw[iP h0]; exact a2⟩,a3.mono fun x _ e=>.inl e⟩;subst h0;show F39 (ev E0 K (m+1)) qa3 (.ptr b 0) (.int .i64 ((0:Nat):Int)) S=_;have hl:=qc5 ho (h1.ld1 ho big2 (by decide) h3) [];have e0:qa5 E0 .lss 3 false true (.int .i64 ((0:Nat):Int)) (.int .i64 0)=some (.bool false):=rfl;rw[F39_eq,a1,callP_ret,e0,oB,ifK_bool,cF,R39_2_eq,n_k,oB,faP1,oB,qj0,hl,oB];dsimp only;rw[show capP .nilslice (onS (S1.lg [⟨b,1,1+1,false⟩]))=some (.int .i64 ((0:Nat):Int),S1.lg [])from rfl,oB,oB,faP1,oB];dsimp only;rw[qdk,qj0,hl,oB];dsimp only;rw[show lnS .nilslice (onS (S1.lg [⟨b,1,1+1,false⟩]))=some (.int .i64 ((0:Nat):Int),S1.lg [])from rfl,oB];dsimp only;rw[show qa5 E0 .sub 3 false false (.int .i64 ((0:Nat):Int)) (.int .i64 ((0:Nat):Int))=some (.int .i64 ((0:Nat):Int))from rfl,oB,qk5,dF (by omega),oB,qbq (by rfl),qdk,relog_onS ho,ifK_bool,cF];rfl
 . obtain⟨U,v,k1,k2,k3⟩:=Grow_run hK.k61 hK.k62 hK.k39 m h L h0 (by omega)
   exact⟨U,v,k1,⟨Nat.zero_le _,hL,by rw[iN (by omega)]; exact k2⟩,k3⟩
end
section
variable {K:FuncId->Option KF} {S U T:St} {b N L:Nat}
theorem slo (s:Bs) (a:Nat) (h:a<=s.length) (S:St):qak E0 9 (sv s) (some (.int .i64 (a:Int))) none none S=some (sv (s.drop a),S):=by
 rw[qb9 und9 s (qcw .i64 h) (lR _),List.take_of_length_le (by rw[List.length_drop]; omega)]
theorem slohi (s:Bs) (a p:Nat) (h:a+p<=s.length) (S:St):qak E0 9 (sv s) (some (.int .i64 (a:Int))) (some (.int .i64 ((a+p:Nat):Int))) none S=some (sv ((s.drop a).take p),S):=by
 rw[qb9 und9 s (qe4 .i64 .i64 (by omega) h) h,show a+p-a=p by omega]
theorem rpl_loop (hK:KB K) (m:Nat) (s:Bs) (hs:s.length<90000) (c:UInt8) (new:Bs) (n:Nat) (hn:n<90000) (Nr:Nat) (nk:Ac->St->Rs) (ek:Nat->Ac->St->Rs) :
 ∀(k q:Nat) (S:St) (st i:Nat) (acc:Bs),k<q->i+k=n->st<=s.length->qie (s.drop st) c=k->BdX S b N L acc->acc.length+(qd4 c new (s.drop st)).length=L->
 ∃U st' acc',L43_52 (ev E0 K (m+3)) Nr nk ek q (sv s) (sv [c]) (sv new) (.ptr b 0) (.int .i64 (st:Int)) (.int .i64 (n:Int)) (.int .i64 (i:Int)) S=ek 0 (fr 104 [(0,sv s),(10,.ptr b 0),(11,.int .i64 ((st':Nat):Int))]) U/\st'<=s.length/\BdX U b N L acc'/\acc'++s.drop st'=acc++qd4 c new (s.drop st)/\Grew (fun x=>x=b\/N<=x) S U
 | k,0,S,st,i,acc,hq,_,_,_,_,_=>absurd hq (Nat.not_lt_zero _)
 | 0,q+1,S,st,i,acc,hq,hi,hst,hc,hX,hL=>by
  refine⟨S,st,acc,?_,hst,hX,by rw[rpl_none c new _ hc],Grew.refl _ _⟩;rw[L43_52_eq,qk5,dF (by omega),b_s,i_b,c_f]
 | k+1,q+1,S,st,i,acc,hq,hi,hst,hc,hX,hL=>by
  obtain⟨p,p1,p2,p3,p4⟩:=rpl_split c new (s.drop st) (by omega);rw[List.length_drop]at p1;have hdd:(s.drop st).drop (p+1)=s.drop (st+p+1):=by rw[List.drop_drop]; congr 1
  rw[hdd]at p3 p4;have hlen:(qd4 c new (s.drop st)).length=p+new.length+(qd4 c new (s.drop (st+p+1))).length:=by rw[p3,lAq,lAq,List.length_take,List.length_drop]; omega
  have htl:((s.drop st).take p).length=p:=by rw[List.length_take,List.length_drop]; omega
  have hix:ixB (s.drop st) c=((p:Nat):Int):=by unfold ixB; rw[p2]
  obtain⟨S1,v1,a1,a2,a3⟩:=hX.write hK (m+1) ((s.drop st).take p) (by rw[lAq,htl]; omega);obtain⟨S2,v2,b1,b2,b3⟩:=a2.write hK (m+1) new (by rw[lAq,lAq,htl]; omega);obtain⟨U,st',acc',c1,c2,c3,c4,c5⟩:=rpl_loop hK m s hs c new n hn Nr nk ek k q S2 (st+p+1) (i+1) (acc++(s.drop st).take p++new) (by omega) (by omega) (by omega) (by omega) b2 (by rw[lAq,lAq,htl]; omega);refine⟨U,st',acc',?_,c2,c3,by rw[c4,p3]; simp only[List.append_assoc],a3.trans (b3.trans c5)⟩;rw[L43_52_eq,qk5,dT (by omega),b_s,i_b,c_t,slo s st hst,b_s];dsimp only;rw[ix64_run hK m (s.drop st) c S,callP_ret,hix,addN (by omega),b_s,slohi s st p (by omega),b_s];dsimp only;rw[a1,callP_ret,b1,callP_ret,lnStr_sv,b_s];dsimp only;rw[List.length_singleton,addN (by omega),b_s,qff (by omega),b_s,c1]
theorem mul_len (c:UInt8) (new s:Bs) (hs:s.length<90000) (hnew:new.length<1000):∃t,qa5 E0 .sub 3 false false (.int .i64 (new.length:Int)) (.int .i64 (([c]:Bs).length:Int))=some t/\∃t',qa5 E0 .mul 3 false false (.int .i64 (qie s c:Int)) t=some t'/\qa5 E0 .add 3 false false (.int .i64 (s.length:Int)) t'=some (.int .i64 ((qd4 c new s).length:Int)):=by
 have h1:=qmx c new s;have h2:=cnt_le s c;have h3:qie s c*new.length<=90000*1000:=Nat.mul_le_mul (by omega) (by omega);have h4:((qie s c:Int))*((new.length:Int)-1)=((qie s c*new.length:Nat):Int)-(qie s c:Int):=by rw[Int.mul_sub,Int.mul_one,Int.natCast_mul]
 refine⟨.int .i64 ((new.length:Int)-1),?_,.int .i64 (((qie s c*new.length:Nat):Int)-(qie s c:Int)),?_,?_⟩
 . rw[binV_ii,intsV_sub,List.length_singleton,qdi (by omega) (by omega)]; rfl
 . rw[binV_ii,intsV_mul,h4,qdi (by omega) (by omega)]
 . rw[binV_ii,intsV_add,qdi (by omega) (by omega)]
   congr 2
   omega
theorem neq_c (c:UInt8) (new:Bs) (h:new≠[c]):qa5 E0 .eql 9 false false (sv [c]) (sv new)=some (.bool false):=by
 rw[eqStr]
 congr 2
 rw[beq_eq_false_iff_ne];exact fun e=>h e.symm
theorem qmy (hK:KB K) (m:Nat) (s:Bs) (hs:s.length<20000) (c:UInt8) (new:Bs) (hnew:new.length<3) (hne:new≠[c]) (ho:S.on=false):∃U,(ev E0 K (m+5)).f 17 [sv s,sv [c],sv new] S=some (.ret (sv (qd4 c new s)),U)/\Grew (fun _=>False) S U:=by
 have h1:=qmx c new s;have h2:=cnt_le s c;have h3:qie s c*new.length<=qie s c*2:=Nat.mul_le_mul_left _ (by omega)
 suffices h43:∃U,F43 (ev E0 K (m+3)) qa3 (sv s) (sv [c]) (sv new) (.int .i64 (-1)) S=some (.ret (sv (qd4 c new s)),U)/\Grew (fun _=>False) S U by
  obtain⟨U,k1,k2⟩:=h43;refine⟨U,rb17 hK.k17 ?_,k2⟩;show F17 (ev E0 K (m+4)) qa3 (sv s) (sv [c]) (sv new) S=_;rw[F17_eq,rb43 hK.k43 k1,callP_ret]
 have hF:=F43_eq (ev E0 K (m+3)) qa3 (sv s) (sv [c]) (sv new) (.int .i64 (-1)) S;rw[neq_c c new hne,b_s]at hF;simp only[g_f,b_s,c_t,nF]at hF;rw[show qa5 E0 .eql 3 false true (.int .i64 (-1)) (.int .i64 0)=some (.bool false)from rfl,b_s]at hF;simp only[p_b,c_f,b_s,i_b]at hF;rw[cnt_run hK (m+2) s c S,callP_ret,show(V.int .i64 0)=.int .i64 ((0:Nat):Int)from rfl,i3eq,b_s,i_b]at hF;by_cases h0:qie s c=0
 . rw[dT h0,c_t]at hF
   exact⟨S,by rw[hF,rpl_none c new s h0],Grew.refl _ _⟩
 rw[dF h0,c_f,show qa5 E0 .lss 3 false true (.int .i64 (-1)) (.int .i64 ((0:Nat):Int))=some (.bool true)from rfl,b_s]at hF;simp only[g_f,Bool.not_true,b_s,c_f,p_b,c_t,i_b]at hF;have hfr:=fresh_new (S:=S) ho;have hgn:=(qbp ho 81 2 (Tr.ofListFrom .nil [.nilptr,.nilslice] 0)).2.1;rw[qbs]at hF;generalize (nwP 81 2 (Tr.ofListFrom .nil [.nilptr,.nilslice] 0) S).2=Sn at hF hfr hgn;obtain⟨t,m1,t',m2,m3⟩:=mul_len c new s (by omega) (by omega);obtain⟨S1,v1,a1,a2,a3⟩:=grow_BdX hK (m+1) hfr (L:=(qd4 c new s).length) (by omega);obtain⟨S2,st',acc',b1,b2,b3,b4,b5⟩:=rpl_loop hK m s (by omega) c new (qie s c) (by omega) qa3 (qld (ev E0 K (m+3)) qa3 (fun a s=>qb8 [8] a fun a=>(qbu E0 (ev E0 K (m+3)) Tryd.f43) a s) qav) (exB 0 (qld (ev E0 K (m+3)) qa3 (fun a s=>qb8 [8] a fun a=>(qbu E0 (ev E0 K (m+3)) Tryd.f43) a s) qav) qav) (qie s c) qa3 S1 0 0 [] (by unfold qa3; omega) (by omega) (Nat.zero_le _) rfl a2 (by rw[List.drop_zero]; simp);rw[List.drop_zero,List.nil_append]at b4;have hlen:=congrArg List.length b4;rw[lAq]at hlen;obtain⟨S3,v3,d1,d2,d3⟩:=b3.write hK (m+1) (s.drop st') (by rw[lAq]; omega);obtain⟨S4,e1,e2⟩:=d2.told hK (m+2) (by rw[b4]);rw[lnStr_sv,b_s]at hF;dsimp only at hF;rw[lnStr_sv,b_s]at hF;dsimp only at hF;rw[lnStr_sv,b_s]at hF;dsimp only at hF;rw[m1,b_s,m2,b_s,m3,b_s,a1,callP_ret,lnStr_sv,b_s]at hF;dsimp only at hF
 rw[List.length_singleton,show qa5 E0 .gtr 3 false true (.int .i64 ((1:Nat):Int)) (.int .i64 ((0:Nat):Int))=some (.bool true)from rfl,b_s,i_b,c_t,b1,exB_same,R43_40_eq,slo s st' b2,b_s]at hF;dsimp only at hF;rw[d1,callP_ret,e1,callP_ret,b4]at hF;refine⟨S4,hF,qd8 ((hgn.mono fun x _ h=>h.elim).trans (((a3.trans (b5.trans d3)).mono fun x _ h=>(by omega:S.next<=x)).trans (e2.mono fun x _ h=>by omega)))⟩
end
open Go.Proofs
set_option maxHeartbeats 1000000 in
set_option maxRecDepth 100000 in
theorem copyUsed (b o:Nat) (w:World) (h0:w.cell? ⟨b,o,none⟩=some (.pointer (some ⟨b,o,none⟩))) :
 Calls Tryd.prog 61 #[.pointer (some ⟨b,o,none⟩)] w fun e w'=>e=.returned (.tuple #[])/\w'=w:=by
 have hj:(Tryd.prog.info? 81).map (·.size)=some 2:=by kernel_rfl
 obtain⟨j,hj,_⟩:=Option.map_eq_some_iff.1 hj
 go_enter Tryd.func61,Tryd.ntmps61
 go_wp2
 rw[Lib.run_neq_ptr_same w _ Tryd.underlying78 hj]
 go_wp2
 go_end0
 exact⟨rfl,rfl⟩
set_option maxHeartbeats 1000000 in
set_option maxRecDepth 100000 in
theorem copyFresh (b o n:Nat) (w:World) (h0:w.cell? ⟨b,o,none⟩=some (.pointer none)) (hsh:w.shape? b=some (81,n)) (ho:o<n) (hli:liesAt Tryd.prog Tryd.prog.depth 81 (n/Tryd.prog.cellsOf 81) o 81 1=true) (hfz:w.frozen? ⟨b,o,none⟩=false) :
 Calls Tryd.prog 61 #[.pointer (some ⟨b,o,none⟩)] w fun e w'=>e=.returned (.tuple #[])/\w'=w.setCell ⟨b,o,none⟩ (.pointer (some ⟨b,o,none⟩)):=by
 have hj:(Tryd.prog.info? 81).map (·.size)=some 2:=by kernel_rfl
 obtain⟨j,hj,hjs⟩:=Option.map_eq_some_iff.1 hj
 go_enter Tryd.func61,Tryd.ntmps61
 go_wp2
 rw[Lib.run_to_unsafe w ⟨b,o,none⟩ Tryd.underlying78 Tryd.underlying100 hj (by rw[hjs]; decide) hsh ho];simp only[Result.andThen];rw[Oper.upon_value]
 go_wp2
 rw[run_callFunc_extern Tryd.func81 (by kernel_rfl) (by kernel_rfl) (by kernel_rfl) (e:=Extern.AbiNoEscape.same) (by kernel_rfl)];rw[Lib.run_noEscape];simp only[Result.andThen];rw[Oper.upon_value]
 go_wp2
 rw[Lib.run_from_unsafe w ⟨b,o,none⟩ Tryd.underlying100 Tryd.underlying78 hj hsh hli];simp only[Result.andThen];rw[Oper.upon_value]
 go_wp2
 go_end0
 exact⟨rfl,rfl⟩
theorem build81:BuildOk Tryd.prog 81 61:=
 ⟨copyUsed,fun b o n w h hsh ho hn hf=>copyFresh b o n w h hsh (by omega) (lies_at (d:=2*(Tryd.prog.types.size+Made.depth)+1) rfl (by kernel_rfl) ho hn) hf⟩
theorem string42:StringOk Tryd.prog 5 42:=stringOk_of (ρ:=Tryd.lays105_ren) {Tryd.lays105 with} Tryd.Builder_Extra_105
def KP:=knAdd (knAdd KX 61 (qaq 81)) 42 (qd0 5)
theorem okP:KnOk Tryd.prog E0 KP:=(okX.add (copyCheck_well build81)).add (string_well string42)
theorem lgP:Lg.KnLoc KP:=(lgX.add 61 fun _=>kfCopyCheck_lg _ _).add 42 fun _=>kfString_lg _ _
theorem refP:RefL KP:=by constructor<;>rfl
theorem knP:KnX KP:=⟨refP,rfl,rfl⟩
theorem kbP:KB KP:=⟨refP,rfl,rfl,rfl,rfl,rfl,rfl,rfl,rfl,rfl⟩
end Go.Proofs.YtafbipadnnmccaaDoor.W
end
