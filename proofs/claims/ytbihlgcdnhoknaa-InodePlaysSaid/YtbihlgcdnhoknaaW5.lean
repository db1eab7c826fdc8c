/-
  WHAT THE FUNCTIONS COME TO: each is read by the evaluator,printed,and told as a function of data,part 5 of 14 (no condition).
-/
import Derived.Test.YtbihlgcdnhoknaaW4
import Derived.WalkKit
import Derived.ProofKit
import Derived.OpenShut
import Derived.Carry
import Derived.ChangeMaps5
namespace Go.Proofs.Ytbihlgcdnhoknaa.W
open Go.Proofs.Ytbihlgcdnhoknaa.Ev
section
variable {S U:St} {b r:Nat} {T:Tab}
theorem TabAt.delName (h:TabAt S b r T) {d:Int} {p:Nod} (hp:T.get d=some p) {m:Nat} (hm:p.ino.map=some m) {a:List UInt8} {i:Int} (hl:lkS a p.ino.ents=some i):∃U,(∀l,qbt E0 63 (.map m) (sv a) (stt S l)=some (stt U (l.map fun l=>⟨m,0,big,true⟩::⟨m,0,big,false⟩::l)))/\TabAt U b r (T.upd d (qbj (qa9 a p.ino.ents)))/\Grew (fun x=>x=m) S U/\U.next=S.next:=by
 obtain⟨es,c,h1,h2⟩:=del_str h.on (h.em p (qar hp).1 m hm) a hl;exact⟨_,h2,h.putE hp hm h1,qan _ _,rfl⟩
theorem TabAt.delNode (h:TabAt S b r T) {i:Int} {p:Nod} (hp:T.get i=some p):∃U,qbt E0 66 (.map r) (.int .i64 i) S=some U/\TabAt U b r (T.del i)/\Grew (fun x=>x=r) S U/\U.next=S.next:=by
 obtain⟨es,c,h1,h2⟩:=del_int h.on und66 h.nm i (w:=.ptr p.box 0) (by rw[lkI_kvN,show qhm i T.nodes=some p from hp]; rfl);exact⟨_,h2 none,h.putD i h1,qan _ _,rfl⟩
def qey (T:Tab) (d:Int) (a:List UInt8):Int:=if qf9 T d=0 then(match T.find d a with
 | none=>5
 | some i=>match T.get i with
  | none=>0
  | some q=>if q.ino.ents=[]then 0 else 20)else qf9 T d
theorem qqb (h:TabAt S b r T) (m:Nat) (d:Int) (a:List UInt8) {p q:Nod} {i:Int} {mp:Nat} (hd:qf9 T d=0) (hp:T.get d=some p) (hm:p.ino.map=some mp) (hf:lkS a p.ino.ents=some i) (hq:T.get i=some q) (hqe:q.ino.ents=[]) (hl:-qaj<q.ino.links/\q.ino.links<qaj) :
 ∃U x0,Cap U x0 23 (.ptr b 0)/\TabAt U b r ((T.upd d (qbj (qa9 a p.ino.ents))).upd i (addL (-1)))/\Grew (Own b r T) S U/\¬Own b r T x0/\S.next<=x0/\F14 (ev E0 KD (m+4)) qa4 (.ptr b 0) (.int .i64 d) (sv a) S =
  ifK (.bool (decide (q.ino.links+-1=0))) (
(ld1 (.ptr x0 0) U).bind fun p68=>
(qa2 p68.1).bind fun t69=>
(faP 4 false 1 t69).bind fun t70=>
(ld1 t70 p68.2).bind fun p71=>
(vu (qbt E0 66 p71.1 (.int .i64 i) p71.2)).bind fun p73=>
(ld1 (.ptr x0 0) p73.2).bind fun p74=>
(qa2 p74.1).bind fun t75=>
(faP 2 true 2 t75).bind fun t76=>
(faP 0 false 1 t76).bind fun t77=>
(ld1 t77 p74.2).bind fun p78=>
(qa6 E0 .sub 3 false true p78.1 (.int .i64 1)).bind fun t79=>
(qa2 p74.1).bind fun t80=>
(faP 2 true 2 t80).bind fun t81=>
(faP 0 false 1 t81).bind fun t82=>
(stP 1 t82 t79 p78.2).bind fun p83=>
(ld1 (.ptr x0 0) (onS p83.2)).bind fun p84=>
(qa2 p84.1).bind fun t85=>
(faP 2 true 2 t85).bind fun t86=>
(faP 1 false 1 t86).bind fun t87=>
(ld1 t87 (onS p84.2)).bind fun p88=>
(qa2 (.ptr q.box 0)).bind fun t90=>
(faP 0 true 4 t90).bind fun t91=>
(faP 2 false 1 t91).bind fun t92=>
(ld1 t92 (onS p88.2)).bind fun p93=>
(qeb p93.1 (onS p93.2)).bind fun p94=>
(qa6 E0 .sub 3 false false p88.1 p94.1).bind fun t95=>
(qa2 p84.1).bind fun t96=>
(faP 2 true 2 t96).bind fun t97=>
(faP 1 false 1 t97).bind fun t98=>
(stP 1 t98 t95 (onS p94.2)).bind fun p99=>
qgx [(0,[9,10]),(4,[9,10])] p83.2 [p84.2.log,[],[],[],p88.2.log,[],[],[],[],p93.2.log,p94.2.log,[],[],[],[],p99.2.log] p99.2 fun S100=>
some (.ret (.int .i64 0),S100)) (some (.ret (.int .i64 0),U)):=by
 have hfind:T.find d a=some i:=by unfold Tab.find; rw[hp]; exact hf
 have hid:i≠d:=fun e=>by
  rw[e,hp]at hq;simp only[oS]at hq;rw[hq,hqe]at hf;cases hf
 obtain⟨S1,S2,S3,s1,s2,s3,c1,c2,c3,g3,n3⟩:=qff h.on 23 3 9 (oneP b 0) (qb4 .i64 d) (qfx a);have h3:=h.grewF g3;obtain⟨S4,a1,a2,a3,a4,a5⟩:=qlw (m+3) h3.on b d;have h4:=h3.grewF a4;obtain⟨S5,b1,b2,b3,b4,b5,b6⟩:=qov (m+3) h4.on b d a;have h5:=h4.grewF b5;have g45:=a4.trans b5;have he0:qdr T d a=0:=by unfold qdr; rw[hfind]; rfl
 have hqe':(if q.ino.ents=[]then(0:Int)else 20)=0:=iP hqe
 have all:AsksAll S5 (m+3) [.fn (.func 27) [.ptr b 0] [],.fn (.func 57) [] [.ptr S3.next 0,.ptr (S3.next+1) 0],.fn (.func 63) [] [.ptr S4.next 0,.ptr (S4.next+1) 0,.ptr (S4.next+2) 0],.fn (.func 36) [] [.ptr S.next 0,.ptr (S.next+1) 0,.ptr (S.next+2) 0]] (qcf [0,qf9 T d,qdr T d a,if q.ino.ents=[]then(0:Int)else 20]):=
  qae (qcc (m+1) b) (qae (qeo h5 (m+1) (a2.grew b5) (a3.grew b5)) (qae (qhj h5 m b2 b3 b4) (qae (qot h5 m hfind hq (by rw[hqe]; decide) (c1.grew g45) (c2.grew g45) (c3.grew g45)) qf7)))
 rw[hd,he0,hqe',show qcf [0,0,0,0]=0 from rfl]at all
 obtain⟨R,U,q1,q2,q3,q4⟩:=asked h5.on (m+3) _ (fun v hv=>by
  simp only[List.mem_cons,List.not_mem_nil,or_false]at hv
  rcases hv with rfl|rfl|rfl|rfl<;>exact oneF _ _ _) (by show 4<1000000; decide) all
 obtain⟨l2,q2'⟩:=qe7 (m+3) q2;have gU:=g45.trans q3;have hU:=(h3.grewF gU).same (U:=atS U S3) rfl rfl rfl;have gA:=qdm gU h3.on;have d1:=c1.grew gA;have d2:=c2.grew gA;have d3:=c3.grew gA;have hgU:Grew (Own b r T) S (atS U S3):=(g3.trans gA).mono fun _ _ h=>h.elim;generalize hA:atS U S3=A at hU gA d1 d2 d3 hgU;obtain⟨B,t1,t2,t3,t4⟩:=hU.delName hp hm hf;have ht2:=t2.same (U:=atS B A) rfl rfl rfl;have gB:=qdm t3 hU.on;have hmp:=h.hm p (qar hp).1 mp hm;have f1:Cap (atS B A) S.next 23 (.ptr b 0):=⟨d1.bx.grew d1.lt (fun e=>by omega) gB,Nat.lt_of_lt_of_le d1.lt gB.next⟩
 have hq':(T.upd d (qbj (qa9 a p.ino.ents))).get i=some q:=by rw[qba hid]; exact hq
 generalize hC:atS B A=C at ht2 gB f1;obtain⟨D,u1,u2,u3,u4⟩:=ht2.setLinks hq' (-1);have hbx:=h.hn q (qar hq).1;have k1:Cap D S.next 23 (.ptr b 0):=⟨f1.bx.grew f1.lt (fun e=>by omega) u3,Nat.lt_of_lt_of_le f1.lt u3.next⟩
 have hq2:=qcd (f:=addL (-1)) hq';refine⟨D,S.next,k1,u2,(hgU.trans (gB.mono fun x _ hx=>hx▸qpm hp hm)).trans (u3.mono fun x _ hx=>hx▸qpl hq),?_,lR _,?_⟩
 . rintro (e|e|⟨x,hx,e|e⟩)
   . have:=h.hb; omega
   . have:=h.hr; omega
   . have:=h.hn x hx; omega
   . have:=h.hm x hx _ e; omega
 . rw[F14_eq,s1,oB]
   dsimp only;rw[s2,oB];dsimp only;rw[s3,oB];dsimp only;rw[c1.ldL h3.on,oB];dsimp only;rw[qa1,c1.ldL h3.on,oB];dsimp only;rw[qa1,c2.ldL h3.on,oB];dsimp only;rw[qa1,show(ev E0 KD (m+4)).f 28 [.ptr b 0,.int .i64 d] (onS S3)=_ from a1 (some []),qa7];rw[show onS (stt S4 (Option.map _ (some [])))=onS S4 from rfl,(c1.grew a4).ldL h4.on,oB];dsimp only;rw[qa1,(c2.grew a4).ldL h4.on,oB];dsimp only;rw[qa1,(c3.grew a4).ldL h4.on,oB];dsimp only;rw[qa1,show(ev E0 KD (m+4)).f 37 [.ptr b 0,.int .i64 d,sv a] (onS S4)=_ from b1 (some []),qa7];rw[show bsP 72 1 4 (Ev.one .nilfn) [(0,(.fn (.func 27) [.ptr b 0] [])),(1,.fn (.func 57) [] [.ptr S3.next 0,.ptr (S3.next+1) 0]),(2,.fn (.func 63) [] [.ptr S4.next 0,.ptr (S4.next+1) 0,.ptr (S4.next+2) 0]),(3,.fn (.func 36) [] [.ptr S.next 0,.ptr (S.next+1) 0,.ptr (S.next+2) 0])] (onS (stt S5 (Option.map _ (some []))))=_ from q1 (some []),oB];dsimp only;rw[show(ev E0 KD (m+4)).f 26 _ (onS (stt R (Option.map _ (some []))))=_ from q2',qa7];rw[qfg (S.next+3) [0,2,3,5,6,7] [4,8]]
   rotate_left
   . rfl
   . exact⟨⟨⟨rfl,by show S.next<S.next+3; omega⟩,trivial⟩,⟨⟨rfl,by show S.next<S.next+3; omega⟩,trivial⟩,⟨⟨rfl,by show S.next+1<S.next+3; omega⟩,trivial⟩,⟨⟨rfl,by show S.next<S.next+3; omega⟩,trivial⟩,⟨⟨rfl,by show S.next+1<S.next+3; omega⟩,trivial⟩,⟨⟨rfl,by show S.next+2<S.next+3; omega⟩,trivial⟩,trivial⟩
   . exact⟨⟨by show S.next+3<=S3.next+1; omega,by show S.next+3<=S3.next; omega,trivial⟩,⟨by show S.next+3<=S4.next+2; omega,by show S.next+3<=S4.next+1; omega,by show S.next+3<=S4.next; omega,trivial⟩,trivial⟩
   rw[qa1,qbf h3.on,hA,neq27,oB,ifK_bool];simp only[beq_self_eq_true,Bool.not_true,cF];rw[d1.ld hU.on,oB];dsimp only;rw[d2.ld hU.on,oB];dsimp only;rw[d3.ld hU.on,oB];dsimp only;rw[show ev E0 KD (m+4)=ev E0 KD (m+2+2)from rfl,qj7 hU (m+2) d a,callP_ret,extr0,oB,extr1,oB,hfind];rw[d1.ldL hU.on,oB];dsimp only;rw[qc5,oB,qax,oB,qa1,Nat.zero_add,hU.ldL (v:=.map r) rfl,oB];dsimp only;rw[qa1,d2.ldL hU.on,oB];dsimp only;rw[qa1,qft hU,oB,hp];simp only[qjw,qc5,qax,oB,Nat.zero_add,qa1];rw[hU.ndL hp (i:=d) (k:=5) (v:=mapV p.ino.map) rfl,oB];dsimp only;rw[qa1,d3.ldL hU.on,oB];dsimp only;rw[qa1,hm];unfold mapV;dsimp only;rw[show qbt E0 63 (.map mp) (sv a) (onS A)=_ from t1 (some [])];show((some (V.tuple [],B.lg _)).bind _)=_;rw[oB];dsimp only;rw[qd6 (by rfl),qfb hU.on,hC,f1.ld ht2.on,oB];dsimp only;simp only[qc5,qax,oB,Nat.zero_add];rw[ht2.ld (i:=4) (v:=.map r) rfl,oB];dsimp only;rw[show(V.int .i64 ((some i).getD 0))=.int .i64 i from rfl,qer ht2 i,oB,hq'];simp only[qjw,qc5,qax,oB,Nat.zero_add];rw[ht2.nd1 hq' (k:=3) (v:=.int .i64 q.ino.links) rfl,oB];dsimp only;rw[subI 3 false true _ _ hl (by unfold qaj; omega),oB,show q.ino.links-1=q.ino.links+-1 from rfl,u1,oB];dsimp only;rw[u2.nd1 hq2 (k:=3) (v:=.int .i64 (q.ino.links+-1)) rfl,oB];dsimp only;rw[qbl,oB]
theorem unlink_more (h:TabAt S b r T) (m:Nat) (d:Int) (a:List UInt8) {p q:Nod} {i:Int} {mp:Nat} (hd:qf9 T d=0) (hp:T.get d=some p) (hm:p.ino.map=some mp) (hf:lkS a p.ino.ents=some i) (hq:T.get i=some q) (hqe:q.ino.ents=[]) (hl:-qaj<q.ino.links/\q.ino.links<qaj) (h1:q.ino.links≠1) :
 ∃U,(ev E0 KD (m+5)).f 14 [.ptr b 0,.int .i64 d,sv a] S=some (.ret (.int .i64 0),U)/\TabAt U b r ((T.upd d (qbj (qa9 a p.ino.ents))).upd i (addL (-1)))/\Grew (Own b r T) S U:=by
 obtain⟨U,x0,_,k2,k3,_,_,k4⟩:=qqb h m d a hd hp hm hf hq hqe hl;refine⟨U,rd14 ?_,k2,k3⟩;rw[show decide (q.ino.links+-1=0)=false from dF (by omega),ifK_bool]at k4;exact k4
theorem unlink_last (h:TabAt S b r T) (m:Nat) (d:Int) (a:List UInt8) {p q:Nod} {i:Int} {mp:Nat} (hd:qf9 T d=0) (hp:T.get d=some p) (hm:p.ino.map=some mp) (hf:lkS a p.ino.ents=some i) (hq:T.get i=some q) (hqe:q.ino.ents=[]) (h1:q.ino.links=1)
 (hT:Fits T) (hd2:q.ino.data.length<1000000) :
 ∃U,(ev E0 KD (m+5)).f 14 [.ptr b 0,.int .i64 d,sv a] S=some (.ret (.int .i64 0),U)/\TabAt U b r {((T.upd d (qbj (qa9 a p.ino.ents))).upd i (addL (-1))).del i with ui:=T.ui-1,ub:=T.ub-(q.ino.data.length:Int)}/\Grew (Own b r T) S U:=by
 obtain⟨U,x0,k1,k2,k3,kO,kN,k4⟩:=qqb h m d a hd hp hm hf hq hqe (by rw[h1]; unfold qaj; omega);rw[show decide (q.ino.links+-1=0)=true from dT (by omega),ifK_bool]at k4;simp only[cT]at k4
 have hid:i≠d:=fun e=>by
  rw[e,hp]at hq;simp only[oS]at hq;rw[hq,hqe]at hf;cases hf
 have hq':((T.upd d (qbj (qa9 a p.ino.ents))).upd i (addL (-1))).get i=some {q with ino:=addL (-1) q.ino}:=qcd (by rw[qba hid]; exact hq);obtain⟨V1,v1,v2,v3,v4⟩:=k2.delNode hq';obtain⟨W,w1,w2,w3,w4⟩:=v2.setT (T':={((T.upd d (qbj (qa9 a p.ino.ents))).upd i (addL (-1))).del i with ui:=T.ui-1}) rfl 2 (by decide) (qb4 .i64 (T.ui-1)) (set6_2 ..);obtain⟨Y,y1,y2,y3,y4⟩:=w2.setT (T':={((T.upd d (qbj (qa9 a p.ino.ents))).upd i (addL (-1))).del i with ui:=T.ui-1,ub:=T.ub-(q.ino.data.length:Int)}) rfl 3 (by decide) (qb4 .i64 (T.ub-(q.ino.data.length:Int))) (set6_3 ..);obtain⟨lY,y1'⟩:=stP_lg w2.on y1;have hx:x0≠b/\x0≠r:=⟨fun e=>kO (.inl e),fun e=>kO (.inr (.inl e))⟩
 have c2:Cap V1 x0 23 (.ptr b 0):=⟨k1.bx.grew k1.lt (fun e=>hx.2 e) v3,Nat.lt_of_lt_of_le k1.lt v3.next⟩
 have c3:Cap W x0 23 (.ptr b 0):=⟨c2.bx.grew c2.lt (fun e=>hx.1 e) w3,Nat.lt_of_lt_of_le c2.lt w3.next⟩
 have hqb:Bx U q.box 65 (addL (-1) q.ino).cells:=k2.nd _ (qar hq').1;have hqn:=k2.hn _ (qar hq').1;have hqo:=k2.nb _ (qar hq').1;have hqb2:Bx W q.box 65 (addL (-1) q.ino).cells:=(hqb.grew hqn (fun e=>hqo.2 e) v3).grew (Nat.lt_of_lt_of_le hqn v3.next) (fun e=>hqo.1 e) w3;have hqd:ld1 (.ptr q.box 2) (onS W)=some (sv q.ino.data,W.lg [⟨q.box,2,3,false⟩]):=Bx6.ldL w2.on hqb2 big6 rfl;refine⟨atS Y W,rd14 (k4.trans ?_),y2.same rfl rfl rfl,((k3.trans (v3.mono fun x _ hx=>.inr (.inl hx))).trans (w3.mono fun x _ hx=>.inl hx)).trans ((qdm y3 w2.on).mono fun x _ hx=>.inl hx)⟩;rw[k1.ld k2.on,oB];dsimp only;rw[qc5,oB,qax,oB,Nat.zero_add,k2.ld (v:=.map r) rfl,oB];dsimp only;rw[v1];show((some (V.tuple [],V1)).bind _)=_;rw[oB];dsimp only;rw[c2.ld v2.on,oB];dsimp only;simp only[qc5,qax,oB,Nat.zero_add,Nat.add_zero];rw[v2.ld (i:=2) (v:=.int .i64 T.ui) rfl,oB];dsimp only;rw[subI 3 false true _ _ hT.ui (by unfold qaj; omega),oB,w1,oB];dsimp only;rw[c3.ldL w2.on,oB];dsimp only;simp only[qc5,qax,oB,Nat.zero_add,qa1];rw[w2.ldL (i:=2+1) (v:=.int .i64 T.ub) rfl,oB];dsimp only;rw[qa1,hqd,oB];dsimp only;rw[lnStr_sv,oB];dsimp only;rw[subI 3 false false _ _ hT.ub (by unfold qaj; omega),oB,qik,qa1];rw[show stP 1 (.ptr b (2+1)) (.int .i64 (T.ub-(q.ino.data.length:Int))) (onS W)=_ from y1',oB];dsimp only;rw[qd6 (by rfl),qfb w2.on]
end
section
variable {S U:St} {b r:Nat} {T:Tab}
def Tab.add (T:Tab) (p:Nod):Tab:={T with nodes:=T.nodes++[p]}
def qdo (T:Tab) (p:Nod) (d:Int) (kv:List (List UInt8×Int)) (k:Int):Tab:={(T.add p).upd d (qbj kv)with ui:=T.ui+1,ub:=T.ub+k}
theorem TabAt.addNode (h:TabAt S b r T) (p:Nod) (hk:T.get p.no=none) (hbx:Bx S p.box 65 p.ino.cells) (hmp:∀m,p.ino.map=some m->MapAt S m (kvS p.ino.ents)) (hno:p.ino.map=none->p.ino.ents=[])
 (N:Nat) (hN:b<N/\r<N/\∀q∈T.nodes,q.box<N/\∀m,q.ino.map=some m->m<N) (hp1:N<=p.box/\p.box<S.next) (hp2:∀m,p.ino.map=some m->N<=m/\m<S.next/\m≠p.box) :
 ∃U,(∀l,qam E0 66 (.map r) (.int .i64 p.no) (.ptr p.box 0) (stt S l)=some (stt U (l.map fun l=>⟨r,0,big,true⟩::⟨r,0,big,false⟩::l)))/\TabAt U b r (T.add p)/\Grew (fun x=>x=r) S U/\U.next=S.next:=by
 obtain⟨es,c,h1,h2⟩:=upd_int h.on und66 h.nm p.no (.ptr p.box 0);rw[qmd _ _ _ (by rw[lkI_kvN,show qhm p.no T.nodes=none from hk]; rfl)]at h1;exact⟨_,h2,h.putA p (fun q hq=>qp4 hk q hq) hbx hmp hno N hN hp1 hp2 h1,qan _ _,rfl⟩
theorem made_run (h:TabAt S b r T) (m:Nat) {x6 x11:Nat} (c6:Cap S x6 23 (.ptr b 0)) (a:List UInt8) {data:List UInt8} (c11:Cap S x11 9 (sv data)) (hd:data.length<1000000) (hT:Fits T) (p:Nod) (hk:T.get p.no=none) (hlast:T.last=p.no) (hbx:Bx S p.box 65 p.ino.cells) (hmp:∀m,p.ino.map=some m->MapAt S m (kvS p.ino.ents)) (hno:p.ino.map=none->p.ino.ents=[])
 (N:Nat) (hN:b<N/\r<N/\∀q∈T.nodes,q.box<N/\∀m,q.ino.map=some m->m<N) (hp1:N<=p.box/\p.box<S.next) (hp2:∀m,p.ino.map=some m->N<=m/\m<S.next/\m≠p.box) (hx6:N<=x6/\x6≠p.box) (hx11:N<=x11/\x11≠p.box)
 {d:Int} {q:Nod} {mq:Nat} (hq:T.get d=some q) (hm:q.ino.map=some mq) (nk:Ac->St->Rs) (ek:Nat->Ac->St->Rs) :
 ∃U,qo3 (ev E0 KD m) qa4 nk ek (fr 106 [(1,.int .i64 d),(2,sv a),(6,.ptr x6 0),(11,.ptr x11 0),(16,.ptr p.box 0)]) S=some (.ret (.tuple [.int .i64 p.no,.int .i64 0]),U)/\
  TabAt U b r (qdo T p d (qb1 a p.no q.ino.ents) data.length)/\Grew (Own b r T) S U:=by
 obtain⟨V1,v1,v2,v3,v4⟩:=h.addNode p hk hbx hmp hno N hN hp1 hp2;have ht1:=v2.same (U:=atS V1 S) rfl rfl rfl;have gA:=qdm v3 h.on;have c6a:Cap (atS V1 S) x6 23 (.ptr b 0):=⟨c6.bx.grew c6.lt (fun e=>by omega) gA,Nat.lt_of_lt_of_le c6.lt gA.next⟩
 have c11a:Cap (atS V1 S) x11 9 (sv data):=⟨c11.bx.grew c11.lt (fun e=>by omega) gA,Nat.lt_of_lt_of_le c11.lt gA.next⟩
 have hq1:(T.add p).get d=some q:=by
  show qhm d (T.nodes++[p])=_;rw[qhn,show qhm d T.nodes=some q from hq]
 have hmq:=(hN.2.2 q (qar hq).1).2 mq hm;generalize hA:atS V1 S=A at ht1 gA c6a c11a;obtain⟨V2,w1,w2,w3,w4⟩:=ht1.setName hq1 hm a p.no;have ht2:=w2.same (U:=atS V2 A) rfl rfl rfl;have gB:=qdm w3 ht1.on;have c6b:Cap (atS V2 A) x6 23 (.ptr b 0):=⟨c6a.bx.grew c6a.lt (fun e=>by omega) gB,Nat.lt_of_lt_of_le c6a.lt gB.next⟩
 have c11b:Cap (atS V2 A) x11 9 (sv data):=⟨c11a.bx.grew c11a.lt (fun e=>by omega) gB,Nat.lt_of_lt_of_le c11a.lt gB.next⟩
 generalize hB:atS V2 A=B at ht2 gB c6b c11b;obtain⟨C,y1,y2,y3,y4⟩:=ht2.setT (T':={(T.add p).upd d (qbj (qb1 a p.no q.ino.ents))with ui:=T.ui+1}) rfl 2 (by decide) (qb4 .i64 (T.ui+1)) (set6_2 ..);have c6c:Cap C x6 23 (.ptr b 0):=⟨c6b.bx.grew c6b.lt (fun e=>by omega) y3,Nat.lt_of_lt_of_le c6b.lt y3.next⟩
 have c11c:Cap C x11 9 (sv data):=⟨c11b.bx.grew c11b.lt (fun e=>by omega) y3,Nat.lt_of_lt_of_le c11b.lt y3.next⟩
 obtain⟨D,z1,z2,z3,z4⟩:=y2.setT (T':=qdo T p d (qb1 a p.no q.ino.ents) data.length) rfl 3 (by decide) (qb4 .i64 (T.ub+(data.length:Int))) (set6_3 ..);obtain⟨lz,z1'⟩:=stP_lg y2.on z1;have ht4:=z2.same (U:=atS D C) rfl rfl rfl;have gD:=qdm z3 y2.on;have c6d:Cap (atS D C) x6 23 (.ptr b 0):=⟨c6c.bx.grew c6c.lt (fun e=>by omega) gD,Nat.lt_of_lt_of_le c6c.lt gD.next⟩
 refine⟨atS D C,?_,ht4,(((gA.mono fun x _ hx=>.inr (.inl hx)).trans (gB.mono fun x _ hx=>hx▸qpm hq hm)).trans (y3.mono fun x _ hx=>.inl hx)).trans (gD.mono fun x _ hx=>.inl hx)⟩;rw[R8_45_eq,c6.ldL h.on,oB];dsimp only;rw[qc5,oB,qax,oB,qa1,Nat.zero_add,h.ldL (i:=4) (v:=.map r) rfl,oB];dsimp only;rw[qa1,c6.ldL h.on,oB];dsimp only;simp only[qc5,qax,oB,Nat.zero_add,qa1];rw[h.ldL (i:=5) (v:=.int .i64 p.no) (by show some (V.int .i64 T.last)=_; rw[hlast]),oB];dsimp only;rw[qa1,show qam E0 66 (.map r) (.int .i64 p.no) (.ptr p.box 0) (onS S)=_ from v1 (some [])];show((some (V.tuple [],V1.lg _)).bind _)=_;rw[oB];dsimp only;rw[qd6 (by rfl),qfb h.on,hA,c6a.ldL ht1.on,oB];dsimp only;simp only[qc5,qax,oB,Nat.zero_add,qa1];rw[ht1.ldL (i:=4) (v:=.map r) rfl,oB];dsimp only;rw[qa1,qft ht1,oB,hq1];simp only[qjw,qc5,qax,oB,Nat.zero_add,qa1];rw[ht1.ndL hq1 (i:=d) (k:=5) (v:=mapV q.ino.map) rfl,oB];dsimp only;rw[qa1,c6a.ldL ht1.on,oB];dsimp only;simp only[qc5,qax,oB,Nat.zero_add,qa1];rw[ht1.ldL (i:=5) (v:=.int .i64 p.no) (by show some (V.int .i64 T.last)=_; rw[hlast]),oB];dsimp only;rw[qa1,hm];unfold mapV;dsimp only;rw[show qam E0 63 (.map mq) (sv a) (.int .i64 p.no) (onS A)=_ from w1 (some [])];show((some (V.tuple [],V2.lg _)).bind _)=_;rw[oB];dsimp only;rw[qd6 (by rfl),qfb ht1.on,hB,c6b.ld ht2.on,oB];dsimp only;simp only[qc5,qax,oB,Nat.zero_add,Nat.add_zero]
 rw[ht2.ld (i:=2) (v:=.int .i64 T.ui) rfl,oB];dsimp only;rw[qlt 3 false true _ _ hT.ui (by unfold qaj; omega),oB,y1,oB];dsimp only;rw[c6c.ldL y2.on,oB];dsimp only;simp only[qc5,qax,oB,Nat.zero_add,qa1];rw[y2.ldL (i:=2+1) (v:=.int .i64 T.ub) rfl,oB];dsimp only;rw[qa1,c11c.ldL y2.on,oB];dsimp only;rw[lnStr_sv,oB];dsimp only;rw[qlt 3 false false _ _ hT.ub (by unfold qaj; omega),oB,qik,qa1];rw[show stP 1 (.ptr b (2+1)) (.int .i64 (T.ub+(data.length:Int))) (onS C)=_ from z1',oB];dsimp only;rw[qd6 (by rfl),qfb y2.on,c6d.ld ht4.on,oB];dsimp only;simp only[qc5,qax,oB,Nat.zero_add];rw[ht4.ld (i:=5) (v:=.int .i64 p.no) (by show some (V.int .i64 T.last)=_; rw[hlast]),oB]
theorem box4_steps (ho:S.on=false) (e e2 e3 e4:Nat) {v v2 v3 v4:V} (hv:OneV v) (hv2:OneV v2) (hv3:OneV v3) (hv4:OneV v4):∃U1 U2 U3 U,qdb e v S=some (.ptr S.next 0,U1)/\qdb e2 v2 U1=some (.ptr (S.next+1) 0,U2)/\qdb e3 v3 U2=some (.ptr (S.next+2) 0,U3)/\qdb e4 v4 U3=some (.ptr (S.next+3) 0,U)/\Cap U S.next e v/\Cap U (S.next+1) e2 v2/\Cap U (S.next+2) e3 v3/\Cap U (S.next+3) e4 v4/\Grew (fun _=>False) S U/\U.next=S.next+4:=by
 obtain⟨U1,U2,U3,h1,h2,h3,c1,c2,c3,g,n⟩:=qff ho e e2 e3 hv hv2 hv3;obtain⟨U4,k1,k2,k3,k4⟩:=qi7 (g.on.trans ho) e4 hv4;rw[n]at k1 k2 k4;exact⟨U1,U2,U3,U4,h1,h2,h3,k1,c1.grew k3,c2.grew k3,c3.grew k3,⟨k2,by omega⟩,g.trans k3,k4⟩
theorem build65 (a c l:Int) (d:List UInt8):qb9 E0 65 [(0,qbz [.int .i64 a,.int .i64 c,sv d,.int .i64 l])]=some (qbz [.int .i64 a,.int .i64 c,sv d,.int .i64 l,.int .i64 0,.nilmap]):=by kernel_rfl
def qn5 (T:Tab) (d:Int) (a:List UInt8) (kind mode:Int) (data:List UInt8):Int:=qcf [0,qf9 T d,qcw a,qky kind mode data,qkx T d a,eRoom T 1 data.length]
def qjo (kind mode:Int) (data:List UInt8) (up:Int) (m:Option Nat):Ino:={kind:=kind,mode:=mode,data:=data,links:=1,up:=up,map:=m,ents:=[]}
theorem make_head (h:TabAt S b r T) (hT:Fits T) (m:Nat) (d:Int) (a:List UInt8) (kind mode:Int) (data:List UInt8) (ha:a.length<9223372036854775808) (hd:data.length<1000000) :
 ∃A,Cap A S.next 23 (.ptr b 0)/\Cap A (S.next+1) 3 (.int .i64 kind)/\Cap A (S.next+2) 3 (.int .i64 mode)/\Cap A (S.next+3) 9 (sv data)/\TabAt A b r T/\Grew (fun _=>False) S A/\
 F8 (ev E0 KD (m+5)) qa4 (.ptr b 0) (.int .i64 d) (sv a) (.int .i64 kind) (.int .i64 mode) (sv data) S=if qn5 T d a kind mode data=0 then
(ld1 (.ptr S.next 0) A).bind fun p30=>
(qa2 p30.1).bind fun t31=>
(faP 5 false 1 t31).bind fun t32=>
(ld1 t32 p30.2).bind fun p33=>
(qa6 E0 .add 3 false true p33.1 (.int .i64 1)).bind fun t34=>
(qa2 p30.1).bind fun t35=>
(faP 5 false 1 t35).bind fun t36=>
(stP 1 t36 t34 p33.2).bind fun p37=>
(ld1 (.ptr (S.next+1) 0) p37.2).bind fun p38=>
(ld1 (.ptr (S.next+2) 0) p38.2).bind fun p39=>
(ld1 (.ptr (S.next+3) 0) p39.2).bind fun p40=>
(qb9 E0 35 [(0,p38.1),(1,p39.1),(2,p40.1),(3,(.int .i64 1))]).bind fun t41=>
(qb9 E0 65 [(0,t41)]).bind fun t42=>
(qdb 65 t42 p40.2).bind fun p43=>
(ld1 (.ptr (S.next+1) 0) p43.2).bind fun p102=>
(qa6 E0 .eql 3 false true p102.1 (.int .i64 2)).bind fun t103=>
ifK t103 (
(qd9 E0 63 none p102.2).bind fun p107=>
(qa2 p43.1).bind fun t108=>
(faP 4 false 1 t108).bind fun t109=>
(stP 1 t109 (.int .i64 d) p107.2).bind fun p110=>
(qa2 p43.1).bind fun t111=>
(faP 5 false 1 t111).bind fun t112=>
(stP 1 t112 p107.1 p110.2).bind fun p113=>
qo3 (ev E0 KD (m+5)) qa4 (qc0 E0 (ev E0 KD (m+5)) Try.f8) qbd (fr 106 [(1,.int .i64 d),(2,sv a),(6,.ptr S.next 0),(11,.ptr (S.next+3) 0),(16,p43.1)]) p113.2) (
qo3 (ev E0 KD (m+5)) qa4 (qc0 E0 (ev E0 KD (m+5)) Try.f8) qbd (fr 106 [(1,.int .i64 d),(2,sv a),(6,.ptr S.next 0),(11,.ptr (S.next+3) 0),(16,p43.1)]) p102.2)else some (.ret (.tuple [.int .i64 0,.int .i64 (qn5 T d a kind mode data)]),A):=by
 obtain⟨S1,S2,S3,S4,s1,s2,s3,s4,c1,c2,c3,c4,g4,n4⟩:=box4_steps h.on 23 3 3 9 (oneP b 0) (qb4 .i64 kind) (qb4 .i64 mode) (qfx data);have h4:=h.grewF g4;obtain⟨S5,a1,a2,a3,a4,a5⟩:=qlw (m+4) h4.on b d;have h5:=h4.grewF a4;obtain⟨S6,b1,b2,b3,b4⟩:=qpa (m+4) h5.on a;have h6:=h5.grewF b3;obtain⟨S7,f1,f2,f3,f4,f5,f6⟩:=free_run (m+4) h6.on b d a;have h7:=h6.grewF f5;have g56:=a4.trans b3;have g57:=g56.trans f5;have g67:=b3.trans f5
 have all:AsksAll S7 (m+4) [.fn (.func 27) [.ptr b 0] [],.fn (.func 57) [] [.ptr S4.next 0,.ptr (S4.next+1) 0],.fn (.func 58) [] [.ptr S5.next 0],.fn (.func 23) [] [.ptr (S.next+3) 0,.ptr (S.next+1) 0,.ptr (S.next+2) 0],.fn (.func 60) [] [.ptr S6.next 0,.ptr (S6.next+1) 0,.ptr (S6.next+2) 0],.fn (.func 31) [] [.ptr S.next 0,.ptr (S.next+3) 0]] (qn5 T d a kind mode data):=
  qae (qcc (m+2) b) (qae (qeo h7 (m+2) (a2.grew g67) (a3.grew g67)) (qae (qk8 (m+2) h7.on (b2.grew f5) ha) (qae (make1_asks h7.on (m+2) (c4.grew g57) (c2.grew g57) (c3.grew g57)) (qae (qm1 h7 (m+1) f2 f3 f4) (qae (make2_asks h7 hT (m+1) (by omega) (c1.grew g57) (c4.grew g57)) qf7)))))
 obtain⟨R,U,q1,q2,q3,q4⟩:=asked h7.on (m+4) _ (fun v hv=>by
  simp only[List.mem_cons,List.not_mem_nil,or_false]at hv
  rcases hv with rfl|rfl|rfl|rfl|rfl|rfl<;>exact oneF _ _ _) (by show 6<1000000; decide) all
 obtain⟨l2,q2'⟩:=qe7 (m+4) q2;have gU:=g57.trans q3;have hU:=(h4.grewF gU).same (U:=atS U S4) rfl rfl rfl;have gA:=qdm gU h4.on;refine⟨atS U S4,c1.grew gA,c2.grew gA,c3.grew gA,c4.grew gA,hU,g4.trans gA,?_⟩;rw[F8_eq,s1,oB];dsimp only;rw[s2,oB];dsimp only;rw[s3,oB];dsimp only;rw[s4,oB];dsimp only;rw[c1.ldL h4.on,oB];dsimp only;rw[qa1,c1.ldL h4.on,oB];dsimp only;rw[qa1,show(ev E0 KD (m+5)).f 28 [.ptr b 0,.int .i64 d] (onS S4)=_ from a1 (some []),qa7];rw[show(ev E0 KD (m+5)).f 29 [sv a] (onS (stt S5 (Option.map _ (some []))))=_ from b1 (some []),qa7];rw[show onS (stt S6 (Option.map _ (some [])))=onS S6 from rfl,((c1.grew a4).grew b3).ldL h6.on,oB];dsimp only;rw[qa1,show(ev E0 KD (m+5)).f 30 [.ptr b 0,.int .i64 d,sv a] (onS S6)=_ from f1 (some []),qa7];rw[show bsP 72 1 6 (Ev.one .nilfn) [(0,(.fn (.func 27) [.ptr b 0] [])),(1,.fn (.func 57) [] [.ptr S4.next 0,.ptr (S4.next+1) 0]),(2,.fn (.func 58) [] [.ptr S5.next 0]),(3,.fn (.func 23) [] [.ptr (S.next+3) 0,.ptr (S.next+1) 0,.ptr (S.next+2) 0]),(4,.fn (.func 60) [] [.ptr S6.next 0,.ptr (S6.next+1) 0,.ptr (S6.next+2) 0]),(5,.fn (.func 31) [] [.ptr S.next 0,.ptr (S.next+3) 0])] (onS (stt S7 (Option.map _ (some []))))=_ from q1 (some []),oB];dsimp only;rw[show(ev E0 KD (m+5)).f 26 _ (onS (stt R (Option.map _ (some []))))=_ from q2',qa7];rw[qfg (S.next+4) [0,2,8] [4,6,11]]
 rotate_left
 . rfl
 . exact⟨⟨⟨rfl,by show S.next<S.next+4; omega⟩,trivial⟩,⟨⟨rfl,by show S.next<S.next+4; omega⟩,trivial⟩,⟨⟨rfl,by show S.next<S.next+4; omega⟩,trivial⟩,trivial⟩
 . exact⟨⟨by show S.next+4<=S4.next+1; omega,by show S.next+4<=S4.next; omega,trivial⟩,⟨by show S.next+4<=S5.next; omega,trivial⟩,⟨by show S.next+4<=S6.next+2; omega,by show S.next+4<=S6.next+1; omega,by show S.next+4<=S6.next; omega,trivial⟩,trivial⟩
 rw[qa1,qbf h4.on,neq27,oB,ifK_bool];by_cases h0:qn5 T d a kind mode data=0
 . rw[iP h0,h0]; rfl
 . rw[iN h0,beq_false_of_ne h0]; rfl
theorem TabAt.bound (h:TabAt S b r T):b<S.next/\r<S.next/\∀q∈T.nodes,q.box<S.next/\∀m,q.ino.map=some m->m<S.next:=⟨h.hb,h.hr,fun q hq=>⟨h.hn q hq,h.hm q hq⟩⟩
theorem make_err (h:TabAt S b r T) (hT:Fits T) (m:Nat) (d:Int) (a:List UInt8) (kind mode:Int) (data:List UInt8) (ha:a.length<9223372036854775808) (hd:data.length<1000000) (he:qn5 T d a kind mode data≠0) :
 ∃U,(ev E0 KD (m+6)).f 8 [.ptr b 0,.int .i64 d,sv a,.int .i64 kind,.int .i64 mode,sv data] S=some (.ret (.tuple [.int .i64 0,.int .i64 (qn5 T d a kind mode data)]),U)/\TabAt U b r T/\Grew (fun _=>False) S U:=by
 obtain⟨A,c1,c2,c3,c4,hA,gA,hF⟩:=make_head h hT m d a kind mode data ha hd;rw[iN he]at hF;exact⟨A,rd8 hF,hA,gA⟩
theorem make_new (h:TabAt S b r T) (hT:Fits T) (m:Nat) (d:Int) (a:List UInt8) (kind mode:Int) (data:List UInt8) (ha:a.length<9223372036854775808) (hd:data.length<1000000) (he:qn5 T d a kind mode data=0) (hl:-qaj<T.last/\T.last<qaj) :
 ∃(B C:St),Bx C B.next 65 [.int .i64 kind,.int .i64 mode,sv data,.int .i64 1,.int .i64 0,.nilmap]/\C.next=B.next+1/\S.next+4<=B.next/\Cap C S.next 23 (.ptr b 0)/\Cap C (S.next+3) 9 (sv data)/\TabAt C b r {T with last:=T.last+1}/\Grew (Own b r T) S C/\
 F8 (ev E0 KD (m+5)) qa4 (.ptr b 0) (.int .i64 d) (sv a) (.int .i64 kind) (.int .i64 mode) (sv data) S=ifK (.bool (decide (kind=2))) (
(qd9 E0 63 none C).bind fun p107=>
(qa2 (.ptr B.next 0)).bind fun t108=>
(faP 4 false 1 t108).bind fun t109=>
(stP 1 t109 (.int .i64 d) p107.2).bind fun p110=>
(qa2 (.ptr B.next 0)).bind fun t111=>
(faP 5 false 1 t111).bind fun t112=>
(stP 1 t112 p107.1 p110.2).bind fun p113=>
qo3 (ev E0 KD (m+5)) qa4 (qc0 E0 (ev E0 KD (m+5)) Try.f8) qbd (fr 106 [(1,.int .i64 d),(2,sv a),(6,.ptr S.next 0),(11,.ptr (S.next+3) 0),(16,.ptr B.next 0)]) p113.2) (
qo3 (ev E0 KD (m+5)) qa4 (qc0 E0 (ev E0 KD (m+5)) Try.f8) qbd (fr 106 [(1,.int .i64 d),(2,sv a),(6,.ptr S.next 0),(11,.ptr (S.next+3) 0),(16,.ptr B.next 0)]) C):=by
 obtain⟨A,c1,c2,c3,c4,hA,gA,hF⟩:=make_head h hT m d a kind mode data ha hd;rw[iP he]at hF;obtain⟨B,t1,t2,t3,t4⟩:=hA.setT (T':={T with last:=T.last+1}) rfl 5 (by decide) (qb4 .i64 (T.last+1)) (set6_5 ..);have hb:=h.hb;have kp:∀{x e:Nat} {v:V},S.next<=x->Cap A x e v->Cap B x e v:=fun{x e v} hx hc=>⟨hc.bx.grew hc.lt (fun e=>by omega) t3,Nat.lt_of_lt_of_le hc.lt t3.next⟩
 have e1:=kp (lR _) c1;have e2:=kp (by omega) c2;have e3:=kp (by omega) c3;have e4:=kp (by omega) c4;obtain⟨C,w1,w2,w3,w4⟩:=qex t2.on 65 [.int .i64 kind,.int .i64 mode,sv data,.int .i64 1,.int .i64 0,.nilmap];have f2:=e2.grew w3;have hC:=t2.grewF w3;refine⟨B,C,w2,w4,by have:=e4.lt; omega,e1.grew w3,e4.grew w3,hC,((gA.mono fun _ _ h=>h.elim).trans (t3.mono fun x _ hx=>.inl hx)).trans (w3.mono fun _ _ h=>h.elim),hF.trans ?_⟩;clear hF;generalize hR:qo3 (ev E0 KD (m+5)) qa4 (qc0 E0 (ev E0 KD (m+5)) Try.f8) qbd=R;rw[c1.ld hA.on,oB];dsimp only;simp only[qc5,qax,oB,Nat.zero_add];rw[hA.ld (i:=5) (v:=.int .i64 T.last) rfl,oB];dsimp only;rw[qlt 3 false true _ _ hl (by unfold qaj; omega),oB,t1,oB];dsimp only;rw[e2.ld t2.on,oB];dsimp only;rw[e3.ld t2.on,oB];dsimp only;rw[e4.ld t2.on,oB];dsimp only;rw[build_35,oB,build65,oB,w1,oB];dsimp only;rw[f2.ld hC.on,oB];dsimp only;rw[qbl,oB];simp only[qc5,qax,oB,Nat.zero_add]
end
section
variable {S U:St} {b r:Nat} {T:Tab}
theorem make_file (h:TabAt S b r T) (hT:Fits T) (m:Nat) (d:Int) (a:List UInt8) (kind mode:Int) (data:List UInt8) (ha:a.length<9223372036854775808) (hd:data.length<1000000) (he:qn5 T d a kind mode data=0) {q:Nod} {mq:Nat} (hq:T.get d=some q) (hm:q.ino.map=some mq) (hnew:T.get (T.last+1)=none) (hl:-qaj<T.last/\T.last<qaj) (hk:kind≠2) :
 ∃U nb,(ev E0 KD (m+6)).f 8 [.ptr b 0,.int .i64 d,sv a,.int .i64 kind,.int .i64 mode,sv data] S=some (.ret (.tuple [.int .i64 (T.last+1),.int .i64 0]),U)/\
  TabAt U b r (qdo {T with last:=T.last+1} ⟨T.last+1,nb,qjo kind mode data 0 none⟩ d (qb1 a (T.last+1) q.ino.ents) data.length)/\Grew (Own b r T) S U/\S.next<=nb:=by
 obtain⟨B,C,w2,w4,hBn,f1,f4,hC,gC,pre⟩:=make_new h hT m d a kind mode data ha hd he hl;have hbd:=h.bound;have hT':Fits {T with last:=T.last+1}:=⟨hT.ui,hT.ub⟩
 rw[dF hk,ifK_bool,cF]at pre;obtain⟨Y,y1,y2,y3⟩:=made_run hC (m+5) f1 a f4 hd hT' ⟨T.last+1,B.next,qjo kind mode data 0 none⟩ hnew rfl w2 (fun m0 hm0=>by cases hm0) (fun _=>rfl) S.next hbd ⟨by show S.next<=B.next; omega,by show B.next<C.next; omega⟩ (fun m0 hm0=>by cases hm0) ⟨lR _,by show S.next≠B.next; omega⟩ ⟨by omega,by show S.next+3≠B.next; omega⟩ hq hm (qc0 E0 (ev E0 KD (m+5)) Try.f8) qbd
 generalize qo3 (ev E0 KD (m+5)) qa4 (qc0 E0 (ev E0 KD (m+5)) Try.f8) qbd=R at pre y1;have y1':R (fr 106 [(1,.int .i64 d),(2,sv a),(6,.ptr S.next 0),(11,.ptr (S.next+3) 0),(16,.ptr B.next 0)]) C=some (.ret (.tuple [.int .i64 (T.last+1),.int .i64 0]),Y):=y1;rw[y1']at pre;exact⟨Y,B.next,rd8 pre,y2,gC.trans y3,by omega⟩
theorem make_dir (h:TabAt S b r T) (hT:Fits T) (m:Nat) (d:Int) (a:List UInt8) (mode:Int) (data:List UInt8) (ha:a.length<9223372036854775808) (hd:data.length<1000000) (he:qn5 T d a 2 mode data=0) {q:Nod} {mq:Nat} (hq:T.get d=some q) (hm:q.ino.map=some mq) (hnew:T.get (T.last+1)=none) (hl:-qaj<T.last/\T.last<qaj) :
 ∃U nb nm,(ev E0 KD (m+6)).f 8 [.ptr b 0,.int .i64 d,sv a,.int .i64 2,.int .i64 mode,sv data] S=some (.ret (.tuple [.int .i64 (T.last+1),.int .i64 0]),U)/\
  TabAt U b r (qdo {T with last:=T.last+1} ⟨T.last+1,nb,qjo 2 mode data d (some nm)⟩ d (qb1 a (T.last+1) q.ino.ents) data.length)/\Grew (Own b r T) S U/\S.next<=nb/\S.next<=nm:=by
 obtain⟨B,C,w2,w4,hBn,f1,f4,hC,gC,pre⟩:=make_new h hT m d a 2 mode data ha hd he hl;have hbd:=h.bound;have hT':Fits {T with last:=T.last+1}:=⟨hT.ui,hT.ub⟩
 rw[show decide ((2:Int)=2)=true from rfl,ifK_bool,cT]at pre;have g1:=qcq hC.on (fun _=>False) (.map [] 0);have on1:(nw C (.map [] 0)).on=false:=qpe hC.on _;have hD:=hC.grewF g1;have hmD:MapAt (nw C (.map [] 0)) C.next (kvS []):=⟨[],0,by rw[qfw,iP rfl],MapOk.new⟩
 have hbD:=w2.grew (show B.next<C.next by omega) (fun h=>h) g1;have hnD:(nw C (.map [] 0)).next=C.next+1:=rfl
 have p1:=f1.grew g1;have p4:=f4.grew g1;have hmk:qd9 E0 63 none C=some (.map C.next,nw C (.map [] 0)):=rfl;rw[hmk,oB]at pre;dsimp only at pre;generalize nw C (.map [] 0)=D at g1 on1 hD hmD hbD hnD p1 p4 pre;have st1:stP 1 (.ptr B.next 4) (.int .i64 d) D=some (.tuple [],D.put B.next (bxO 65 [.int .i64 2,.int .i64 mode,sv data,.int .i64 1,.int .i64 d,.nilmap])):=qoe on1 hbD rfl rfl (by decide) (set6_4 ..) rfl rfl rfl;have hbE:=qi8 (s:=D) B.next 65 [.int .i64 2,.int .i64 mode,sv data,.int .i64 1,.int .i64 d,.nilmap]
 have gE:=qan (s:=D) B.next (bxO 65 [.int .i64 2,.int .i64 mode,sv data,.int .i64 1,.int .i64 d,.nilmap])
 generalize D.put B.next (bxO 65 [.int .i64 2,.int .i64 mode,sv data,.int .i64 1,.int .i64 d,.nilmap])=E at st1 hbE gE
 have onE:=gE.on.trans on1;have st2:stP 1 (.ptr B.next 5) (.map C.next) E=some (.tuple [],E.put B.next (bxO 65 [.int .i64 2,.int .i64 mode,sv data,.int .i64 1,.int .i64 d,.map C.next])):=qoe onE hbE rfl rfl (by decide) (set6_5 ..) rfl rfl rfl;have hbF:=qi8 (s:=E) B.next 65 [.int .i64 2,.int .i64 mode,sv data,.int .i64 1,.int .i64 d,.map C.next]
 have gF:=qan (s:=E) B.next (bxO 65 [.int .i64 2,.int .i64 mode,sv data,.int .i64 1,.int .i64 d,.map C.next])
 generalize E.put B.next (bxO 65 [.int .i64 2,.int .i64 mode,sv data,.int .i64 1,.int .i64 d,.map C.next])=F at st2 hbF gF
 have gEF:=gE.trans gF
 have hTF:TabAt F b r {T with last:=T.last+1}:=hD.grew gEF fun x hx=>by
  subst hx;exact⟨by omega,by omega,fun q hq=>⟨by have:=(hbd.2.2 q hq).1; omega,fun e=>by have:=(hbd.2.2 q hq).2 _ e; omega⟩⟩
 have p1F:Cap F S.next 23 (.ptr b 0):=⟨p1.bx.grew p1.lt (fun e=>by omega) gEF,Nat.lt_of_lt_of_le p1.lt gEF.next⟩
 have p4F:Cap F (S.next+3) 9 (sv data):=⟨p4.bx.grew p4.lt (fun e=>by omega) gEF,Nat.lt_of_lt_of_le p4.lt gEF.next⟩
 have hmF:MapAt F C.next (kvS []):=hmD.grew (by omega) (fun e=>by omega) gEF
 have hFn:=gEF.next
 obtain⟨Y,y1,y2,y3⟩:=made_run hTF (m+5) p1F a p4F hd hT' ⟨T.last+1,B.next,qjo 2 mode data d (some C.next)⟩ hnew rfl hbF (fun m0 hm0=>by
  simp only[qjo,oS]at hm0
  subst hm0; exact hmF) (fun e=>by cases e) S.next hbd ⟨by show S.next<=B.next; omega,by show B.next<F.next; omega⟩ (fun m0 hm0=>by
  simp only[qjo,oS]at hm0;subst hm0
  exact⟨by omega,by omega,by show C.next≠B.next; omega⟩) ⟨lR _,by show S.next≠B.next; omega⟩ ⟨by omega,by show S.next+3≠B.next; omega⟩ hq hm (qc0 E0 (ev E0 KD (m+5)) Try.f8) qbd
 refine⟨Y,B.next,C.next,rd8 (pre.trans ?_),y2,?_,by omega,by omega⟩
 . clear pre
   generalize qo3 (ev E0 KD (m+5)) qa4 (qc0 E0 (ev E0 KD (m+5)) Try.f8) qbd=R at y1 ⊢;simp only[qc5,qax,oB,Nat.zero_add];rw[st1,oB];dsimp only;rw[st2,oB];exact y1
 . have gSD:Grew (Own b r T) S D:=gC.trans (g1.mono fun _ _ h=>h.elim)
   exact(gSD.own (show S.next<=B.next by omega) gEF).trans y3
end
section
variable {S U:St}
theorem build35r:qb9 E0 35 [(0,(.int .i64 2)),(1,(.int .i64 493)),(3,(.int .i64 1))]=some (qbz [.int .i64 2,.int .i64 493,sv [],.int .i64 1]):=by kernel_rfl
theorem build65r (m:Nat):qb9 E0 65 [(0,qbz [.int .i64 2,.int .i64 493,sv [],.int .i64 1]),(1,(.int .i64 1)),(2,.map m)]=some (qbz [.int .i64 2,.int .i64 493,sv [],.int .i64 1,.int .i64 1,.map m]):=by kernel_rfl
theorem build26r:qb9 E0 26 [(0,(.int .i64 1))]=some (qbz [.int .i64 1,.int .i64 0]):=by kernel_rfl
theorem build68r (a c:Int) (r:Nat):qb9 E0 68 [(0,qbz [.int .i64 a,.int .i64 c]),(1,qbz [.int .i64 1,.int .i64 0]),(2,.map r),(3,(.int .i64 1))]=some (qbz [.int .i64 a,.int .i64 c,.int .i64 1,.int .i64 0,.map r,.int .i64 1]):=by kernel_rfl
def qg1 (m:Nat):Ino:={kind:=2,mode:=493,data:=[],links:=1,up:=1,map:=some m,ents:=[]}
def qh8 (qi qb:Int) (nb nm:Nat):Tab:={qi:=qi,qb:=qb,ui:=1,ub:=0,last:=1,nodes:=[⟨1,nb,qg1 nm⟩]}
theorem new_run (ho:S.on=false) (m:Nat) (qi qb:Int) (h1:1<=qi/\qi<=1048576) (h2:0<=qb/\qb<=1073741824) :
 ∃U b r nb nm,(ev E0 KD (m+1)).f 7 [qbz [.int .i64 qi,.int .i64 qb]] S=some (.ret (.ptr b 0),U)/\TabAt U b r (qh8 qi qb nb nm)/\Grew (fun _=>False) S U/\S.next<=b/\S.next<=r/\S.next<=nb/\S.next<=nm:=by
 obtain⟨A,a1,a2,a3,a4⟩:=qex ho 26 [.int .i64 qi,.int .i64 qb];have onA:=a3.on.trans ho;have hb:nw A (.map [] 0)=nw A (.map [] 0):=rfl;have g1:=qcq onA (fun _=>False) (.map [] 0);have on1:(nw A (.map [] 0)).on=false:=qpe onA _;have hm1:MapAt (nw A (.map [] 0)) A.next (kvS []):=⟨[],0,by rw[qfw,iP rfl],MapOk.new⟩
 have hn1:(nw A (.map [] 0)).next=A.next+1:=rfl
 have hk1:qd9 E0 63 none A=some (.map A.next,nw A (.map [] 0)):=rfl;generalize nw A (.map [] 0)=B at g1 on1 hm1 hn1 hk1;obtain⟨C,c1,c2,c3,c4⟩:=qex on1 65 [.int .i64 2,.int .i64 493,sv [],.int .i64 1,.int .i64 1,.map A.next];have on2:=c3.on.trans on1;have g3:=qcq on2 (fun _=>False) (.map [] 0);have on3:(nw C (.map [] 0)).on=false:=qpe on2 _;have hm3:MapAt (nw C (.map [] 0)) C.next (kvI []):=⟨[],0,by rw[qfw,iP rfl],MapOk.new⟩
 have hn3:(nw C (.map [] 0)).next=C.next+1:=rfl
 have hk3:qd9 E0 66 none C=some (.map C.next,nw C (.map [] 0)):=rfl;generalize nw C (.map [] 0)=D at g3 on3 hm3 hn3 hk3;obtain⟨es,cl,e1,e2⟩:=upd_int on3 und66 hm3 1 (.ptr B.next 0);have e2':qam E0 66 (.map C.next) (.int .i64 1) (.ptr B.next 0) D=some (D.put C.next (.map es cl)):=e2 none;have hmE:=qh5 (S:=D) C.next (c:=cl) e1
 have gE:=qan (s:=D) C.next (.map es cl)
 have onE:(D.put C.next (.map es cl)).on=false:=on3;have hnE:(D.put C.next (.map es cl)).next=D.next:=rfl
 generalize D.put C.next (.map es cl)=E at e2' hmE gE onE hnE
 obtain⟨F,f1,f2,f3,f4⟩:=qex onE 68 [.int .i64 qi,.int .i64 qb,.int .i64 1,.int .i64 0,.map C.next,.int .i64 1];have onF:=f3.on.trans onE;have rootD:=(c2.grew (by omega) (fun h=>h) g3).grew (show B.next<D.next by omega) (fun e=>by omega) gE;have rootF:=rootD.grew (show B.next<E.next by omega) (fun h=>h) f3;have mapF:=(((hm1.grew (by omega) (fun h=>h) c3).grew (show A.next<C.next by omega) (fun h=>h) g3).grew (show A.next<D.next by omega) (fun e=>by omega) gE).grew (show A.next<E.next by omega) (fun h=>h) f3
 have hT:TabAt F E.next C.next (qh8 qi qb B.next A.next):=by
  refine⟨onF,f2,hmE.grew (by omega) (fun h=>h) f3,fun p hp=>?_,fun p hp m hm=>?_,fun p hp hm=>?_,by omega,fun p hp=>?_,fun p hp m hm=>?_,fun p hp q hq _=>?_,fun p hp q hq _ _ _=>?_,by show([1]:List Int).Nodup; decide,by omega,by omega,fun p hp=>?_,fun p hp m hm=>?_⟩
  all_goals (have hp':p=⟨1,B.next,qg1 A.next⟩:=by simpa [qh8]using hp)
  all_goals subst hp'
  . exact rootF
  . simp only[qg1,oS]at hm
    subst hm;exact mapF
  . cases hm
  . exact⟨by show B.next≠E.next; omega,by show B.next≠C.next; omega⟩
  . simp only[qg1,oS]at hm
    subst hm;refine⟨by omega,by omega,fun q hq=>?_⟩;have hq':q=⟨1,B.next,qg1 A.next⟩:=by simpa [qh8]using hq
    subst hq';show A.next≠B.next
    omega
  . have hq':q=⟨1,B.next,qg1 A.next⟩:=by simpa [qh8]using hq
    subst hq'; rfl
  . have hq':q=⟨1,B.next,qg1 A.next⟩:=by simpa [qh8]using hq
    subst hq'; rfl
  . show B.next<F.next
    omega
  . simp only[qg1,oS]at hm
    subst hm;omega
 refine⟨F,E.next,C.next,B.next,A.next,rd7 ?_,hT,?_,by omega,by omega,by omega,by omega⟩
 . show F7 (ev E0 KD m) qa4 (qbz [.int .i64 qi,.int .i64 qb]) S=_
   have l0:ld1 (.ptr S.next 0) A=some (.int .i64 qi,A):=Bx6.ld onA a2 big2 rfl;have l1:ld1 (.ptr S.next 1) A=some (.int .i64 qb,A):=Bx6.ld onA a2 big2 rfl;have lA:Ev.ldA 2 (.ptr S.next 0) C=some (qbz [.int .i64 qi,.int .i64 qb],C):=((a2.grew (by omega) (fun h=>h) g1).grew (show S.next<B.next by omega) (fun h=>h) c3).ldA on2 rfl big2;rw[F7_eq,a1,oB];dsimp only;rw[qax,oB,l0,oB];dsimp only;rw[binV_ii,intsV_lss,oB,dF (show ¬qi<1 by omega)];simp only[gFF,oB,cT,l0,pickV_bool,cF];rw[binV_ii,intsV_gtr,oB,dF (show ¬(1048576:Int)<qi by omega)];simp only[gFF,oB,cT,qax,Nat.zero_add,l1];rw[binV_ii,intsV_lss,oB,dF (show ¬qb<0 by omega)];simp only[gFF,oB,cT,qax,Nat.zero_add,l1,pickV_bool,cF];rw[binV_ii,intsV_gtr,oB,dF (show ¬(1073741824:Int)<qb by omega),ifK_bool,cF,build35r,oB,hk1,oB];dsimp only;rw[build65r,oB,c1,oB];dsimp only;rw[lA,oB];dsimp only;rw[build26r,oB,hk3,oB];dsimp only;rw[e2'];show((some (V.tuple [],E)).bind _)=_;rw[oB,build68r,oB];dsimp only;rw[f1,oB]
 . have gS:=((a3.trans g1).trans c3).trans g3
   exact(gS.own (show S.next<=C.next by omega) gE).trans f3
end
section
variable {S U:St}
def qe2 (l:List (List UInt8)):List (Tr V):=l.map fun a=>Ev.one (sv a)
inductive NL (S:St) (r:Nat):V->List (List UInt8)->Prop where
 | slice {l:List (List UInt8)} (h:RowAt S r 9 1 (qe2 l)) (hr:r<S.next):NL S r (.slice r 0 l.length l.length) l
 | oslice {l:List (List UInt8)} (h:RowAt S r 9 1 (qe2 l)) (hr:r<S.next) (h0:0<l.length):NL S r (.oslice r 0 l.length 1) l
theorem rowOf_length (l:List (List UInt8)):(qe2 l).length=l.length:=by unfold qe2; rw[lM]
theorem NL.row {r:Nat} {v:V} {l:List (List UInt8)} (h:NL S r v l):RowAt S r 9 1 (qe2 l)/\r<S.next:=by cases h<;>exact⟨by assumption,by assumption⟩
theorem NL.inv {r:Nat} {v:V} {l:List (List UInt8)} (h:NL S r v l):v=.slice r 0 l.length l.length\/(v=.oslice r 0 l.length 1/\0<l.length):=by
 cases h with
 | slice=>exact .inl rfl
 | oslice _ _ h0=>exact .inr ⟨rfl,h0⟩
theorem und30:und E0 30=some (.slice 9):=by kernel_rfl
theorem size9:qav E0 9=some 1:=by kernel_rfl
end
def nam (cs:List UInt8):List (List UInt8):=cs.map fun c=>[c]
section
variable {S U:St} {b r:Nat} {T:Tab}
theorem Own_step {T':Tab} (h:∀p'∈T'.nodes,∃p∈T.nodes,p'.box=p.box/\p'.ino.map=p.ino.map) {x:Nat} (hx:Own b r T' x):Own b r T x:=by
 rcases hx with e|e|⟨p',hp',e⟩
 . exact .inl e
 . exact .inr (.inl e)
 . obtain⟨p,hp,h1,h2⟩:=h p' hp'
   exact .inr (.inr ⟨p,hp,by rw[<- h1,<- h2]; exact e⟩)
theorem qfy {i:Int} {f:Ino->Ino} (hf:∀n,(f n).map=n.map) {x:Nat} (hx:Own b r (T.upd i f) x):Own b r T x:=
 Own_step (fun p' hp'=>by
  obtain⟨p,hp,rfl⟩:=updN_mem.1 hp';refine⟨p,hp,?_⟩;split
  . exact⟨rfl,hf _⟩
  . exact⟨rfl,rfl⟩) hx
theorem own_del {i:Int} {x:Nat} (hx:Own b r (T.del i) x):Own b r T x:=Own_step (fun p' hp'=>⟨p',(qku i T.nodes).subset hp',rfl,rfl⟩) hx
end
end Go.Proofs.Ytbihlgcdnhoknaa.W

namespace Go.Proofs.Ytbihlgcdnhoknaa.W
open Go.Proofs.Ytbihlgcdnhoknaa.Ev
section
variable {S U:St} {b r:Nat} {T:Tab}
theorem quota_eq (x y z w:Int):qa6 E0 .eql 26 false false (qbz [.int .i64 x,.int .i64 y]) (qbz [.int .i64 z,.int .i64 w])=(bif iEq x z then(bif iEq y w then some true else some false)else some false).bind fun b=>some (.bool b):=by kernel_rfl
theorem qlk (x y:Int):qa6 E0 .eql 26 false false (qbz [.int .i64 x,.int .i64 y]) (qbz [.int .i64 x,.int .i64 y])=some (.bool true):=by
 rw[quota_eq,qga,qga,beq_self_eq_true,beq_self_eq_true]; rfl
end
open Go.RowKit
section
variable {S U:St} {b r:Nat} {T:Tab}
theorem take_min (l:List UInt8) (n:Nat):List.take (min l.length n) l=l.take n:=by
 rcases Nat.le_total l.length n with h|h
 . rw[Nat.min_eq_left h,List.take_length,List.take_of_length_le h]
 . rw[Nat.min_eq_right h]
theorem cutN (s:List UInt8) (n:Nat) (S:St):qc6 E0 9 (sv s) none (some (.int .i64 ((min s.length n:Nat):Int))) none S=some (sv (s.take n),S):=by
 rw[slice_sv und9 s (bounds_hi .i64 (Nat.min_le_left ..)) (Nat.min_le_left ..),List.drop_zero,Nat.sub_zero,take_min]
theorem qqi (n:Nat) (S:St):(ev E0 KD (n+1)).f 15 [] S=some (.ret (.bool true),S):=by
 rw[qhk (show KD 15=some kfTrue from rfl)];exact kfTrue_run S
end
end Go.Proofs.Ytbihlgcdnhoknaa.W

namespace Go.Proofs.Ytbihlgcdnhoknaa.W
open Go.Proofs.Ytbihlgcdnhoknaa.Ev
theorem u5:Try.prog.underlying 5=some (.int .u8):=by kernel_rfl
theorem c5:Try.prog.cellsOf 5=1:=by kernel_rfl
theorem qih {α:Type} {f:Nat->Option α}:∀(n k:Nat) {r:List α},((List.range' k n).mapM f)=some r->r.length=n/\∀i,i<n->∃y,r[i]?=some y/\f (k+i)=some y
 | 0,k,r,h=>by
  simp at h; subst h;exact⟨rfl,fun i hi=>by omega⟩
 | n+1,k,r,h=>by
  rw[List.range'_succ,List.mapM_cons]at h;simp only[Option.bind_eq_bind,oI,Option.pure_def,oS]at h;obtain⟨y,hy,r',hr',rfl⟩:=h;obtain⟨h1,h2⟩:=qih n (k+1) hr';refine⟨by simp[h1],fun i hi=>?_⟩;cases i with
  | zero=>exact⟨y,rfl,hy⟩
  | succ i=>
   obtain⟨z,hz1,hz2⟩:=h2 i (by omega);exact⟨z,by simpa using hz1,by rw[show k+(i+1)=k+1+i by omega]; exact hz2⟩
theorem cells?_at {W:World} {a:Addr} {n:Nat} {cs:List Value} (h:W.cells? 0 a n=some cs):cs.length=n/\∀i,i<n->∃y,cs[i]?=some y/\W.cell? (a.add i)=some y:=by
 unfold World.cells? at h;rw[iP (Nat.zero_le _),List.range_eq_range']at h;obtain⟨h1,h2⟩:=qih n 0 h
 exact⟨h1,fun i hi=>by
  obtain⟨y,hy1,hy2⟩:=h2 i hi
  exact⟨y,hy1,by rw[Nat.zero_add]at hy2; exact hy2⟩⟩
theorem add_eq {a:Addr} (h:a.spot=none) (n:Nat):a.add n=⟨a.block,a.off+n,none⟩:=by
 unfold Addr.add;split
 . rename_i h0
   subst h0;cases a;simp only at h;subst h;rfl
 . rfl
def qj1 (i:Int) (kv:List (List UInt8×Int)):Nat:=(kv.map fun p=>if p.2=i then 1 else 0).sum
def qf8 (i:Int) (l:List Nod):Nat:=(l.map fun p=>qj1 i p.ino.ents).sum
theorem qen (i:Int) (p:List UInt8×Int) (kv):qj1 i (p::kv)=(if p.2=i then 1 else 0)+qj1 i kv:=by
 unfold qj1;rw[List.map_cons,List.sum_cons]
theorem qc1 (i:Int) (p:Nod) (l):qf8 i (p::l)=qj1 i p.ino.ents+qf8 i l:=by
 unfold qf8;rw[List.map_cons,List.sum_cons]
theorem qne (i:Int) {a:List UInt8} (v:Int):∀{kv:List (List UInt8×Int)},lkS a kv=none->qj1 i (qb1 a v kv)=qj1 i kv+if v=i then 1 else 0
 | [],_=>by
  unfold qb1;rw[qen];unfold qj1;simp
 | p::kv,h=>by
  unfold lkS at h;unfold qb1;by_cases hc:a=p.1
  . rw[iP hc]at h; cases h
  . rw[iN hc]at h
    rw[iN hc,qen,qen,qne i v h];omega
theorem qol (i:Int) {a:List UInt8} {v:Int}:∀{kv:List (List UInt8×Int)},lkS a kv=some v->qj1 i kv=qj1 i (qa9 a kv)+if v=i then 1 else 0
 | [],h=>by cases h
 | p::kv,h=>by
  unfold lkS at h;unfold qa9;by_cases hc:a=p.1
  . rw[iP hc]at h
    cases h;rw[iP hc,qen];omega
  . rw[iN hc]at h
    rw[iN hc,qen,qen,qol i h];omega
theorem cntS_pos {i:Int}:∀{kv:List (List UInt8×Int)} {e:List UInt8×Int},e∈kv->e.2=i->1<=qj1 i kv
 | p::kv,e,h,he=>by
  rw[qen];rcases List.mem_cons.1 h with rfl|h
  . rw[iP he]; omega
  . have:=cntS_pos h he
    omega
theorem cntS_mem {i:Int}:∀{kv:List (List UInt8×Int)},1<=qj1 i kv->∃e∈kv,e.2=i
 | [],h=>by unfold qj1 at h; simp at h
 | p::kv,h=>by
  rw[qen]at h;by_cases hp:p.2=i
  . exact⟨p,List.mem_cons_self ..,hp⟩
  . rw[iN hp,Nat.zero_add]at h
    obtain⟨e,h1,h2⟩:=cntS_mem (kv:=kv) h;exact⟨e,mO _ h1,h2⟩
theorem qhq {a:List UInt8} {v:Int}:∀{kv:List (List UInt8×Int)},lkS a kv=some v->(a,v)∈kv
 | p::kv,h=>by
  unfold lkS at h;by_cases hc:a=p.1
  . rw[iP hc]at h
    cases h;rw[hc]; exact List.mem_cons_self ..
  . rw[iN hc]at h
    exact mO _ (qhq h)
theorem qii {a:List UInt8} {v:Int}:∀{kv:List (List UInt8×Int)} {e:List UInt8×Int},e∈qb1 a v kv->e=(a,v)\/e∈kv
 | [],e,h=>by
  unfold qb1 at h;exact .inl (List.mem_singleton.1 h)
 | p::kv,e,h=>by
  unfold qb1 at h;by_cases hc:a=p.1
  . rw[iP hc]at h
    rcases List.mem_cons.1 h with h|h
    . exact .inl h
    . exact .inr (mO _ h)
  . rw[iN hc]at h
    rcases List.mem_cons.1 h with h|h
    . exact .inr (h▸List.mem_cons_self ..)
    . rcases qii h with h|h
      . exact .inl h
      . exact .inr (mO _ h)
theorem qfi {a:List UInt8}:∀{kv:List (List UInt8×Int)} {e:List UInt8×Int},e∈qa9 a kv->e∈kv
 | p::kv,e,h=>by
  unfold qa9 at h;by_cases hc:a=p.1
  . rw[iP hc]at h; exact mO _ h
  . rw[iN hc]at h
    rcases List.mem_cons.1 h with h|h
    . exact h▸List.mem_cons_self ..
    . exact mO _ (qfi h)
theorem qja {a:List UInt8} {v:Int}:∀{kv:List (List UInt8×Int)},lkS a kv=none->(kv.map (·.1)).Nodup->((qb1 a v kv).map (·.1)).Nodup
 | [],_,_=>by unfold qb1; simp
 | p::kv,h,hn=>by
  unfold lkS at h;unfold qb1;by_cases hc:a=p.1
  . rw[iP hc]at h; cases h
  . rw[iN hc]at h
    rw[List.map_cons,List.nodup_cons]at hn;rw[iN hc,List.map_cons,List.nodup_cons];refine⟨fun hm=>?_,qja h hn.2⟩;obtain⟨e,he,he2⟩:=List.mem_map.1 hm;rcases qii he with rfl|he
    . exact hc he2
    . exact hn.1 (List.mem_map.2 ⟨e,he,he2⟩)
theorem qfs {a:List UInt8}:∀{kv:List (List UInt8×Int)},(kv.map (·.1)).Nodup->((qa9 a kv).map (·.1)).Nodup
 | [],h=>h
 | p::kv,h=>by
  rw[List.map_cons,List.nodup_cons]at h;unfold qa9;by_cases hc:a=p.1
  . rw[iP hc]; exact h.2
  . rw[iN hc,List.map_cons,List.nodup_cons]
    refine⟨fun hm=>?_,qfs h.2⟩;obtain⟨e,he,he2⟩:=List.mem_map.1 hm;exact h.1 (List.mem_map.2 ⟨e,qfi he,he2⟩)
theorem qkt (i:Int) {d:Int} (f:Ino->Ino):∀{l:List Nod} {p:Nod},(l.map (·.no)).Nodup->qhm d l=some p->qf8 i (qfl d f l)+qj1 i p.ino.ents=qf8 i l+qj1 i (f p.ino).ents
 | [],p,_,h=>by cases h
 | q::l,p,hn,h=>by
  rw[List.map_cons,List.nodup_cons]at hn;unfold qhm at h;show qf8 i ((if q.no=d then({q with ino:=f q.ino}:Nod)else q)::qfl d f l)+_=_;by_cases hc:d=q.no
  . rw[iP hc]at h
    cases h
    have hrest:qfl d f l=l:=by
     unfold qfl
     conv=>rhs; rw[<- List.map_id l]
     refine List.map_congr_left fun x hx=>?_;rw[iN (fun e=>hn.1 (List.mem_map.2 ⟨x,hx,by rw[e,hc]⟩))];rfl
    rw[iP hc.symm,hrest,qc1,qc1];show qj1 i (f q.ino).ents+qf8 i l+qj1 i q.ino.ents=qj1 i q.ino.ents+qf8 i l+qj1 i (f q.ino).ents;omega
  . rw[iN hc]at h
    rw[iN (fun e=>hc e.symm),qc1,qc1];have:=qkt i f hn.2 h;omega
theorem qks (i:Int) {d:Int} {f:Ino->Ino} (hf:∀n,(f n).ents=n.ents):∀l:List Nod,qf8 i (qfl d f l)=qf8 i l
 | []=>rfl
 | q::l=>by
  show qf8 i ((if q.no=d then({q with ino:=f q.ino}:Nod)else q)::qfl d f l)=_;rw[qc1,qc1,qks i hf l];split
  . show qj1 i (f q.ino).ents+_=_
    rw[hf]
  . rfl
theorem cntT_del (j:Int) {i:Int}:∀{l:List Nod} {p:Nod},qhm i l=some p->qf8 j l=qf8 j (delN i l)+qj1 j p.ino.ents
 | [],p,h=>by cases h
 | q::l,p,h=>by
  unfold qhm at h;unfold delN;by_cases hc:i=q.no
  . rw[iP hc]at h
    cases h;rw[iP hc,qc1]; omega
  . rw[iN hc]at h
    rw[iN hc,qc1,qc1,cntT_del j h]; omega
theorem cntT_add (i:Int) (p:Nod):∀l:List Nod,qf8 i (l++[p])=qf8 i l+qj1 i p.ino.ents
 | []=>by rw[List.nil_append,qc1]; unfold qf8; simp
 | q::l=>by rw[List.cons_append,qc1,qc1,cntT_add i p l]; omega
theorem cntT_le {i:Int}:∀{l:List Nod} {p:Nod},p∈l->qj1 i p.ino.ents<=qf8 i l
 | q::l,p,h=>by
  rw[qc1];rcases List.mem_cons.1 h with rfl|h
  . omega
  . have:=cntT_le (i:=i) h
    omega
theorem cntT_mem {i:Int}:∀{l:List Nod},1<=qf8 i l->∃p∈l,∃e∈p.ino.ents,e.2=i
 | [],h=>by unfold qf8 at h; simp at h
 | q::l,h=>by
  rw[qc1]at h;by_cases hq:1<=qj1 i q.ino.ents
  . obtain⟨e,h1,h2⟩:=cntS_mem hq
    exact⟨q,List.mem_cons_self ..,e,h1,h2⟩
  . obtain⟨p,h1,h2⟩:=cntT_mem (l:=l) (i:=i) (show 1<=qf8 i l by omega)
    exact⟨p,mO _ h1,h2⟩
end Go.Proofs.Ytbihlgcdnhoknaa.W
