/-
  WHAT THE FUNCTIONS COME TO: each is read by the evaluator,printed,and told as a function of data,part 6 of 14 (no condition).
-/
import Derived.Test.YtbihlgcdnhoknaaW5
namespace Go.Proofs.Ytbihlgcdnhoknaa.W
open Go.Proofs.Ytbihlgcdnhoknaa.Ev
inductive Up (T:Tab):Int->Nat->Prop where
 | root:Up T 1 0
 | step {i:Int} {n:Nat} {q:Nod}:T.get i=some q->q.ino.kind=2->i≠1->Up T q.ino.up n->Up T i (n+1)
theorem Up.map {T T':Tab} (h:∀i q,T.get i=some q->q.ino.kind=2->∃q',T'.get i=some q'/\q'.ino.kind=2/\q'.ino.up=q.ino.up):∀{i:Int} {n:Nat},Up T i n->Up T' i n
 | _,_,.root=>.root
 | _,_,.step h1 h2 h3 h4=>by
  obtain⟨q',k1,k2,k3⟩:=h _ _ h1 h2;exact .step k1 k2 h3 (k3▸Up.map h h4)
structure Sd (T:Tab) (B:Nat):Prop where
 key:(T.nodes.map (·.no)).Nodup
 root:∃p,T.get 1=some p/\p.ino.kind=2/\p.ino.up=1
 lo:∀i p,T.get i=some p->1<=i/\i<=T.last
 dir:∀i p,T.get i=some p->p.ino.kind=2->p.ino.map.isSome
 fil:∀i p,T.get i=some p->p.ino.kind≠2->p.ino.ents=[]/\p.ino.up=0
 ent:∀i p,T.get i=some p->∀e∈p.ino.ents,e.2≠1/\∃q,T.get e.2=some q/\(q.ino.kind=2->q.ino.up=i)
 nod:∀i p,T.get i=some p->(p.ino.ents.map (·.1)).Nodup
 cnt:∀i p,T.get i=some p->i≠1->p.ino.links=(qf8 i T.nodes:Int)
 one:∀i p,T.get i=some p->p.ino.kind=2->i≠1->p.ino.links=1
 chn:∀i p,T.get i=some p->p.ino.kind=2->∃n,n<=B/\Up T i n
theorem Sd.mono {T:Tab} {B B':Nat} (h:Sd T B) (hB:B<=B'):Sd T B':=
 ⟨h.key,h.root,h.lo,h.dir,h.fil,h.ent,h.nod,h.cnt,h.one,fun i p h1 h2=>let ⟨n,k1,k2⟩:=h.chn i p h1 h2; ⟨n,Nat.le_trans k1 hB,k2⟩⟩
section
variable {T:Tab} {B:Nat}
theorem Sd.nums (h:Sd T B) {T':Tab} (hn:T'.nodes=T.nodes) (hl:T.last<=T'.last):Sd T' B:=by
 have hg:∀i,T'.get i=T.get i:=fun i=>by unfold Tab.get; rw[hn]
 refine⟨by rw[hn]; exact h.key,?_,fun i p hp=>?_,fun i p hp=>h.dir i p (by rw[<- hg]; exact hp),fun i p hp=>h.fil i p (by rw[<- hg]; exact hp),fun i p hp e he=>?_,fun i p hp=>h.nod i p (by rw[<- hg]; exact hp),fun i p hp h1=>?_,fun i p hp=>h.one i p (by rw[<- hg]; exact hp),fun i p hp hk=>?_⟩
 . obtain⟨p,k1,k2⟩:=h.root
   exact⟨p,by rw[hg]; exact k1,k2⟩
 . obtain⟨k1,k2⟩:=h.lo i p (by rw[<- hg]; exact hp)
   exact⟨k1,Int.le_trans k2 hl⟩
 . obtain⟨k1,q,k2,k3⟩:=h.ent i p (by rw[<- hg]; exact hp) e he
   exact⟨k1,q,by rw[hg]; exact k2,k3⟩
 . rw[hn]; exact h.cnt i p (by rw[<- hg]; exact hp) h1
 . obtain⟨n,k1,k2⟩:=h.chn i p (by rw[<- hg]; exact hp) hk
   exact⟨n,k1,k2.map fun i q hq hk=>⟨q,by rw[hg]; exact hq,hk,rfl⟩⟩
theorem Sd.turn (h:Sd T B) {i:Int} {q:Nod} (hq:T.get i=some q) {f:Ino->Ino} (hk:∀n,(f n).kind=n.kind) (hu:∀n,(f n).up=n.up) (hm:∀n,(f n).map=n.map) (he:∀n,(f n).ents=n.ents) (hl:∀n,(f n).links=n.links):Sd (T.upd i f) B:=by
 have hg:∀j p',(T.upd i f).get j=some p'->∃p,T.get j=some p/\p'.ino.kind=p.ino.kind/\p'.ino.up=p.ino.up/\p'.ino.map=p.ino.map/\p'.ino.ents=p.ino.ents/\p'.ino.links=p.ino.links:=fun j p' hp=>by
  by_cases hj:j=i
  . subst hj
    rw[qcd hq]at hp;cases hp;exact⟨q,hq,hk _,hu _,hm _,he _,hl _⟩
  . rw[qba hj]at hp
    exact⟨p',hp,rfl,rfl,rfl,rfl,rfl⟩
 have hg':∀j p,T.get j=some p->∃p',(T.upd i f).get j=some p'/\p'.ino.kind=p.ino.kind/\p'.ino.up=p.ino.up:=fun j p hp=>by
  by_cases hj:j=i
  . subst hj
    rw[hq]at hp; cases hp;exact⟨_,qcd hq,hk _,hu _⟩
  . exact⟨p,by rw[qba hj]; exact hp,rfl,rfl⟩
 refine⟨?_,?_,fun j p' hp=>?_,fun j p' hp hk2=>?_,fun j p' hp hk2=>?_,fun j p' hp e hee=>?_,fun j p' hp=>?_,fun j p' hp h1=>?_,fun j p' hp hk2 h1=>?_,fun j p' hp hk2=>?_⟩
 . show((qfl i f T.nodes).map (·.no)).Nodup
   rw[qcs]; exact h.key
 . obtain⟨p,k1,k2,k3⟩:=h.root
   obtain⟨p',m1,m2,m3⟩:=hg' 1 p k1;exact⟨p',m1,m2.trans k2,m3.trans k3⟩
 . obtain⟨p,k1,_⟩:=hg j p' hp
   exact h.lo j p k1
 . obtain⟨p,k1,k2,k3,k4,k5,k6⟩:=hg j p' hp
   rw[k4]; exact h.dir j p k1 (k2▸hk2)
 . obtain⟨p,k1,k2,k3,k4,k5,k6⟩:=hg j p' hp
   rw[k5,k3]; exact h.fil j p k1 (k2▸hk2)
 . obtain⟨p,k1,k2,k3,k4,k5,k6⟩:=hg j p' hp
   obtain⟨m1,x,m2,m3⟩:=h.ent j p k1 e (k5▸hee);obtain⟨x',n1,n2,n3⟩:=hg' _ x m2;exact⟨m1,x',n1,fun hx=>n3.trans (m3 (n2▸hx))⟩
 . obtain⟨p,k1,k2,k3,k4,k5,k6⟩:=hg j p' hp
   rw[k5]; exact h.nod j p k1
 . obtain⟨p,k1,k2,k3,k4,k5,k6⟩:=hg j p' hp
   show _=((qf8 j (qfl i f T.nodes):Nat):Int)
   rw[k6,qks j he]; exact h.cnt j p k1 h1
 . obtain⟨p,k1,k2,k3,k4,k5,k6⟩:=hg j p' hp
   rw[k6]; exact h.one j p k1 (k2▸hk2) h1
 . obtain⟨p,k1,k2,k3,k4,k5,k6⟩:=hg j p' hp
   obtain⟨n,m1,m2⟩:=h.chn j p k1 (k2▸hk2);exact⟨n,m1,m2.map fun x y hy hky=>let ⟨y',a1,a2,a3⟩:=hg' x y hy; ⟨y',a1,a2.trans hky,a3⟩⟩
theorem qm2 {d i:Int} {p q:Nod} (hp:T.get d=some p) (hq:T.get i=some q) (hdi:d≠i) (kv:List (List UInt8×Int)) (k:Int) (j:Int) :
 ((T.upd d (qbj kv)).upd i (addL k)).get j=if j=d then some {p with ino:=qbj kv p.ino}else if j=i then some {q with ino:=addL k q.ino}else T.get j:=by
 by_cases hj:j=d
 . subst hj
   rw[iP rfl,qba hdi,qcd hp]
 . rw[iN hj]
   by_cases hj2:j=i
   . subst hj2
     rw[iP rfl];exact qcd (by rw[qba hj]; exact hq)
   . rw[iN hj2,qba hj2,qba hj]
theorem cnt_two {d i:Int} {p:Nod} (hk:(T.nodes.map (·.no)).Nodup) (hp:T.get d=some p) (kv:List (List UInt8×Int)) (k:Int) (x:Int):qf8 x ((T.upd d (qbj kv)).upd i (addL k)).nodes+qj1 x p.ino.ents=qf8 x T.nodes+qj1 x kv:=by
 show qf8 x (qfl i (addL k) (qfl d (qbj kv) T.nodes))+_=_;rw[qks (f:=addL k) x (fun _=>rfl)];exact qkt x (qbj kv) hk hp
theorem Sd.link (h:Sd T B) {d i:Int} {p q:Nod} (hp:T.get d=some p) (hpk:p.ino.kind=2) (hq:T.get i=some q) (hqk:q.ino.kind≠2) {a:List UInt8} (ha:lkS a p.ino.ents=none):Sd ((T.upd d (qbj (qb1 a i p.ino.ents))).upd i (addL 1)) B:=by
 have hdi:d≠i:=fun e=>by
  subst e;rw[hp]at hq; cases hq;exact hqk hpk
 have hi1:i≠1:=fun e=>by
  subst e;obtain⟨r,r1,r2,_⟩:=h.root;rw[hq]at r1; cases r1;exact hqk r2
 have hg:=fun j=>qm2 hp hq hdi (qb1 a i p.ino.ents) 1 j
 have hg':∀j x,T.get j=some x->∃x',((T.upd d (qbj (qb1 a i p.ino.ents))).upd i (addL 1)).get j=some x'/\x'.ino.kind=x.ino.kind/\x'.ino.up=x.ino.up:=fun j x hx=>by
  rw[hg j];by_cases hj:j=d
  . subst hj
    rw[hp]at hx; cases hx;rw[iP rfl];exact⟨_,rfl,rfl,rfl⟩
  . rw[iN hj]
    by_cases hj2:j=i
    . subst hj2
      rw[hq]at hx; cases hx;rw[iP rfl];exact⟨_,rfl,rfl,rfl⟩
    . rw[iN hj2]
      exact⟨x,hx,rfl,rfl⟩
 have hb:∀j x',((T.upd d (qbj (qb1 a i p.ino.ents))).upd i (addL 1)).get j=some x'->∃x,T.get j=some x/\x'.ino.kind=x.ino.kind/\x'.ino.up=x.ino.up/\x'.ino.map=x.ino.map/\(j≠d->x'.ino.ents=x.ino.ents)/\(j=d->x'={p with ino:=qbj (qb1 a i p.ino.ents) p.ino}/\x=p)/\(j≠i->x'.ino.links=x.ino.links)/\(j=i->x'.ino.links=x.ino.links+1):=fun j x' hx=>by
  rw[hg j]at hx;by_cases hj:j=d
  . subst hj
    rw[iP rfl]at hx;cases hx;exact⟨p,hp,rfl,rfl,rfl,fun e=>absurd rfl e,fun _=>⟨rfl,rfl⟩,fun _=>rfl,fun e=>absurd e hdi⟩
  . rw[iN hj]at hx
    by_cases hj2:j=i
    . subst hj2
      rw[iP rfl]at hx;cases hx;exact⟨q,hq,rfl,rfl,rfl,fun _=>rfl,fun e=>absurd e hj,fun e=>absurd rfl e,fun _=>rfl⟩
    . rw[iN hj2]at hx
      exact⟨x',hx,rfl,rfl,rfl,fun _=>rfl,fun e=>absurd e hj,fun _=>rfl,fun e=>absurd e hj2⟩
 refine⟨?_,?_,fun j x' hx=>?_,fun j x' hx hk=>?_,fun j x' hx hk=>?_,fun j x' hx e he=>?_,fun j x' hx=>?_,fun j x' hx h1=>?_,fun j x' hx hk h1=>?_,fun j x' hx hk=>?_⟩
 . show((qfl i (addL 1) (qfl d (qbj (qb1 a i p.ino.ents)) T.nodes)).map (·.no)).Nodup
   rw[qcs,qcs]; exact h.key
 . obtain⟨r,k1,k2,k3⟩:=h.root
   obtain⟨r',m1,m2,m3⟩:=hg' 1 r k1;exact⟨r',m1,m2.trans k2,m3.trans k3⟩
 . obtain⟨x,k1,_⟩:=hb j x' hx
   exact h.lo j x k1
 . obtain⟨x,k1,k2,k3,k4,_⟩:=hb j x' hx
   rw[k4]; exact h.dir j x k1 (k2▸hk)
 . obtain⟨x,k1,k2,k3,k4,k5,k6,_⟩:=hb j x' hx
   have hj:j≠d:=fun e=>by
    obtain⟨e1,e2⟩:=k6 e;rw[k2,e2]at hk;exact hk hpk
   rw[k5 hj,k3]; exact h.fil j x k1 (k2▸hk)
 . obtain⟨x,k1,k2,k3,k4,k5,k6,_⟩:=hb j x' hx
   by_cases hj:j=d
   . obtain⟨e1,e2⟩:=k6 hj
     rw[e1]at he;rcases qii (show e∈qb1 a i p.ino.ents from he)with rfl|he
     . obtain⟨q',m1,m2,m3⟩:=hg' i q hq
       exact⟨hi1,q',m1,fun hh=>absurd (m2▸hh) hqk⟩
     . obtain⟨m1,y,m2,m3⟩:=h.ent d p hp e he
       obtain⟨y',n1,n2,n3⟩:=hg' _ y m2;exact⟨m1,y',n1,fun hh=>(n3.trans (m3 (n2▸hh))).trans hj.symm⟩
   . obtain⟨m1,y,m2,m3⟩:=h.ent j x k1 e (k5 hj▸he)
     obtain⟨y',n1,n2,n3⟩:=hg' _ y m2;exact⟨m1,y',n1,fun hh=>n3.trans (m3 (n2▸hh))⟩
 . obtain⟨x,k1,k2,k3,k4,k5,k6,_⟩:=hb j x' hx
   by_cases hj:j=d
   . rw[(k6 hj).1]
     exact qja ha (h.nod d p hp)
   . rw[k5 hj]; exact h.nod j x k1
 . obtain⟨x,k1,k2,k3,k4,k5,k6,k7,k8⟩:=hb j x' hx
   have hc:=cnt_two (i:=i) h.key hp (qb1 a i p.ino.ents) 1 j;rw[qne j i ha]at hc;have hx0:=h.cnt j x k1 h1;by_cases hj:j=i
   . rw[iP hj.symm]at hc
     rw[k8 hj,hx0];omega
   . rw[iN (fun e=>hj e.symm)]at hc
     rw[k7 hj,hx0];omega
 . obtain⟨x,k1,k2,k3,k4,k5,k6,k7,k8⟩:=hb j x' hx
   have hj:j≠i:=fun e=>by
    subst e;rw[hq]at k1; cases k1;exact hqk (k2▸hk)
   rw[k7 hj]; exact h.one j x k1 (k2▸hk) h1
 . obtain⟨x,k1,k2,_⟩:=hb j x' hx
   obtain⟨n,m1,m2⟩:=h.chn j x k1 (k2▸hk);exact⟨n,m1,m2.map fun x y hy hky=>let ⟨y',a1,a2,a3⟩:=hg' x y hy; ⟨y',a1,a2.trans hky,a3⟩⟩
end
section
variable {T:Tab} {B:Nat}
theorem two_fwd {d i:Int} {p q:Nod} (hp:T.get d=some p) (hq:T.get i=some q) (hdi:d≠i) (kv:List (List UInt8×Int)) (k:Int) {j:Int} {x:Nod} (hx:T.get j=some x):∃x',((T.upd d (qbj kv)).upd i (addL k)).get j=some x'/\x'.ino.kind=x.ino.kind/\x'.ino.up=x.ino.up:=by
 rw[qm2 hp hq hdi kv k j];by_cases hj:j=d
 . subst hj
   rw[hp]at hx; cases hx;rw[iP rfl];exact⟨_,rfl,rfl,rfl⟩
 . rw[iN hj]
   by_cases hj2:j=i
   . subst hj2
     rw[hq]at hx; cases hx;rw[iP rfl];exact⟨_,rfl,rfl,rfl⟩
   . rw[iN hj2]
     exact⟨x,hx,rfl,rfl⟩
theorem two_bwd {d i:Int} {p q:Nod} (hp:T.get d=some p) (hq:T.get i=some q) (hdi:d≠i) (kv:List (List UInt8×Int)) (k:Int) {j:Int} {x':Nod} (hx:((T.upd d (qbj kv)).upd i (addL k)).get j=some x') :
 ∃x,T.get j=some x/\x'.ino.kind=x.ino.kind/\x'.ino.up=x.ino.up/\x'.ino.map=x.ino.map/\(j≠d->x'.ino.ents=x.ino.ents)/\(j=d->x'={p with ino:=qbj kv p.ino}/\x=p)/\(j≠i->x'.ino.links=x.ino.links)/\(j=i->x'.ino.links=x.ino.links+k):=by
 rw[qm2 hp hq hdi kv k j]at hx;by_cases hj:j=d
 . subst hj
   rw[iP rfl]at hx;cases hx;exact⟨p,hp,rfl,rfl,rfl,fun e=>absurd rfl e,fun _=>⟨rfl,rfl⟩,fun _=>rfl,fun e=>absurd e hdi⟩
 . rw[iN hj]at hx
   by_cases hj2:j=i
   . subst hj2
     rw[iP rfl]at hx;cases hx;exact⟨q,hq,rfl,rfl,rfl,fun _=>rfl,fun e=>absurd e hj,fun e=>absurd rfl e,fun _=>rfl⟩
   . rw[iN hj2]at hx
     exact⟨x',hx,rfl,rfl,rfl,fun _=>rfl,fun e=>absurd e hj,fun _=>rfl,fun e=>absurd e hj2⟩
theorem cnt_less (h:Sd T B) {d i:Int} {p:Nod} (hp:T.get d=some p) {a:List UInt8} (ha:lkS a p.ino.ents=some i) (x:Int):qf8 x T.nodes=qf8 x ((T.upd d (qbj (qa9 a p.ino.ents))).upd i (addL (-1))).nodes+if i=x then 1 else 0:=by
 have hc:=cnt_two (i:=i) h.key hp (qa9 a p.ino.ents) (-1) x;have:=qol x ha;omega
theorem Sd.less (h:Sd T B) {d i:Int} {p q:Nod} (hp:T.get d=some p) (hq:T.get i=some q) (hqk:q.ino.kind≠2) {a:List UInt8} (ha:lkS a p.ino.ents=some i):Sd ((T.upd d (qbj (qa9 a p.ino.ents))).upd i (addL (-1))) B:=by
 have hdi:d≠i:=fun e=>by
  subst e;rw[hp]at hq; cases hq;have:=(h.fil _ p hp hqk).1;rw[this]at ha; cases ha
 have hb:=fun{j x'}=>two_bwd hp hq hdi (qa9 a p.ino.ents) (-1) (j:=j) (x':=x');have hf:=fun{j x}=>two_fwd hp hq hdi (qa9 a p.ino.ents) (-1) (j:=j) (x:=x);refine⟨?_,?_,fun j x' hx=>?_,fun j x' hx hk=>?_,fun j x' hx hk=>?_,fun j x' hx e he=>?_,fun j x' hx=>?_,fun j x' hx h1=>?_,fun j x' hx hk h1=>?_,fun j x' hx hk=>?_⟩
 . show((qfl i (addL (-1)) (qfl d (qbj (qa9 a p.ino.ents)) T.nodes)).map (·.no)).Nodup
   rw[qcs,qcs]; exact h.key
 . obtain⟨r,k1,k2,k3⟩:=h.root
   obtain⟨r',m1,m2,m3⟩:=hf k1;exact⟨r',m1,m2.trans k2,m3.trans k3⟩
 . obtain⟨x,k1,_⟩:=hb hx
   exact h.lo j x k1
 . obtain⟨x,k1,k2,k3,k4,_⟩:=hb hx
   rw[k4]; exact h.dir j x k1 (k2▸hk)
 . obtain⟨x,k1,k2,k3,k4,k5,k6,_⟩:=hb hx
   obtain⟨m1,m2⟩:=h.fil j x k1 (k2▸hk)
   have hj:j≠d:=fun e=>by
    rw[(k6 e).2]at m1;rw[m1]at ha; cases ha
   rw[k5 hj,k3]; exact⟨m1,m2⟩
 . obtain⟨x,k1,k2,k3,k4,k5,k6,_⟩:=hb hx
   have hin:e∈x.ino.ents:=by
    by_cases hj:j=d
    . obtain⟨e1,e2⟩:=k6 hj
      rw[e1]at he;rw[e2]; exact qfi (show e∈qa9 a p.ino.ents from he)
    . exact k5 hj▸he
   obtain⟨m1,y,m2,m3⟩:=h.ent j x k1 e hin;obtain⟨y',n1,n2,n3⟩:=hf m2;exact⟨m1,y',n1,fun hh=>n3.trans (m3 (n2▸hh))⟩
 . obtain⟨x,k1,k2,k3,k4,k5,k6,_⟩:=hb hx
   by_cases hj:j=d
   . rw[(k6 hj).1]
     exact qfs (h.nod d p hp)
   . rw[k5 hj]; exact h.nod j x k1
 . obtain⟨x,k1,k2,k3,k4,k5,k6,k7,k8⟩:=hb hx
   have hc:=cnt_less h hp ha j;have hx0:=h.cnt j x k1 h1;by_cases hj:j=i
   . rw[iP hj.symm]at hc
     rw[k8 hj,hx0];omega
   . rw[iN (fun e=>hj e.symm)]at hc
     rw[k7 hj,hx0];omega
 . obtain⟨x,k1,k2,k3,k4,k5,k6,k7,k8⟩:=hb hx
   have hj:j≠i:=fun e=>by
    subst e;rw[hq]at k1; cases k1;exact hqk (k2▸hk)
   rw[k7 hj]; exact h.one j x k1 (k2▸hk) h1
 . obtain⟨x,k1,k2,_⟩:=hb hx
   obtain⟨n,m1,m2⟩:=h.chn j x k1 (k2▸hk);exact⟨n,m1,m2.map fun x y hy hky=>let ⟨y',a1,a2,a3⟩:=hf hy; ⟨y',a1,a2.trans hky,a3⟩⟩
theorem Sd.bare (h:Sd T B) {i:Int} {q:Nod} (hq:T.get i=some q) (he:q.ino.ents=[]) {c:Int} {x:Nod} (hx:T.get c=some x) (hk:x.ino.kind=2) (h1:c≠1):x.ino.up≠i:=fun hu=>by
 have hl:=h.one c x hx hk h1;have hc:=h.cnt c x hx h1;obtain⟨p,hp,e,hpe,he2⟩:=cntT_mem (i:=c) (l:=T.nodes) (by omega);have hpg:T.get p.no=some p:=getN_of h.key hp;obtain⟨_,y,m2,m3⟩:=h.ent p.no p hpg e hpe;rw[he2,hx]at m2;cases m2;have hpi:p.no=i:=(m3 hk).symm.trans hu;rw[hpi,hq]at hpg;cases hpg;rw[he]at hpe;cases hpe
theorem Sd.last (h:Sd T B) {d i:Int} {p q:Nod} (hp:T.get d=some p) (hq:T.get i=some q) (hqe:q.ino.ents=[]) (hl:q.ino.links=1) {a:List UInt8} (ha:lkS a p.ino.ents=some i):Sd (((T.upd d (qbj (qa9 a p.ino.ents))).upd i (addL (-1))).del i) B:=by
 have hdi:d≠i:=fun e=>by
  subst e;rw[hp]at hq; cases hq;rw[hqe]at ha; cases ha
 have hi1:i≠1:=(h.ent d p hp (a,i) (qhq ha)).1;have hb:=fun{j x'}=>two_bwd hp hq hdi (qa9 a p.ino.ents) (-1) (j:=j) (x':=x');have hf:=fun{j x}=>two_fwd hp hq hdi (qa9 a p.ino.ents) (-1) (j:=j) (x:=x)
 have key2:(((T.upd d (qbj (qa9 a p.ino.ents))).upd i (addL (-1))).nodes.map (·.no)).Nodup:=by
  show((qfl i (addL (-1)) (qfl d (qbj (qa9 a p.ino.ents)) T.nodes)).map (·.no)).Nodup;rw[qcs,qcs]; exact h.key
 generalize hT2:(T.upd d (qbj (qa9 a p.ino.ents))).upd i (addL (-1))=T2 at *;have hnone:(T2.del i).get i=none:=qho key2;have hoth:∀j,j≠i->(T2.del i).get j=T2.get j:=fun j hj=>qgm hj T2.nodes
 have hni:∀{j x'},(T2.del i).get j=some x'->j≠i/\T2.get j=some x':=fun{j x'} hx=>by
  have hj:j≠i:=fun e=>by subst e; rw[hnone]at hx; cases hx
  exact⟨hj,by rw[<- hoth j hj]; exact hx⟩
 have hq2:∃q2,T2.get i=some q2/\q2.ino.ents=[]:=by
  obtain⟨q2,k1,_⟩:=hf hq;obtain⟨x,m1,m2,m3,m4,m5,_⟩:=hb k1;rw[hq]at m1; cases m1;exact⟨q2,k1,(m5 hdi.symm).trans hqe⟩
 obtain⟨q2,hq2,hq2e⟩:=hq2
 have hcd:∀x,qf8 x T2.nodes=qf8 x (T2.del i).nodes:=fun x=>by
  have:=cntT_del x (i:=i) (l:=T2.nodes) hq2;rw[hq2e]at this;show _=qf8 x (delN i T2.nodes);have e0:qj1 x []=0:=rfl;omega
 have hless:=fun x=>by
  have:=cnt_less h hp ha x;rw[hT2]at this;exact this
 have hzero:qf8 i T2.nodes=0:=by
  have h1:=h.cnt i q hq hi1;have h2:=hless i;rw[iP rfl]at h2;omega
 have hin:∀{j x' e},T2.get j=some x'->e∈x'.ino.ents->e.2≠i:=fun{j x' e} hx he hh=>by
  have h1:=cntS_pos he hh;have h2:=cntT_le (i:=i) (qar hx).1;omega
 have hup:∀{j n},Up T j n->j≠i->Up (T2.del i) j n:=fun{j n} hU=>by
  induction hU with
  | root=>exact fun _=>.root
  | @step c n y h1 h2 h3 h4 ih=>
   intro hc;obtain⟨y',k1,k2,k3⟩:=hf h1;refine .step (q:=y') (by rw[hoth c hc]; exact k1) (k2.trans h2) h3 ?_;rw[k3];exact ih (h.bare hq hqe h1 h2 h3)
 refine⟨?_,?_,fun j x' hx=>?_,fun j x' hx hk=>?_,fun j x' hx hk=>?_,fun j x' hx e he=>?_,fun j x' hx=>?_,fun j x' hx h1=>?_,fun j x' hx hk h1=>?_,fun j x' hx hk=>?_⟩
 . exact key2.sublist ((qku i T2.nodes).map _)
 . obtain⟨r,k1,k2,k3⟩:=h.root
   obtain⟨r',m1,m2,m3⟩:=hf k1;exact⟨r',by rw[hoth 1 (Ne.symm hi1)]; exact m1,m2.trans k2,m3.trans k3⟩
 . obtain⟨hj,hx2⟩:=hni hx
   obtain⟨x,k1,_⟩:=hb hx2;have:=h.lo j x k1;rw[<- hT2]; exact this
 . obtain⟨hj,hx2⟩:=hni hx
   obtain⟨x,k1,k2,k3,k4,_⟩:=hb hx2;rw[k4]; exact h.dir j x k1 (k2▸hk)
 . obtain⟨hj,hx2⟩:=hni hx
   obtain⟨x,k1,k2,k3,k4,k5,k6,_⟩:=hb hx2;obtain⟨m1,m2⟩:=h.fil j x k1 (k2▸hk)
   have hjd:j≠d:=fun e=>by
    rw[(k6 e).2]at m1;rw[m1]at ha; cases ha
   rw[k5 hjd,k3]; exact⟨m1,m2⟩
 . obtain⟨hj,hx2⟩:=hni hx
   obtain⟨x,k1,k2,k3,k4,k5,k6,_⟩:=hb hx2
   have hee:e∈x.ino.ents:=by
    by_cases hj:j=d
    . obtain⟨e1,e2⟩:=k6 hj
      rw[e1]at he;rw[e2]; exact qfi (show e∈qa9 a p.ino.ents from he)
    . exact k5 hj▸he
   obtain⟨m1,y,m2,m3⟩:=h.ent j x k1 e hee;obtain⟨y',n1,n2,n3⟩:=hf m2;exact⟨m1,y',by rw[hoth _ (hin hx2 he)]; exact n1,fun hh=>n3.trans (m3 (n2▸hh))⟩
 . obtain⟨hj,hx2⟩:=hni hx
   obtain⟨x,k1,k2,k3,k4,k5,k6,_⟩:=hb hx2;by_cases hj:j=d
   . rw[(k6 hj).1]
     exact qfs (h.nod d p hp)
   . rw[k5 hj]; exact h.nod j x k1
 . obtain⟨hj,hx2⟩:=hni hx
   obtain⟨x,k1,k2,k3,k4,k5,k6,k7,k8⟩:=hb hx2;have hc:=hless j;rw[iN (fun e=>hj e.symm)]at hc;rw[k7 hj,h.cnt j x k1 h1,<- hcd j];omega
 . obtain⟨hj,hx2⟩:=hni hx
   obtain⟨x,k1,k2,k3,k4,k5,k6,k7,k8⟩:=hb hx2;rw[k7 hj]; exact h.one j x k1 (k2▸hk) h1
 . obtain⟨hj,hx2⟩:=hni hx
   obtain⟨x,k1,k2,_⟩:=hb hx2;obtain⟨n,m1,m2⟩:=h.chn j x k1 (k2▸hk);exact⟨n,m1,hup m2 hj⟩
end
section
variable {T:Tab} {B:Nat}
theorem get_made {p pd:Nod} {d:Int} (hnew:∀i q,T.get i=some q->i<p.no) (hp:T.get d=some pd) (kv:List (List UInt8×Int)) (k:Int) (j:Int) :
 (qdo T p d kv k).get j=if j=d then some {pd with ino:=qbj kv pd.ino}else if j=p.no then some p else T.get j:=by
 have hadd:∀j,(T.add p).get j=match T.get j with|some q=>some q|none=>if j=p.no then some p else none:=fun j=>qhn j p T.nodes
 have hd:(T.add p).get d=some pd:=by rw[hadd,hp]
 have hm:(qdo T p d kv k).get j=((T.add p).upd d (qbj kv)).get j:=rfl;rw[hm];by_cases hj:j=d
 . subst hj
   rw[iP rfl,qcd hd]
 . rw[iN hj,qba hj,hadd]
   by_cases hj2:j=p.no
   . subst hj2
     cases hg:T.get p.no with
     | none=>simp
     | some q=>exact absurd (hnew _ q hg) (Int.lt_irrefl _)
   . rw[iN hj2]
     cases hg:T.get j with
     | none=>simp[hj2]
     | some q=>simp[hj2]
theorem Sd.made (h:Sd T B) {p pd:Nod} {d:Int} (hlast:T.last=p.no) (hnew:∀i q,T.get i=some q->i<p.no) (hp:T.get d=some pd) (hpk:pd.ino.kind=2) {a:List UInt8} (ha:lkS a pd.ino.ents=none)
 (h1:p.ino.links=1) (h2:p.ino.ents=[]) (h3:p.ino.kind=2->p.ino.map.isSome/\p.ino.up=d) (h4:p.ino.kind≠2->p.ino.up=0) (k:Int):Sd (qdo T p d (qb1 a p.no pd.ino.ents) k) (B+1):=by
 have hd:=h.lo d pd hp;have hdn:=hnew d pd hp;have hn1:p.no≠1:=by omega
 have hg:=fun j=>get_made hnew hp (qb1 a p.no pd.ino.ents) k j
 have hnn:T.get p.no=none:=by
  cases hx:T.get p.no with
  | none=>rfl
  | some q=>exact absurd (hnew _ q hx) (Int.lt_irrefl _)
 have hf:∀{j x},T.get j=some x->∃x',(qdo T p d (qb1 a p.no pd.ino.ents) k).get j=some x'/\x'.ino.kind=x.ino.kind/\x'.ino.up=x.ino.up:=fun{j x} hx=>by
  rw[hg j];by_cases hj:j=d
  . subst hj
    rw[hp]at hx; cases hx;rw[iP rfl];exact⟨_,rfl,rfl,rfl⟩
  . rw[iN hj,iN (fun e=>by rw[e,hnn]at hx; cases hx)]
    exact⟨x,hx,rfl,rfl⟩
 have hb:∀{j x'},(qdo T p d (qb1 a p.no pd.ino.ents) k).get j=some x'->(j=p.no/\x'=p)\/(j≠p.no/\∃x,T.get j=some x/\x'.ino.kind=x.ino.kind/\x'.ino.up=x.ino.up/\x'.ino.map=x.ino.map/\x'.ino.links=x.ino.links/\(j≠d->x'.ino.ents=x.ino.ents)/\(j=d->x'={pd with ino:=qbj (qb1 a p.no pd.ino.ents) pd.ino}/\x=pd)):=fun{j x'} hx=>by
  rw[hg j]at hx;by_cases hj:j=d
  . subst hj
    rw[iP rfl]at hx;cases hx;exact .inr ⟨fun e=>by omega,pd,hp,rfl,rfl,rfl,rfl,fun e=>absurd rfl e,fun _=>⟨rfl,rfl⟩⟩
  . rw[iN hj]at hx
    by_cases hj2:j=p.no
    . rw[iP hj2]at hx
      cases hx;exact .inl ⟨hj2,rfl⟩
    . rw[iN hj2]at hx
      exact .inr ⟨hj2,x',hx,rfl,rfl,rfl,rfl,fun _=>rfl,fun e=>absurd e hj⟩
 have keyA:((T.nodes++[p]).map (·.no)).Nodup:=by
  rw[List.map_append,List.nodup_append];refine⟨h.key,by simp,fun x hx y hy e=>?_⟩;obtain⟨z,hz,rfl⟩:=List.mem_map.1 hx;simp at hy;have:=hnew z.no z (getN_of h.key hz);omega
 have hgd:qhm d (T.nodes++[p])=some pd:=by
  rw[qhn];show(match T.get d with|some q=>some q|none=>_)=_;rw[hp]
 have hcnt:∀x,qf8 x (qdo T p d (qb1 a p.no pd.ino.ents) k).nodes=qf8 x T.nodes+if p.no=x then 1 else 0:=fun x=>by
  have h5:qf8 x (qfl d (qbj (qb1 a p.no pd.ino.ents)) (T.nodes++[p]))+qj1 x pd.ino.ents=qf8 x (T.nodes++[p])+qj1 x (qb1 a p.no pd.ino.ents):=qkt x (qbj (qb1 a p.no pd.ino.ents)) keyA hgd;rw[cntT_add,h2,qne x p.no ha]at h5;have e0:qj1 x []=0:=rfl;show qf8 x (qfl d (qbj (qb1 a p.no pd.ino.ents)) (T.nodes++[p]))=_;omega
 have hzero:qf8 p.no T.nodes=0:=by
  rcases Nat.eq_zero_or_pos (qf8 p.no T.nodes)with h0|h0
  . exact h0
  . obtain⟨x,hx,e,he,he2⟩:=cntT_mem (i:=p.no) (l:=T.nodes) h0
    obtain⟨_,y,m2,_⟩:=h.ent x.no x (getN_of h.key hx) e he;rw[he2,hnn]at m2; cases m2
 have hup:∀{j n},Up T j n->Up (qdo T p d (qb1 a p.no pd.ino.ents) k) j n:=fun{j n} hU=>hU.map fun x y hy hky=>let ⟨y',a1,a2,a3⟩:=hf hy; ⟨y',a1,a2.trans hky,a3⟩
 have hgn:(qdo T p d (qb1 a p.no pd.ino.ents) k).get p.no=some p:=by
  rw[hg,iN (by omega),iP rfl]
 refine⟨?_,?_,fun j x' hx=>?_,fun j x' hx hk=>?_,fun j x' hx hk=>?_,fun j x' hx e he=>?_,fun j x' hx=>?_,fun j x' hx hj1=>?_,fun j x' hx hk hj1=>?_,fun j x' hx hk=>?_⟩
 . show((qfl d (qbj (qb1 a p.no pd.ino.ents)) (T.nodes++[p])).map (·.no)).Nodup
   rw[qcs]; exact keyA
 . obtain⟨r,k1,k2,k3⟩:=h.root
   obtain⟨r',m1,m2,m3⟩:=hf k1;exact⟨r',m1,m2.trans k2,m3.trans k3⟩
 . show 1<=j/\j<=T.last
   rcases hb hx with⟨rfl,rfl⟩|⟨_,x,k1,_⟩
   . omega
   . exact h.lo j x k1
 . rcases hb hx with⟨rfl,rfl⟩|⟨_,x,k1,k2,k3,k4,_⟩
   . exact(h3 hk).1
   . rw[k4]; exact h.dir j x k1 (k2▸hk)
 . rcases hb hx with⟨rfl,rfl⟩|⟨_,x,k1,k2,k3,k4,k5,k6,k7⟩
   . exact⟨h2,h4 hk⟩
   . have hj:j≠d:=fun e=>by
      rw[k2,(k7 e).2]at hk;exact hk hpk
     rw[k6 hj,k3]; exact h.fil j x k1 (k2▸hk)
 . rcases hb hx with⟨rfl,rfl⟩|⟨_,x,k1,k2,k3,k4,k5,k6,k7⟩
   . rw[h2]at he; cases he
   . by_cases hj:j=d
     . obtain⟨e1,e2⟩:=k7 hj
       rw[e1]at he;rcases qii (show e∈qb1 a p.no pd.ino.ents from he)with rfl|he
       . exact⟨hn1,p,hgn,fun hh=>(h3 hh).2.trans hj.symm⟩
       . obtain⟨m1,y,m2,m3⟩:=h.ent d pd hp e he
         obtain⟨y',n1,n2,n3⟩:=hf m2;exact⟨m1,y',n1,fun hh=>(n3.trans (m3 (n2▸hh))).trans hj.symm⟩
     . obtain⟨m1,y,m2,m3⟩:=h.ent j x k1 e (k6 hj▸he)
       obtain⟨y',n1,n2,n3⟩:=hf m2;exact⟨m1,y',n1,fun hh=>n3.trans (m3 (n2▸hh))⟩
 . rcases hb hx with⟨rfl,rfl⟩|⟨_,x,k1,k2,k3,k4,k5,k6,k7⟩
   . rw[h2]; exact List.nodup_nil
   . by_cases hj:j=d
     . rw[(k7 hj).1]
       exact qja ha (h.nod d pd hp)
     . rw[k6 hj]; exact h.nod j x k1
 . rw[hcnt j]
   rcases hb hx with⟨rfl,rfl⟩|⟨hne,x,k1,k2,k3,k4,k5,k6,k7⟩
   . rw[iP rfl,hzero,h1]; rfl
   . rw[iN (fun e=>hne e.symm),k5,Nat.add_zero]; exact h.cnt j x k1 hj1
 . rcases hb hx with⟨rfl,rfl⟩|⟨hne,x,k1,k2,k3,k4,k5,k6,k7⟩
   . exact h1
   . rw[k5]; exact h.one j x k1 (k2▸hk) hj1
 . rcases hb hx with⟨rfl,rfl⟩|⟨hne,x,k1,k2,k3,k4,k5,k6,k7⟩
   . obtain⟨n,m1,m2⟩:=h.chn d pd hp hpk
     exact⟨n+1,by omega,.step hgn hk hn1 (by rw[(h3 hk).2]; exact hup m2)⟩
   . obtain⟨n,m1,m2⟩:=h.chn j x k1 (k2▸hk)
     exact⟨n,by omega,hup m2⟩
end
def setU (d:Int) (n:Ino):Ino:={n with up:=d}
inductive UpA (T:Tab) (i:Int):Int->Nat->Prop where
 | root:UpA T i 1 0
 | step {j:Int} {n:Nat} {q:Nod}:j≠i->T.get j=some q->q.ino.kind=2->j≠1->UpA T i q.ino.up n->UpA T i j (n+1)
section
variable {T:Tab} {B:Nat}
theorem qap (T:Tab) (d:Int) (f:Ino->Ino) (j:Int):(T.upd d f).get j=(T.get j).map fun p=>if j=d then{p with ino:=f p.ino}else p:=by
 by_cases hj:j=d
 . subst hj
   cases hg:T.get j with
   | none=>
    show qhm j (qfl j f T.nodes)=_;rw[ql3,show qhm j T.nodes=none from hg]; rfl
   | some p=>rw[qcd hg,Option.map_some,iP rfl]
 . rw[qba hj]
   cases T.get j with
   | none=>rfl
   | some p=>rw[Option.map_some,iN hj]
noncomputable def moved (T:Tab) (f:Int) (a:List UInt8) (t:Int) (c:List UInt8) (i:Int) (Ef Et:List (List UInt8×Int)) (k:Int):Tab:=
 if k=2 then((T.upd f (qbj (qa9 a Ef))).upd t (qbj (qb1 c i Et))).upd i (setU t)else(T.upd f (qbj (qa9 a Ef))).upd t (qbj (qb1 c i Et))
theorem Sd.move (h:Sd T B) {f t i:Int} {a c:List UInt8} {p pt q:Nod} (hp:T.get f=some p) (hpt:(T.upd f (qbj (qa9 a p.ino.ents))).get t=some pt) (hptk:pt.ino.kind=2) (ha:lkS a p.ino.ents=some i) (hq:T.get i=some q) (hc:lkS c pt.ino.ents=none)
 (hway:q.ino.kind=2->∃n,n<=B/\UpA T i t n):Sd (moved T f a t c i p.ino.ents pt.ino.ents q.ino.kind) (2*B+1):=by
 have hi1:i≠1:=(h.ent f p hp (a,i) (qhq ha)).1
 have hget:∀j,(moved T f a t c i p.ino.ents pt.ino.ents q.ino.kind).get j=(T.get j).map fun x=>
  (fun z:Nod=>if q.ino.kind=2 then(if j=i then({z with ino:=setU t z.ino}:Nod)else z)else z) ((fun y:Nod=>if j=t then({y with ino:=qbj (qb1 c i pt.ino.ents) y.ino}:Nod)else y) (if j=f then({x with ino:=qbj (qa9 a p.ino.ents) x.ino}:Nod)else x)):=fun j=>by
  unfold moved;by_cases hk:q.ino.kind=2
  . simp only[iP hk]
    rw[qap,qap,qap,Option.map_map,Option.map_map];rfl
  . simp only[iN hk]
    rw[qap,qap,Option.map_map];rfl
 generalize hT3:moved T f a t c i p.ino.ents pt.ino.ents q.ino.kind=T3 at *
 have hptf:∃x,T.get t=some x/\pt.ino.kind=x.ino.kind/\pt.ino.map=x.ino.map/\pt.ino.ents=if t=f then qa9 a p.ino.ents else x.ino.ents:=by
  rw[qap,Option.map_eq_some_iff]at hpt;obtain⟨x,hx,hxx⟩:=hpt;refine⟨x,hx,?_,?_,?_⟩<;>rw[<- hxx]<;>split<;>rfl
 obtain⟨xt,hxt,hxk,hxm,hxe⟩:=hptf
 have hc1:∀x,qf8 x T.nodes=qf8 x (T.upd f (qbj (qa9 a p.ino.ents))).nodes+if i=x then 1 else 0:=fun x=>by
  have h1:qf8 x (qfl f (qbj (qa9 a p.ino.ents)) T.nodes)+qj1 x p.ino.ents=qf8 x T.nodes+qj1 x (qa9 a p.ino.ents):=qkt x (qbj (qa9 a p.ino.ents)) h.key hp;have h2:=qol x ha;show _=qf8 x (qfl f (qbj (qa9 a p.ino.ents)) T.nodes)+_;omega
 have key1:((T.upd f (qbj (qa9 a p.ino.ents))).nodes.map (·.no)).Nodup:=by
  show((qfl f (qbj (qa9 a p.ino.ents)) T.nodes).map (·.no)).Nodup;rw[qcs]; exact h.key
 have hcnt:∀x,qf8 x T3.nodes=qf8 x T.nodes:=fun x=>by
  have h1:qf8 x (qfl t (qbj (qb1 c i pt.ino.ents)) (T.upd f (qbj (qa9 a p.ino.ents))).nodes)+qj1 x pt.ino.ents=qf8 x (T.upd f (qbj (qa9 a p.ino.ents))).nodes+qj1 x (qb1 c i pt.ino.ents):=qkt x (qbj (qb1 c i pt.ino.ents)) key1 hpt;rw[qne x i hc]at h1;have h2:=hc1 x
  have h3:qf8 x T3.nodes=qf8 x (qfl t (qbj (qb1 c i pt.ino.ents)) (T.upd f (qbj (qa9 a p.ino.ents))).nodes):=by
   rw[<- hT3];unfold moved;split
   . exact qks (f:=setU t) x (fun _=>rfl) _
   . rfl
  omega
 have key3:(T3.nodes.map (·.no)).Nodup:=by
  rw[<- hT3];unfold moved;split
  . show((qfl i (setU t) (qfl t (qbj (qb1 c i pt.ino.ents)) (qfl f (qbj (qa9 a p.ino.ents)) T.nodes))).map (·.no)).Nodup
    rw[qcs,qcs,qcs]; exact h.key
  . show((qfl t (qbj (qb1 c i pt.ino.ents)) (qfl f (qbj (qa9 a p.ino.ents)) T.nodes)).map (·.no)).Nodup
    rw[qcs,qcs]; exact h.key
 have honce:q.ino.kind=2->∀j x1 e,(T.upd f (qbj (qa9 a p.ino.ents))).get j=some x1->e∈x1.ino.ents->e.2≠i:=fun hk j x1 e hx he hh=>by
  have h1:=h.one i q hq hk hi1;have h2:=h.cnt i q hq hi1;have h3:=hc1 i;rw[iP rfl]at h3;have h4:=cntS_pos he hh;have h5:=cntT_le (i:=i) (qar hx).1;omega
 have hf:∀{j x},T.get j=some x->∃x',T3.get j=some x'/\x'.ino.kind=x.ino.kind/\x'.ino.map=x.ino.map/\x'.ino.links=x.ino.links/\x'.ino.up=(if q.ino.kind=2/\j=i then t else x.ino.up)/\
  x'.ino.ents=(if j=t then qb1 c i pt.ino.ents else if j=f then qa9 a p.ino.ents else x.ino.ents):=fun{j x} hx=>by
  refine⟨_,by rw[hget,hx]; rfl,?_⟩;by_cases h4:j=f
  . simp only[iP h4]
    by_cases h3:j=t
    . simp only[iP h3]
      by_cases h1:q.ino.kind=2
      . simp only[iP h1]
        by_cases h2:j=i
        . simp only[iP h2,iP (And.intro h1 h2)]
          exact⟨rfl,rfl,rfl,rfl,rfl⟩
        . simp only[iN h2,iN (fun e:q.ino.kind=2/\j=i=>h2 e.2)]
          exact⟨rfl,rfl,rfl,rfl,rfl⟩
      . simp only[iN h1,iN (fun e:q.ino.kind=2/\j=i=>h1 e.1)]
        exact⟨rfl,rfl,rfl,rfl,rfl⟩
    . simp only[iN h3]
      by_cases h1:q.ino.kind=2
      . simp only[iP h1]
        by_cases h2:j=i
        . simp only[iP h2,iP (And.intro h1 h2)]
          exact⟨rfl,rfl,rfl,rfl,rfl⟩
        . simp only[iN h2,iN (fun e:q.ino.kind=2/\j=i=>h2 e.2)]
          exact⟨rfl,rfl,rfl,rfl,rfl⟩
      . simp only[iN h1,iN (fun e:q.ino.kind=2/\j=i=>h1 e.1)]
        exact⟨rfl,rfl,rfl,rfl,rfl⟩
  . simp only[iN h4]
    by_cases h3:j=t
    . simp only[iP h3]
      by_cases h1:q.ino.kind=2
      . simp only[iP h1]
        by_cases h2:j=i
        . simp only[iP h2,iP (And.intro h1 h2)]
          exact⟨rfl,rfl,rfl,rfl,rfl⟩
        . simp only[iN h2,iN (fun e:q.ino.kind=2/\j=i=>h2 e.2)]
          exact⟨rfl,rfl,rfl,rfl,rfl⟩
      . simp only[iN h1,iN (fun e:q.ino.kind=2/\j=i=>h1 e.1)]
        exact⟨rfl,rfl,rfl,rfl,rfl⟩
    . simp only[iN h3]
      by_cases h1:q.ino.kind=2
      . simp only[iP h1]
        by_cases h2:j=i
        . simp only[iP h2,iP (And.intro h1 h2)]
          exact⟨rfl,rfl,rfl,rfl,rfl⟩
        . simp only[iN h2,iN (fun e:q.ino.kind=2/\j=i=>h2 e.2)]
          exact⟨trivial,trivial,trivial,trivial,trivial⟩
      . simp only[iN h1,iN (fun e:q.ino.kind=2/\j=i=>h1 e.1)]
        exact⟨trivial,trivial,trivial,trivial,trivial⟩
 have hb:∀{j x'},T3.get j=some x'->∃x,T.get j=some x:=fun{j x'} hx=>by
  rw[hget,Option.map_eq_some_iff]at hx;obtain⟨x,hx,_⟩:=hx;exact⟨x,hx⟩
 have both:∀{j x'},T3.get j=some x'->∃x,T.get j=some x/\x'.ino.kind=x.ino.kind/\x'.ino.map=x.ino.map/\x'.ino.links=x.ino.links/\x'.ino.up=(if q.ino.kind=2/\j=i then t else x.ino.up)/\
  x'.ino.ents=(if j=t then qb1 c i pt.ino.ents else if j=f then qa9 a p.ino.ents else x.ino.ents):=fun{j x'} hx=>by
  obtain⟨x,hx0⟩:=hb hx;obtain⟨x2,k1,k2⟩:=hf hx0;rw[hx]at k1; cases k1;exact⟨x,hx0,k2⟩
 have hkf:p.ino.kind=2:=by
  by_cases hk:p.ino.kind=2
  . exact hk
  . have:=(h.fil f p hp hk).1
    rw[this]at ha; cases ha
 have hup1:∀{j n},UpA T i j n->Up T3 j n:=fun{j n} hU=>by
  induction hU with
  | root=>exact .root
  | @step j n y h1 h2 h3 h4 h5 ih=>
   obtain⟨y',k1,k2,k3,k4,k5,k6⟩:=hf h2;rw[iN (fun e=>h1 e.2)]at k5;exact .step k1 (k2.trans h3) h4 (by rw[k5]; exact ih)
 have hup2:∀{j n},Up T j n->∃m,m<=n+B+1/\Up T3 j m:=fun{j n} hU=>by
  induction hU with
  | root=>exact⟨0,by omega,.root⟩
  | @step j n y h1 h2 h3 h4 ih=>
   obtain⟨y',k1,k2,k3,k4,k5,k6⟩:=hf h1;by_cases hj:q.ino.kind=2/\j=i
   . rw[iP hj]at k5
     obtain⟨nt,w1,w2⟩:=hway hj.1;exact⟨nt+1,by omega,.step k1 (k2.trans h2) h3 (by rw[k5]; exact hup1 w2)⟩
   . rw[iN hj]at k5
     obtain⟨m,m1,m2⟩:=ih;exact⟨m+1,by omega,.step k1 (k2.trans h2) h3 (by rw[k5]; exact m2)⟩
 refine⟨key3,?_,fun j x' hx=>?_,fun j x' hx hk=>?_,fun j x' hx hk=>?_,fun j x' hx e he=>?_,fun j x' hx=>?_,fun j x' hx h1=>?_,fun j x' hx hk h1=>?_,fun j x' hx hk=>?_⟩
 . obtain⟨r,k1,k2,k3⟩:=h.root
   obtain⟨r',m1,m2,m3,m4,m5,m6⟩:=hf k1;rw[iN (fun e=>hi1 e.2.symm)]at m5;exact⟨r',m1,m2.trans k2,m5.trans k3⟩
 . obtain⟨x,k1,_⟩:=both hx
   have:=h.lo j x k1
   have hl:T3.last=T.last:=by
    rw[<- hT3]; unfold moved; split<;>rfl
   rw[hl]; exact this
 . obtain⟨x,k1,k2,k3,_⟩:=both hx
   rw[k3]; exact h.dir j x k1 (k2▸hk)
 . obtain⟨x,k1,k2,k3,k4,k5,k6⟩:=both hx
   have hxk2:x.ino.kind≠2:=k2▸hk;obtain⟨m1,m2⟩:=h.fil j x k1 hxk2
   have hjt:j≠t:=fun e=>by
    subst e;rw[hxt]at k1; cases k1;exact hxk2 (hxk.symm.trans hptk)
   have hjf:j≠f:=fun e=>by
    subst e;rw[hp]at k1; cases k1;exact hxk2 hkf
   rw[k6,iN hjt,iN hjf,k5,iN (fun e=>by
    obtain⟨e1,e2⟩:=e;subst e2;rw[hq]at k1; cases k1
    exact hxk2 e1)]
   exact⟨m1,m2⟩
 . obtain⟨x,k1,k2,k3,k4,k5,k6⟩:=both hx
   have hsplit:(j=t/\e=(c,i))\/(e∈x.ino.ents/\∃x1,(T.upd f (qbj (qa9 a p.ino.ents))).get j=some x1/\e∈x1.ino.ents):=by
    rw[k6]at he;have hx1:(T.upd f (qbj (qa9 a p.ino.ents))).get j=some (if j=f then{x with ino:=qbj (qa9 a p.ino.ents) x.ino}else x):=by rw[qap,k1]; rfl
    by_cases hjt:j=t
    . rw[iP hjt]at he
      rcases qii he with rfl|he
      . exact .inl ⟨hjt,rfl⟩
      . right
        have hpe:(T.upd f (qbj (qa9 a p.ino.ents))).get j=some pt:=by rw[hjt]; exact hpt
        refine⟨?_,pt,hpe,he⟩;rw[hx1]at hpe;cases hpe;by_cases hjf:j=f
        . rw[iP hjf]at he
          have hxp:x=p:=by
           rw[hjf,hp]at k1;exact(Option.some.inj k1).symm
          rw[hxp]; exact qfi (show e∈qa9 a p.ino.ents from he)
        . rw[iN hjf]at he
          exact he
    . rw[iN hjt]at he
      by_cases hjf:j=f
      . rw[iP hjf]at he hx1
        have hxp:x=p:=by
         rw[hjf,hp]at k1;exact(Option.some.inj k1).symm
        exact .inr ⟨by rw[hxp]; exact qfi he,_,hx1,he⟩
      . rw[iN hjf]at he hx1
        exact .inr ⟨he,_,hx1,he⟩
   rcases hsplit with⟨rfl,rfl⟩|⟨hex,x1,hx1,hex1⟩
   . obtain⟨q',m1,m2,m3,m4,m5,m6⟩:=hf hq
     exact⟨hi1,q',m1,fun hh=>by rw[m5,iP ⟨m2▸hh,rfl⟩]⟩
   . obtain⟨m1,y,m2,m3⟩:=h.ent j x k1 e hex
     obtain⟨y',n1,n2,n3,n4,n5,n6⟩:=hf m2;refine⟨m1,y',n1,fun hh=>?_⟩;rw[n5,iN (fun e'=>honce e'.1 j x1 e hx1 hex1 e'.2)];exact m3 (n2▸hh)
 . obtain⟨x,k1,k2,k3,k4,k5,k6⟩:=both hx
   rw[k6];by_cases hjt:j=t
   . rw[iP hjt]
     refine qja hc ?_;rw[hxe];split
     . exact qfs (h.nod f p hp)
     . exact h.nod t xt hxt
   . rw[iN hjt]
     split
     . exact qfs (h.nod f p hp)
     . exact h.nod j x k1
 . obtain⟨x,k1,k2,k3,k4,_⟩:=both hx
   rw[k4,hcnt j]; exact h.cnt j x k1 h1
 . obtain⟨x,k1,k2,k3,k4,_⟩:=both hx
   rw[k4]; exact h.one j x k1 (k2▸hk) h1
 . obtain⟨x,k1,k2,_⟩:=both hx
   obtain⟨n,m1,m2⟩:=h.chn j x k1 (k2▸hk);obtain⟨m,w1,w2⟩:=hup2 m2;exact⟨m,by omega,w2⟩
end
open Go.RowKit
abbrev Bs:=List UInt8
theorem bless_iff:∀{x y:Bs},Op.bytesLess x y=true↔x<y
 | [],[]=>by simp[Op.bytesLess]
 | _::_,[]=>by simp[Op.bytesLess]
 | [],_::_=>by simp[Op.bytesLess]
 | a::x,b::y=>by
  simp only[Op.bytesLess,Bool.or_eq_true,decide_eq_true_eq,bA,beq_iff_eq];rw[List.cons_lt_cons_iff,bless_iff (x:=x) (y:=y)]
def insB (x:Bs):List Bs->List Bs
 | []=>[x]
 | y::l=>if y<x then y::insB x l else x::y::l
def qkh:List Bs->List Bs
 | []=>[]
 | x::l=>insB x (qkh l)
theorem qid (x:Bs):∀l:List Bs,(insB x l).Perm (x::l)
 | []=>.refl _
 | y::l=>by
  unfold insB;split
  . exact((qid x l).cons y).trans (.swap x y l)
  . exact .refl _
theorem qfk:∀l:List Bs,(qkh l).Perm l
 | []=>.refl _
 | x::l=>(qid x (qkh l)).trans ((qfk l).cons x)
theorem insB_pw {x:Bs}:∀{l:List Bs},l.Pairwise (·<·)->x∉l->(insB x l).Pairwise (·<·)
 | [],_,_=>by simp[insB]
 | y::l,h,hx=>by
  unfold insB;rw[List.pairwise_cons]at h;simp only[List.mem_cons,not_or]at hx;split
  . rename_i hlt
    refine List.pairwise_cons.2 ⟨fun z hz=>?_,insB_pw h.2 hx.2⟩;rcases List.mem_cons.1 ((qid x l).mem_iff.1 hz)with rfl|hz
    . exact hlt
    . exact h.1 z hz
  . rename_i hlt
    have hxy:x<y:=by
     rcases List.le_iff_lt_or_eq.1 (List.not_lt.1 hlt)with h|h
     . exact h
     . exact absurd h hx.1
    refine List.pairwise_cons.2 ⟨fun z hz=>?_,List.pairwise_cons.2 h⟩;rcases List.mem_cons.1 hz with rfl|hz
    . exact hxy
    . exact List.lt_trans hxy (h.1 z hz)
theorem sortB_pw:∀{l:List Bs},l.Nodup->(qkh l).Pairwise (·<·)
 | [],_=>.nil
 | x::l,h=>by
  rw[List.nodup_cons]at h;exact insB_pw (sortB_pw h.2) fun hm=>h.1 ((qfk l).mem_iff.1 hm)
theorem insS_ins (x:Bs):∀l:List Bs,insS x.length (qaz x) (l.map kp)=(insB x l).map kp
 | []=>rfl
 | y::l=>by
  rw[List.map_cons];unfold insS insB;rw[show qiu (kp y).1 (kp y).1 (kp y).2 x.length (qaz x)=Op.bytesLess y x from qe5 y x];by_cases h:y<x
  . rw[bless_iff.2 h,iP h,cT,insS_ins x l]; rfl
  . rw[iN h,show Op.bytesLess y x=false from by rw[Bool.eq_false_iff]; exact fun e=>h (bless_iff.1 e)]; rfl
theorem keysS_sort:∀{kv:List (Bs×Int)} {es:List ME},qfp es=kvS kv->keysS es=some ((qkh (kv.map (·.1))).map kp)
 | [],[],_=>rfl
 | [],e::es,h=>by simp[qfp,kvS]at h
 | p::kv,[],h=>by simp[qfp,kvS]at h
 | p::kv,e::es,h=>by
  simp only[qfp,kvS,List.map_cons,List.cons.injEq,pM]at h;obtain⟨⟨h1,_⟩,h3⟩:=h;unfold keysS;rw[h1,keysS_sort (kv:=kv) (es:=es) h3];show((some ((qkh (kv.map (·.1))).map kp)).bind fun q=>some (insS p.1.length (qaz p.1) q))=_;rw[oB,insS_ins]; rfl
theorem rising_of:∀{l:List Bs},l.Pairwise (·<·)->qpz (l.map kp)=true
 | [],_=>rfl
 | [x],_=>rfl
 | x::y::l,h=>by
  rw[List.pairwise_cons]at h;have h2:=rising_of h.2;rw[List.map_cons]at h2;rw[List.map_cons,List.map_cons];unfold qpz;rw[h2,show qiu (kp x).1 (kp x).1 (kp x).2 (kp y).1 (kp y).2=Op.bytesLess x y from qe5 x y,bless_iff.2 (h.1 y (List.mem_cons_self ..))];rfl
theorem qmz:∀{kv:List (Bs×Int)} {es:List ME},qfp es=kvS kv->(∀p∈kv,p.1.length<4611686018427387904)->qg3 es=true
 | [],[],_,_=>rfl
 | [],e::es,h,_=>by simp[qfp,kvS]at h
 | p::kv,[],h,_=>by simp[qfp,kvS]at h
 | p::kv,e::es,h,hs=>by
  simp only[qfp,kvS,List.map_cons,List.cons.injEq,pM]at h;obtain⟨⟨h1,_⟩,h3⟩:=h;unfold qg3;rw[h1,qmz (kv:=kv) (es:=es) h3 fun q hq=>hs q (mO _ hq)];show(Nat.blt p.1.length 4611686018427387904&&true)=true;rw[blt_true.2 (hs p (List.mem_cons_self ..))]; rfl
section
variable {S U:St}
theorem lnS_of {v:V} {s:St} {n:Nat} (hv:∀l k,v≠.str l k) (h:lenV v=some n):lnS v s=some (.int .i64 (n:Int),s):=by
 unfold lnS;split
 . exact absurd rfl (hv _ _)
 . rw[h]; rfl
theorem rowOf_get {l:List Bs} {i:Nat} {a:Bs} (h:l[i]?=some a):(qe2 l)[i]?=some (Ev.one (sv a)):=by unfold qe2; rw[List.getElem?_map,h]; rfl
def qel:V->Option Nat
 | .slice r _ _ _=>some r
 | .oslice r _ _ _=>some r
 | _=>none
def TL (S:St) (v:V) (l:List Bs):Prop:=(l=[]/\(v=.nilslice\/v=.eslice\/∃r c,v=.slice r 0 0 c))\/
 ∃r off L,RowAt S r 9 1 (qe2 L)/\r<S.next/\off+l.length<=L.length/\(L.drop off).take l.length=l/\(v=.oslice r off l.length 1\/∃c,v=.slice r off l.length c)
theorem TL.nil:TL S .nilslice []:=.inl ⟨rfl,.inl rfl⟩
theorem TL.own {r:Nat} {l:List Bs} (h:RowAt S r 9 1 (qe2 l)) (hr:r<S.next):TL S (.oslice r 0 l.length 1) l:=.inr ⟨r,0,l,h,hr,by omega,by simp,.inl rfl⟩
theorem TL.sli {r c:Nat} {l:List Bs} (h:RowAt S r 9 1 (qe2 l)) (hr:r<S.next):TL S (.slice r 0 l.length c) l:=.inr ⟨r,0,l,h,hr,by omega,by simp,.inr ⟨c,rfl⟩⟩
theorem TL.grew {W:Nat->Prop} {v:V} {l:List Bs} (h:TL S v l) (hw:∀r e,qel v=some r->RowAt S r 9 1 e->¬W r) (g:Grew W S U):TL U v l:=by
 rcases h with h|⟨r,off,L,h1,h2,h3,h4,h5⟩
 . exact .inl h
 . have hb:qel v=some r:=by rcases h5 with rfl|⟨c,rfl⟩<;>rfl
   exact .inr ⟨r,off,L,h1.grew h2 (hw r _ hb h1) g,Nat.lt_of_lt_of_le h2 g.next,h3,h4,h5⟩
theorem TL.grew0 {v:V} {l:List Bs} (h:TL S v l) (g:Grew (fun _=>False) S U):TL U v l:=h.grew (fun _ _ _ _ h=>h) g
theorem TL.lenV {v:V} {l:List Bs} (h:TL S v l):Ev.lenV v=some l.length:=by
 rcases h with⟨rfl,rfl|rfl|⟨r,c,rfl⟩⟩|⟨r,off,L,h1,h2,h3,h4,rfl|⟨c,rfl⟩⟩<;>rfl
theorem TL.notStr {v:V} {l:List Bs} (h:TL S v l):∀a b,v≠.str a b:=by
 rcases h with⟨rfl,rfl|rfl|⟨r,c,rfl⟩⟩|⟨r,off,L,h1,h2,h3,h4,rfl|⟨c,rfl⟩⟩<;>intro a b e<;>cases e
theorem TL.len {v:V} {l:List Bs} (h:TL S v l) (U:St):lnS v U=some (.int .i64 (l.length:Int),U):=lnS_of h.notStr h.lenV
theorem TL.ix {v:V} {l:List Bs} (h:TL S v l) {i:Nat} {a:Bs} (ha:l[i]?=some a):∃r o L,ixP 1 v (.int .i64 (i:Int))=some (.ptr r o)/\RowAt S r 9 1 L/\L[o]?=some (Ev.one (sv a)):=by
 obtain⟨hi,he⟩:=List.getElem?_eq_some_iff.1 ha;rcases h with⟨rfl,_⟩|⟨r,off,L,h1,h2,h3,h4,h5⟩
 . cases hi
 . refine⟨r,off+i*1,qe2 L,?_,h1,?_⟩
   . have:ixP 1 v (.int .i64 (i:Int))=bif Nat.blt i l.length then some (V.ptr r (off+i*1))else none:=by rcases h5 with rfl|⟨c,rfl⟩<;>rfl
     rw[this,blt_true.2 hi]; rfl
   . refine rowOf_get ?_
     rw[Nat.mul_one];have:((L.drop off).take l.length)[i]?=some a:=by rw[h4]; exact ha
     rw[List.getElem?_take,iP hi,List.getElem?_drop]at this;exact this
theorem sorted_run (n:Nat) (ho:S.on=false) {b r e:Nat} (hb:Bx S b e [.map r]) {kv:List (Bs×Int)} (h:MapAt S r (kvS kv)) (hn:(kv.map (·.1)).Nodup) (hs:∀p∈kv,p.1.length<4611686018427387904) (hl:kv.length<1000000) :
 ∃v U,(ev E0 KD (n+1)).f 38 [.fn (.func 66) [] [.ptr b 0]] S=some (.ret v,U)/\TL U v (qkh (kv.map (·.1)))/\Grew (fun _=>False) S U:=by
 obtain⟨es,c,h1,h2,h3,h4⟩:=h
 have hlen:es.length=kv.length:=by
  have:=congrArg List.length h2;simpa [qfp,kvS]using this
 have hso:qnt es c=some ((qkh (kv.map (·.1))).map kp):=by
  unfold qnt;rw[h3,ble_true.2 h4,qmz h2 hs,blt_true.2 (by omega:es.length<1000000)];simp only[Bool.and_self,cT];rw[keysS_sort h2,oB,rising_of (sortB_pw hn)]; rfl
 have hk:(qd8 [66] 9).run [.fn (.func 66) [] [.ptr b 0]] S=qgt 9 (.map r) S:=by
  show(bif memN 66 [66]&&Nat.beq 0 0 then(ld S b 0).bind fun q=>qgt 9 q.1 q.2 else none)=_;have hl:=Bx6.ld ho hb big1 (i:=0) rfl;rw[show ld S b 0=some (.map r,S)from hl];rfl
 have hev:∀R,(qd8 [66] 9).run [.fn (.func 66) [] [.ptr b 0]] S=some R->(ev E0 KD (n+1)).f 38 [.fn (.func 66) [] [.ptr b 0]] S=some R:=fun R hR=>by
  rw[qhk (K:=KD) (f:=38) (g:=qd8 [66] 9) (by rfl)];exact hR
 have hsk:qgt 9 (.map r) S=(match(qkh (kv.map (·.1))).map kp with
  | []=>some (.ret .nilslice,S)
  | x::l=>some (.ret (.oslice S.next 0 (l.length+1) 1),qag S 9 1 (qhv (x::l)))):=by
  unfold qgt;simp only;rw[qni ho h1,oB];simp only;rw[hso,oB];generalize (qkh (kv.map (·.1))).map kp=L;cases L<;>rfl
 rw[hsk]at hk;cases hq:qkh (kv.map (·.1))with
 | nil=>
  rw[hq]at hk;exact⟨_,S,hev _ hk,.nil,Grew.refl _ _⟩
 | cons x l=>
  rw[hq]at hk;refine⟨_,_,hev _ hk,?_,qcq ho _ _⟩;have hll:(x::l).length=(l.map kp).length+1:=by rw[lM]; rfl
  rw[<- hll];refine .own ?_ (by show S.next<S.next+1; omega)
  have hrk:qhv ((x::l).map kp)=qe2 (x::l):=by
   unfold qhv qe2;rw[List.map_map]; rfl
  have hlt:(x::l).length<1000000:=by rw[<- hq,(qfk _).length_eq,lM]; exact hl
  have:=qgs (e:=9) (z:=1) (l:=qe2 (x::l)) ho (by omega) (by rw[rowOf_length,Nat.one_mul]; unfold big; omega);rw[<- hrk]at this;rw[<- hrk];exact this
theorem sorted_none (n:Nat) (ho:S.on=false) {b e:Nat} (hb:Bx S b e [.nilmap]):(ev E0 KD (n+1)).f 38 [.fn (.func 66) [] [.ptr b 0]] S=some (.ret .nilslice,S):=by
 rw[qhk (K:=KD) (f:=38) (g:=qd8 [66] 9) (by rfl)];show(bif memN 66 [66]&&Nat.beq 0 0 then(ld S b 0).bind fun q=>qgt 9 q.1 q.2 else none)=_;have hl:=Bx6.ld ho hb big1 (i:=0) rfl;rw[show ld S b 0=some (.nilmap,S)from hl]; rfl
theorem rd39 {n:Nat} {args:List V} {s:St} {r:En×St} (e:qb6 E0 (ev E0 KD n) qa4 Try.f39 B39 args s=some r):(ev E0 KD (n+1)).f 39 args s=some r:=qaa (c:=C39) (d:=B39) (by kernel_rfl) (by kernel_rfl) (qa5 C39 _ (by kernel_rfl)) rfl e
theorem rd18 {n:Nat} {args:List V} {s:St} {r:En×St} (e:qb6 E0 (ev E0 KD n) qa4 Try.f18 B18 args s=some r):(ev E0 KD (n+1)).f 18 args s=some r:=qaa (c:=C18) (d:=B18) (by kernel_rfl) (by kernel_rfl) (qa5 C18 _ (by kernel_rfl)) rfl e
variable {b r:Nat} {T:Tab}
def Tab.names (T:Tab) (i:Int):List Bs:=match T.get i with
 | some p=>qkh (p.ino.ents.map (·.1))
 | none=>[]
theorem names_run (h:TabAt S b r T) (m:Nat) (i:Int) (hn:∀p,T.get i=some p->(p.ino.ents.map (·.1)).Nodup/\(∀e∈p.ino.ents,e.1.length<4611686018427387904)/\p.ino.ents.length<1000000) :
 ∃v U,(ev E0 KD (m+2)).f 18 [.ptr b 0,.int .i64 i] S=some (.ret v,U)/\TL U v (T.names i)/\Grew (fun _=>False) S U:=by
 unfold Tab.names;cases hg:T.get i with
 | none=>
  refine⟨.nilslice,S,rd18 ?_,.nil,Grew.refl _ _⟩;show F18 (ev E0 KD (m+1)) qa4 (.ptr b 0) (.int .i64 i) S=_;rw[F18_eq,qhp h m i,callP_ret,hg];unfold qjw;rw[eq62n,oB,ifK_bool,cT]
 | some p=>
  dsimp only;obtain⟨n1,n2,n3⟩:=hn p hg
  have hov:OneV (mapV p.ino.map):=by
   cases p.ino.map with
   | none=>exact⟨rfl,rfl,rfl,rfl⟩
   | some k=>exact⟨rfl,rfl,rfl,rfl⟩
  obtain⟨A,a1,a2,a3,a4⟩:=qi7 h.on 63 hov;have hA:=h.grewF a3
  have hk:(ev E0 KD (m+1)).f 39 [mapV p.ino.map] S=some (.ret (.fn (.func 66) [] [.ptr S.next 0]),A):=rd39 (by
   show F39 (ev E0 KD m) qa4 (mapV p.ino.map) S=_
   rw[F39_eq,a1]; rfl)
  have go:∀v U,(ev E0 KD (m+1)).f 38 [.fn (.func 66) [] [.ptr S.next 0]] A=some (.ret v,U)->(ev E0 KD (m+2)).f 18 [.ptr b 0,.int .i64 i] S=some (.ret v,U):=fun v U e=>rd18 (by
   show F18 (ev E0 KD (m+1)) qa4 (.ptr b 0) (.int .i64 i) S=_;rw[F18_eq,qhp h m i,callP_ret,hg];unfold qjw;dsimp only;rw[eq62p,oB,ifK_bool,cF,qc5,oB,qax,oB,Nat.zero_add,h.nd1 hg (v:=mapV p.ino.map) rfl,oB];dsimp only
   rw[hk,callP_ret,e,callP_ret])
  cases hm:p.ino.map with
  | none=>
   rw[hm]at a2;rw[h.no p (qar hg).1 hm];exact⟨_,_,go _ _ (sorted_none m hA.on a2),.nil,a3⟩
  | some k=>
   rw[hm]at a2;obtain⟨v,U,s1,s2,s3⟩:=sorted_run m hA.on a2 (hA.em p (qar hg).1 k hm) n1 n2 n3;exact⟨v,U,go _ _ s1,s2,a3.trans s3⟩
end
end Go.Proofs.Ytbihlgcdnhoknaa.W
