/-
  WHAT THE FUNCTIONS COME TO: each is read by the evaluator,printed,and told as a function of data,part 13 of 14 (no condition).
-/
import Derived.Test.YtbihlgcdnhoknaaW12
import Derived.Test.YtbihlgcdnhoknaaProg
import Derived.KernelRfl
namespace Go.Proofs.Ytbihlgcdnhoknaa.W
open Go.Proofs.Ytbihlgcdnhoknaa.Ev Go.RowKit
set_option maxRecDepth 100000
section
variable {S U:St} {b r:Nat} {T:Tab} {R:RT} {k:Nat}
theorem sortB_nil {l:List Bs}:qkh l=[]↔l=[]:=by
 constructor
 . intro h
   have:=(qfk l).length_eq;rw[h]at this;exact List.eq_nil_of_length_eq_zero this.symm
 . rintro rfl; rfl
theorem Okp.unlinkE (ok:Okp T R k) (d:Int) (a:Bs):qey T d a=R.unlinkE d a:=by
 unfold qey RT.unlinkE;rw[ok.rel.dir,ok.rel.find];by_cases h0:R.dirE d=0
 . rw[iP h0,iP h0]
   cases hg:R.find d a with
   | none=>rfl
   | some i=>
    dsimp only;have hf:T.find d a=some i:=by rw[ok.rel.find]; exact hg
    unfold Tab.find at hf;rw[oI]at hf;obtain⟨p,hp,hl⟩:=hf;obtain⟨_,q,hq,_⟩:=ok.sd.ent d p hp _ (qhq hl);have hnm:T.names i=qkh (q.ino.ents.map (·.1)):=by unfold Tab.names; rw[hq]
    rw[hq,<- ok.rel.names ok.sd,hnm];dsimp only;by_cases hq0:q.ino.ents=[]
    . rw[iP hq0,iP (by rw[hq0]; rfl)]
    . rw[iN hq0,iN (fun e=>hq0 (by simpa using sortB_nil.1 e))]
 . rw[iN h0,iN h0]
theorem Rel.live {B:Nat} (h:Rel T R) (hs:Sd T B) {d i:Int} {a:Bs} (hf:R.find d a=some i):R.kind i≠0:=by
 rw[<- h.find]at hf;unfold Tab.find at hf;rw[oI]at hf;obtain⟨p,hp,hl⟩:=hf;obtain⟨_,q,hq,_⟩:=hs.ent d p hp _ (qhq hl);rw[h.kind hq];have:=(h.nod i q hq).2.2.2.2.1;omega
theorem find_ent {R:RT} {d i:Int} {a:Bs} (h:R.find d a=some i):∃e0,R.E.find? (qh1 d a)=some e0/\e0.ino=i:=by
 unfold RT.find at h;rw[Option.map_eq_some_iff]at h;exact h
theorem qjb {R:RT} {d i:Int} {a:Bs} (h:R.find d a=some i) (hi1:i≠1):qb7 d (R.less d a).E=qa9 a (qb7 d R.E)/\(∀x,x≠d->qb7 x (R.less d a).E=qb7 x R.E)/\(∀x,(R.less d a).linksR x=R.linksR x-if x=i then 1 else 0)/\(R.less d a).E.length+1=R.E.length/\∀e∈(R.less d a).E,e∈R.E:=by
 obtain⟨e0,h1,h2⟩:=find_ent h;obtain⟨k1,k2,k3,k4⟩:=erase_ents d a h1;have hE:=less_E h;refine⟨by rw[hE]; exact k1,fun x hx=>by rw[hE]; exact k2 x hx,fun x=>?_,by rw[hE]; exact k4,fun e he=>by rw[hE]at he; exact List.mem_of_mem_eraseIdx he⟩;unfold RT.linksR;by_cases hx:x=1
 . rw[iP hx,iP hx,iN (fun q=>hi1 (q.symm.trans hx))]; rfl
 . rw[iN hx,iN hx,hE]
   have:=k3 x;rw[h2]at this;by_cases hxi:x=i
   . rw[iP hxi.symm]at this
     rw[iP hxi]; omega
   . rw[iN (fun q=>hxi q.symm)]at this
     rw[iN hxi]; omega
theorem Rel.lessd (h:Rel T R) {d i:Int} {p q:Nod} (hp:T.get d=some p) (hq:T.get i=some q) (hdi:d≠i) (hi1:i≠1) {a:Bs} (hf:R.find d a=some i):Rel ((T.upd d (qbj (qa9 a p.ino.ents))).upd i (addL (-1))) (R.less d a):=by
 have hget:=qm2 hp hq hdi (qa9 a p.ino.ents) (-1);obtain⟨f1,f2,f3,f4,f5⟩:=qjb hf hi1;refine⟨h.q,h.last,fun j q' hj=>?_,fun j hj=>?_,h.used,fun e he=>h.nam e (f5 e he)⟩
 . rw[hget]at hj
   by_cases h1:j=d
   . subst h1
     rw[iP rfl]at hj;cases hj;obtain⟨k1,k2,k3,k4,k5⟩:=h.nod j p hp;refine⟨k1,k2,?_,?_,k5⟩
     . show qa9 a p.ino.ents=_
       rw[f1,k3]
     . rw[f3,iN hdi]
       show p.ino.links=_;rw[k4]; omega
   . rw[iN h1]at hj
     by_cases h2:j=i
     . subst h2
       rw[iP rfl]at hj;cases hj;obtain⟨k1,k2,k3,k4,k5⟩:=h.nod j q hq;refine⟨k1,k2,?_,?_,k5⟩
       . show q.ino.ents=_
         rw[f2 j h1]; exact k3
       . rw[f3,iP rfl]
         show q.ino.links+-1=_;rw[k4]; omega
     . rw[iN h2]at hj
       obtain⟨k1,k2,k3,k4,k5⟩:=h.nod j q' hj;exact⟨k1,k2,by rw[f2 j h1]; exact k3,by rw[f3,iN h2,k4]; omega,k5⟩
 . rw[hget]at hj
   by_cases h1:j=d
   . rw[iP h1]at hj; cases hj
   . rw[iN h1]at hj
     by_cases h2:j=i
     . rw[iP h2]at hj; cases hj
     . rw[iN h2]at hj
       obtain⟨k1,k2⟩:=h.non j hj;exact⟨k1,by rw[f2 j h1]; exact k2⟩
theorem Rel.gone (h:Rel T R) (hkey:(T.nodes.map (·.no)).Nodup) {i:Int} {q:Nod} (hq:T.get i=some q) (he:q.ino.ents=[]):Rel {T.del i with ui:=T.ui-1,ub:=T.ub-(q.ino.data.length:Int)} (R.upd i fun _=>⟨0,0,[]⟩):=by
 obtain⟨e1,e2,e3,e4⟩:=RT.upd_E (R:=R) (i:=i) (f:=fun _=>⟨0,0,[]⟩);obtain⟨hi1,⟨x,x1,x2,x3,x4⟩,k3,k4,k5,k6⟩:=h.nod i q hq
 have hg:∀j,({T.del i with ui:=T.ui-1,ub:=T.ub-(q.ino.data.length:Int)}:Tab).get j=if j=i then none else T.get j:=fun j=>by
  by_cases hj:j=i
  . subst hj
    rw[iP rfl];exact qho hkey
  . rw[iN hj]
    exact qgm hj T.nodes
 have hxk:0<x.kind:=by omega
 have hu:=upd_used (g:=fun _=>(⟨0,0,[]⟩:RIno)) x1;have o1:one1 (⟨0,0,[]⟩:RIno)=0:=rfl;have o2:one2 (⟨0,0,[]⟩:RIno)=0:=rfl;refine⟨⟨h.q.1.trans e2.symm,h.q.2.trans e3.symm⟩,h.last.trans (by rw[e4]),fun j q' hj=>?_,fun j hj=>?_,?_,by rw[e1]; exact h.nam⟩
 . rw[hg]at hj
   by_cases h1:j=i
   . rw[iP h1]at hj; cases hj
   . rw[iN h1]at hj
     obtain⟨m1,⟨y,y1,y2⟩,m3,m4,m5⟩:=h.nod j q' hj;have hne:(j-1).toNat≠(i-1).toNat:=by omega
     exact⟨m1,⟨y,by rw[RT.upd_get,iN hne]; exact y1,y2⟩,by rw[e1]; exact m3,by unfold RT.linksR; rw[e1]; exact m4,m5⟩
 . rw[hg]at hj
   by_cases h1:j=i
   . subst h1
     refine⟨?_,by rw[e1,<- k3]; exact he⟩;unfold RT.kind;rw[iP hi1,RT.upd_get,iP rfl,x1]; rfl
   . rw[iN h1]at hj
     obtain⟨m1,m2⟩:=h.non j hj;refine⟨?_,by rw[e1]; exact m2⟩;unfold RT.kind at m1 ⊢;by_cases hj1:1<=j
     . have hne:(j-1).toNat≠(i-1).toNat:=by omega
       rw[iP hj1]at m1 ⊢;rw[RT.upd_get,iN hne]; exact m1
     . rw[iN hj1]
 . rw[hu,o1,o2,show one1 x=1 from iP hxk,show one2 x=(x.data.length:Int)from iP hxk,x4]
   refine⟨?_,?_⟩
   . show T.ui-1=_
     rw[h.used.1]; dsimp only; omega
   . show T.ub-(q.ino.data.length:Int)=_
     rw[h.used.2]; dsimp only; omega
theorem p_unlink (h:TabAt S b r T) (ok:Okp T R k) (hk:k<=60) (m:Nat) (d:Int) (a:Bs):∃U T',(ev E0 KD (m+5)).f 14 [.ptr b 0,.int .i64 d,sv a] S=some (.ret (.int .i64 (R.unlinkE d a)),U)/\Pft S U b r T T' (R.unlink d a) k:=by
 by_cases he:qey T d a=0
 . have he2:R.unlinkE d a=0:=by rw[<- ok.unlinkE]; exact he
   have he':=he;unfold qey at he';by_cases hd:qf9 T d=0
   . rw[iP hd]at he'
     obtain⟨p,hp,hpk⟩:=qgv hd;obtain⟨mp,hm⟩:=qon ok.sd hp hpk;cases hf:T.find d a with
     | none=>rw[hf]at he'; cases he'
     | some i=>
      have hfR:R.find d a=some i:=by rw[<- ok.rel.find]; exact hf
      have hl:lkS a p.ino.ents=some i:=by
       unfold Tab.find at hf;rw[hp]at hf; exact hf
      obtain⟨hi1,q,hq,_⟩:=ok.sd.ent d p hp _ (qhq hl);rw[hf]at he';dsimp only at he';rw[hq]at he';dsimp only at he'
      have hqe:q.ino.ents=[]:=by
       by_cases hx:q.ino.ents=[]
       . exact hx
       . rw[iN hx]at he'; cases he'
      have hdi:d≠i:=fun e=>by
       subst e;rw[hp]at hq; cases hq;rw[hqe]at hl; cases hl
      have hn:=ok.linksB hk hq;have hpd:=(ok.data hq).1;have hqk4:=(ok.rel.nod i q hq).2.2.2.1;obtain⟨f1,f2,f3,f4,f5⟩:=qjb hfR hi1;have hl2:(R.less d a).linksR i=q.ino.links-1:=by rw[f3,iP rfl,<- hqk4]
      have hrel:=ok.rel.lessd hp hq hdi hi1 hfR
      have hun:R.unlink d a=if(R.less d a).linksR i=0 then(R.less d a).upd i (fun _=>⟨0,0,[]⟩)else R.less d a:=by
       unfold RT.unlink;rw[iP he2,hfR]
      have hlE:=ok.lenE;have hlL:=ok.lenL;by_cases h1:q.ino.links=1
      . obtain⟨U,u1,u2,u3⟩:=unlink_last h m d a hd hp hm hl hq hqe h1 (ok.fits hk) (by omega)
        refine⟨U,_,by rw[he2]; exact u1,u2,?_,u3,fun x hx=>.inl ?_⟩
        . rw[hun,iP (by omega)]
          obtain⟨e1,e2,e3,e4⟩:=RT.upd_E (R:=R.less d a) (i:=i) (f:=fun _=>⟨0,0,[]⟩)
          have hkey:(((T.upd d (qbj (qa9 a p.ino.ents))).upd i (addL (-1))).nodes.map (·.no)).Nodup:=by
           show((qfl i (addL (-1)) (qfl d (qbj (qa9 a p.ino.ents)) T.nodes)).map (·.no)).Nodup;rw[qcs,qcs]; exact ok.sd.key
          have hq2:((T.upd d (qbj (qa9 a p.ino.ents))).upd i (addL (-1))).get i=some {q with ino:=addL (-1) q.ino}:=by rw[qm2 hp hq hdi,iN (fun e=>hdi e.symm),iP rfl]
          have hgone:=hrel.gone hkey hq2 hqe;exact⟨((ok.sd.last hp hq hqe h1 hl).nums (T':={((T.upd d (qbj (qa9 a p.ino.ents))).upd i (addL (-1))).del i with ui:=T.ui-1,ub:=T.ub-(q.ino.data.length:Int)}) rfl (Int.le_refl _)).mono (pow_le k),hgone,by rw[e4]; show R.L.length<=_; omega,by rw[e1]; omega,qqd (R:=R.less d a) ok.short (fun _ _=>Nat.zero_le _),by rw[e2,e3]; exact ok.qs⟩
        . exact qfy (i:=d) (f:=qbj (qa9 a p.ino.ents)) (fun _=>rfl) (qfy (i:=i) (f:=addL (-1)) (fun _=>rfl) (own_del (i:=i) hx))
      . obtain⟨U,u1,u2,u3⟩:=unlink_more h m d a hd hp hm hl hq hqe (by unfold qaj; omega) h1
        refine⟨U,_,by rw[he2]; exact u1,u2,?_,u3,fun x hx=>.inl (qfy (i:=d) (f:=qbj (qa9 a p.ino.ents)) (fun _=>rfl) (qfy (i:=i) (f:=addL (-1)) (fun _=>rfl) hx))⟩;rw[hun,iN (by omega)];have hqk:q.ino.kind≠2:=fun e=>h1 (ok.sd.one i q hq e hi1);exact⟨(ok.sd.less hp hq hqk hl).mono (pow_le k),hrel,by show R.L.length<=_; omega,by omega,ok.short,ok.qs⟩
   . rw[iN hd]at he'
     exact absurd he' hd
 . obtain⟨U,u1,u2,u3⟩:=unlink_err h ok.sd (fun i p hp=>by have:=ok.entsL hp; omega) m d a he
   rw[ok.unlinkE]at u1 he;refine⟨U,T,u1,?_⟩;unfold RT.unlink;rw[iN he];exact .none u2 ok (u3.mono fun _ _ h=>h.elim)
theorem Rel.makeE (h:Rel T R) (d:Int) (a:Bs) (kind mode:Int) (data:Bs):qn5 T d a kind mode data=R.makeE d a kind mode data:=by
 unfold qn5 RT.makeE;rw[h.placeC,h.free,h.room]
theorem likes_kind {kind mode:Int} {data:Bs} (h:qky kind mode data=0):(1<=kind/\kind<=3)/\qgp kind data=true:=by
 have hlk:qgp kind data=true:=by
  cases hx:qgp kind data with
  | true=>rfl
  | false=>unfold qky at h; rw[hx]at h; cases h
 refine⟨?_,hlk⟩;unfold qgp at hlk;by_cases h1:kind=1
 . omega
 . rw[iN h1]at hlk
   by_cases h2:kind=2
   . omega
   . rw[iN h2]at hlk
     by_cases h3:kind=3
     . omega
     . rw[iN h3]at hlk; cases hlk
theorem Rel.maded {B:Nat} (h:Rel T R) (hs:Sd T B) {d:Int} {q:Nod} (hq:T.get d=some q) {a:Bs} (ha:lkS a q.ino.ents=none) (hal:a.length<=56) {kind mode:Int} {data:Bs} (hk:1<=kind/\kind<=3) (nb:Nat) (up:Int) (mo:Option Nat) :
 Rel (qdo {T with last:=T.last+1} ⟨T.last+1,nb,qjo kind mode data up mo⟩ d (qb1 a (T.last+1) q.ino.ents) data.length) (R.made d a kind mode data):=by
 have hlast:=h.last
 have hnew:∀i p,({T with last:=T.last+1}:Tab).get i=some p->i<T.last+1:=fun i p hp=>by
  have:=(hs.lo i p hp).2;omega
 have hget:=get_made (T:={T with last:=T.last+1}) (p:=⟨T.last+1,nb,qjo kind mode data up mo⟩) hnew hq (qb1 a (T.last+1) q.ino.ents) data.length
 have hl1:1<=T.last:=by
  obtain⟨p,hp,_⟩:=hs.root;exact(hs.lo 1 p hp).2
 have hd:=hs.lo d q hq;have hnl:(⟨d,a,(R.L.length:Int)+1⟩:REnt).ino≠1:=by show(R.L.length:Int)+1≠1; omega
 have hlr:=qk7 (R:=R) (e:=⟨d,a,(R.L.length:Int)+1⟩) hnl;have hlr2:∀j,(R.made d a kind mode data).linksR j=R.linksR j+if j=(R.L.length:Int)+1 then 1 else 0:=hlr
 have hent:∀j,qb7 j (R.made d a kind mode data).E=qb7 j R.E++if d=j then [(a,(R.L.length:Int)+1)]else []:=fun j=>by
  show qb7 j (R.E++[_])=_;rw[qkz,qow]
 have hnn:T.get (T.last+1)=none:=by
  cases hg:T.get (T.last+1)with
  | none=>rfl
  | some x=>have:=(hs.lo _ x hg).2; omega
 have hold:∀{j:Int} {x:RIno},R.L[(j-1).toNat]?=some x->(R.made d a kind mode data).L[(j-1).toNat]?=some x:=fun{j x} hx=>by
  show(R.L++[_])[_]?=_;rw[List.getElem?_append_left (List.getElem?_eq_some_iff.1 hx).1]; exact hx
 refine⟨h.q,?_,fun j q' hj=>?_,fun j hj=>?_,?_,fun e he=>?_⟩
 . show T.last+1=(((R.L++[_]).length:Nat):Int)
   rw[lAq,hlast]; rfl
 . rw[hget]at hj
   by_cases h1:j=d
   . subst h1
     rw[iP rfl]at hj;cases hj;obtain⟨k1,⟨x,x1,x2⟩,k3,k4,k5⟩:=h.nod j q hq;refine⟨k1,⟨x,hold x1,x2⟩,?_,?_,k5⟩
     . show qb1 a (T.last+1) q.ino.ents=_
       rw[hent,iP rfl,qhd _ _ _ ha,k3,hlast]
     . rw[hlr2,iN (by omega)]
       show q.ino.links=_;rw[k4]; omega
   . rw[iN h1]at hj
     by_cases h2:j=T.last+1
     . rw[iP h2]at hj
       cases hj;have hidx:(j-1).toNat=R.L.length:=by omega
       refine⟨by omega,⟨⟨kind,mode,data⟩,?_,rfl,rfl,rfl⟩,?_,?_,hk⟩
       . show(R.L++[_])[_]?=_
         rw[hidx,List.getElem?_append_right (lR _),Nat.sub_self]; rfl
       . show([]:List (Bs×Int))=_
         rw[hent,iN (fun e=>h1 e.symm),List.append_nil,h2];exact(h.non _ hnn).2.symm
       . show(1:Int)=_
         rw[hlr2,iP (by omega)]
         have:cntE j R.E=0:=by
          rcases Nat.eq_zero_or_pos (cntE j R.E)with q|q
          . exact q
          . obtain⟨e,e1,e2⟩:=cntE_pos q
            obtain⟨_,_,y,_,y2,_⟩:=h.entry_in hs e1;rw[e2,h2,hnn]at y2; cases y2
         unfold RT.linksR;rw[iN (by omega),this]; rfl
     . rw[iN h2]at hj
       obtain⟨k1,⟨x,x1,x2⟩,k3,k4,k5⟩:=h.nod j q' hj;exact⟨k1,⟨x,hold x1,x2⟩,by rw[hent,iN (fun e=>h1 e.symm),List.append_nil]; exact k3,by rw[hlr2,iN (by omega),k4]; omega,k5⟩
 . rw[hget]at hj
   by_cases h1:j=d
   . rw[iP h1]at hj; cases hj
   . rw[iN h1]at hj
     by_cases h2:j=T.last+1
     . rw[iP h2]at hj; cases hj
     . rw[iN h2]at hj
       obtain⟨k1,k2⟩:=h.non j hj;refine⟨?_,by rw[hent,iN (fun e=>h1 e.symm),List.append_nil]; exact k2⟩;unfold RT.kind at k1 ⊢;by_cases hj1:1<=j
       . rw[iP hj1]at k1 ⊢
         show(match(R.L++[_])[(j-1).toNat]? with|some x=>x.kind|none=>0)=0;rcases Nat.lt_or_ge (j-1).toNat R.L.length with hlt|hge
         . rw[List.getElem?_append_left hlt]; exact k1
         . rw[List.getElem?_append_right hge,List.getElem?_eq_none (by simp; omega)]
       . rw[iN hj1]
 . have hsum:(R.made d a kind mode data).used=(R.used.1+1,R.used.2+(data.length:Int)):=by
    rw[qnu,qnu];show(sum1 one1 (R.L++[_]),sum1 one2 (R.L++[_]))=_;rw[sum1_app,sum1_app,show one1 (⟨kind,mode,data⟩:RIno)=1 from iP (by show 0<kind; omega),show one2 (⟨kind,mode,data⟩:RIno)=(data.length:Int)from iP (by show 0<kind; omega)]
   rw[hsum];exact⟨by show T.ui+1=_; rw[h.used.1],by show T.ub+(data.length:Int)=_; rw[h.used.2]⟩
 . rcases List.mem_append.1 (show e∈R.E++[_]from he)with he|he
   . exact h.nam e he
   . rw[List.mem_singleton]at he
     subst he; exact hal
end
section
variable {S U:St} {b r:Nat} {T:Tab} {R:RT} {k:Nat}
theorem Okp.maded (ok:Okp T R k) {d:Int} {q:Nod} (hq:T.get d=some q) (hqk:q.ino.kind=2) {a:Bs} (ha:lkS a q.ino.ents=none) (hal:a.length<=56) {kind mode:Int} {data:Bs} (hkk:1<=kind/\kind<=3) (hd:data.length<=300) (nb:Nat) (up:Int) (mo:Option Nat)
 (h3:kind=2->mo.isSome/\up=d) (h4:kind≠2->up=0) :
 Okp (qdo {T with last:=T.last+1} ⟨T.last+1,nb,qjo kind mode data up mo⟩ d (qb1 a (T.last+1) q.ino.ents) data.length) (R.made d a kind mode data) (k+1):=by
 have hs1:Sd {T with last:=T.last+1} (2^k-1):=ok.sd.nums rfl (by show T.last<=T.last+1; omega)
 have hnew:∀i p,({T with last:=T.last+1}:Tab).get i=some p->i<T.last+1:=fun i p hp=>by
  have:=(ok.sd.lo i p hp).2;omega
 have hs:=hs1.made (p:=⟨T.last+1,nb,qjo kind mode data up mo⟩) (by rfl) hnew hq hqk ha rfl rfl h3 h4 data.length;refine⟨hs.mono (by rw[<- pow_step]; omega),ok.rel.maded ok.sd hq ha hal hkk nb up mo,?_,?_,fun x hx=>?_,ok.qs⟩
 . have:=ok.lenL
   show(R.L++[_]).length<=_;rw[lAq]; simp; omega
 . have:=ok.lenE
   show(R.E++[_]).length<=_;rw[lAq]; simp; omega
 . rcases List.mem_append.1 (show x∈R.L++[_]from hx)with hx|hx
   . exact ok.short x hx
   . rw[List.mem_singleton]at hx
     subst hx; exact hd
theorem p_make (h:TabAt S b r T) (ok:Okp T R k) (hk:k<=60) (m:Nat) (d:Int) (a:Bs) (kind mode:Int) (data:Bs) (ha:a.length<9223372036854775808) (hd:data.length<=300) :
 ∃U T',(ev E0 KD (m+6)).f 8 [.ptr b 0,.int .i64 d,sv a,.int .i64 kind,.int .i64 mode,sv data] S=some (.ret (.tuple [.int .i64 (R.makeN d a kind mode data),.int .i64 (R.makeE d a kind mode data)]),U)/\Pft S U b r T T' (R.make d a kind mode data) k:=by
 have hF:=ok.fits hk;have hlb:=ok.lastB;have hl:-qaj<T.last/\T.last<qaj:=by unfold qaj; omega
 by_cases he:qn5 T d a kind mode data=0
 . have he2:R.makeE d a kind mode data=0:=by rw[<- ok.rel.makeE]; exact he
   have hN:R.makeN d a kind mode data=T.last+1:=by unfold RT.makeN; rw[iP he2,ok.rel.last]
   have hM:R.make d a kind mode data=R.made d a kind mode data:=by unfold RT.make; rw[iP he2]
   have z:=qck he;have z1:=z (qf9 T d) (by simp);have z2:=z (qky kind mode data) (by simp);have z3:=z (qkx T d a) (by simp);have z5:=z (qcw a) (by simp);obtain⟨q,hq,hqk⟩:=qgv z1;obtain⟨mq,hm⟩:=qon ok.sd hq hqk;have hfree:=qlz z3 hq;obtain⟨hkn,hlk⟩:=likes_kind z2;rw[hN,he2,hM];by_cases hk2:kind=2
   . subst hk2
     obtain⟨U,nb,nm,u1,u2,u3,u4,u5⟩:=make_dir h hF m d a mode data ha (by omega) he hq hm ok.new hl;refine⟨U,_,u1,u2,ok.maded hq hqk hfree (qfv z5) hkn hd nb d (some nm) (fun _=>⟨rfl,rfl⟩) (fun e=>absurd rfl e),u3,fun x hx=>?_⟩;rcases own_made hx with hx|hx|hx
     . exact .inl hx
     . right; rw[hx]; exact u4
     . right
       have:some nm=some x:=hx;cases this;exact u5
   . obtain⟨U,nb,u1,u2,u3,u4⟩:=make_file h hF m d a kind mode data ha (by omega) he hq hm ok.new hl hk2
     refine⟨U,_,u1,u2,ok.maded hq hqk hfree (qfv z5) hkn hd nb 0 none (fun e=>absurd e hk2) (fun _=>rfl),u3,fun x hx=>?_⟩;rcases own_made hx with hx|hx|hx
     . exact .inl hx
     . right; rw[hx]; exact u4
     . cases hx
 . obtain⟨U,u1,u2,u3⟩:=make_err h hF m d a kind mode data ha (by omega) he
   rw[ok.rel.makeE]at u1 he;have hN:R.makeN d a kind mode data=0:=by unfold RT.makeN; rw[iN he]
   have hM:R.make d a kind mode data=R:=by unfold RT.make; rw[iN he]
   rw[hN,hM];exact⟨U,T,u1,.none u2 ok (u3.mono fun _ _ h=>h.elim)⟩
theorem apart_up {B:Nat} (h:Rel T R) (hs:Sd T B) {i:Int}:∀{j:Int} {n:Nat},UpA T i j n->qhz R i (n+1) j=some 0
 | _,_,.root=>by unfold qhz; rw[iP rfl]
 | j,_,.step (n:=n) (q:=q) h1 h2 h3 h4 h5=>by
  have hu:=h.up hs j;rw[h2]at hu;dsimp only at hu;unfold qhz;rw[iN h4,iN h1,<- hu];exact apart_up h hs h5
theorem apart_met {B:Nat} (h:Rel T R) (hs:Sd T B) {i:Int}:∀{j:Int} {n:Nat},Met T i j n->qhz R i (n+1) j=some 2
 | _,_,.here h1=>by unfold qhz; rw[iN h1,iP rfl]
 | j,_,.step (n:=n) (q:=q) h1 h2 h3 h4=>by
  have hu:=h.up hs j;rw[h2]at hu;dsimp only at hu;unfold qhz;rw[iN h3,iN h1,<- hu];exact apart_met h hs h4
theorem Okp.apart (ok:Okp T R k) (hk:k<=60) {t:Int} (i:Int) (ht:qf9 T t=0):∃n,n<=qa4/\qhz R i n t=some (qdf T t i):=by
 obtain⟨p,hp,hpk⟩:=qgv ht;obtain⟨n,hn,hup⟩:=ok.sd.chn t p hp hpk;have hr:=pow_rounds (k:=k) (by omega);rcases Up.or i hup with h|⟨m,hm,h⟩
 . refine⟨n+1,by omega,?_⟩
   unfold qdf;rw[iP ⟨n,h⟩];exact apart_up ok.rel ok.sd h
 . refine⟨m+1,by omega,?_⟩
   unfold qdf;rw[iN (fun⟨n',h'⟩=>h.not h')];exact apart_met ok.rel ok.sd h
theorem Okp.moveE (ok:Okp T R k) (f:Int) (a:Bs) (t:Int) (c:Bs):eMv T f a t c=R.moveE f a t c (qdf T t ((T.find f a).getD 0)):=by
 have hM:eMove T f a t c=if qf9 T f=0 then(if R.placeE t c=0 then qdr T f a else R.placeE t c)else qf9 T f:=by
  unfold eMove;show(if(0:Int)=0 then(if qf9 T f=0 then qcf [qf9 T t,qcw c,qdr T f a]else qf9 T f)else 0)=_;rw[iP rfl,ok.rel.place];by_cases h0:qf9 T f=0
  . rw[iP h0,iP h0]
    show(if qf9 T t=0 then(if qcw c=0 then(if qdr T f a=0 then 0 else qdr T f a)else qcw c)else qf9 T t)=_;by_cases h1:qf9 T t=0
    . rw[iP h1,iP h1]
      by_cases h2:qcw c=0
      . rw[iP h2,iP h2]
        by_cases h3:qdr T f a=0
        . rw[iP h3,h3]
        . rw[iN h3]
      . rw[iN h2,iN h2]
    . rw[iN h1,iN h1,iN h1]
  . rw[iN h0,iN h0]
 unfold eMv RT.moveE;rw[hM,<- ok.rel.dir f,ok.rel.entry];by_cases h0:qf9 T f=0
 . rw[iP h0,iP h0]
   by_cases h1:R.placeE t c=0
   . rw[iP h1,iP h1]
     cases hg:R.find f a with
     | none=>rw[iN (fun q=>absurd q.1 (by decide))]; rfl
     | some i=>
      dsimp only;rw[show(if(some i).isSome=true then(0:Int)else 5)=0 from rfl];by_cases hs:f=t/\a=c
      . rw[iP hs,iN (fun q=>q.2 hs)]
      . rw[iN hs,iP ⟨rfl,hs⟩]
        unfold qor;show(if qkx T t c=0 then(if _=0 then 0 else _)else qkx T t c)=_;rw[ok.rel.free];unfold RT.freeE;cases hg2:(R.find t c).isSome with
        | true=>rfl
        | false=>
         rw[iN Bool.false_ne_true,iN Bool.false_ne_true,iP rfl];by_cases he:qdf T t ((T.find f a).getD 0)=0
         . rw[iP he,he]
         . rw[iN he]
   . rw[iN h1,iN h1,iN (fun q=>h1 q.1)]
 . rw[iN h0,iN h0,iN (fun q=>h0 q.1)]
theorem moved_get {f t i:Int} {a c:Bs} (Ef Et:List (Bs×Int)) (kq:Int) (j:Int):(moved T f a t c i Ef Et kq).get j=(T.get j).map fun x=>
 (fun z:Nod=>if kq=2 then(if j=i then({z with ino:=setU t z.ino}:Nod)else z)else z) ((fun y:Nod=>if j=t then({y with ino:=qbj (qb1 c i Et) y.ino}:Nod)else y) (if j=f then({x with ino:=qbj (qa9 a Ef) x.ino}:Nod)else x)):=by
 unfold moved;by_cases hk:kq=2
 . simp only[iP hk]
   rw[qap,qap,qap,Option.map_map,Option.map_map];rfl
 . simp only[iN hk]
   rw[qap,qap,Option.map_map];rfl
theorem Rel.carried (h:Rel T R) {f t i:Int} {a c:Bs} {p pt:Nod} (hi1:i≠1) (hp:T.get f=some p) (hf:R.find f a=some i) (hpt:(T.upd f (qbj (qa9 a p.ino.ents))).get t=some pt) (hc:lkS c pt.ino.ents=none) (hcl:c.length<=56) (kq:Int) :
 Rel (moved T f a t c i p.ino.ents pt.ino.ents kq) (R.moved f a t c i):=by
 obtain⟨f1,f2,f3,f4,f5⟩:=qjb hf hi1;have hget:=moved_get (T:=T) (f:=f) (t:=t) (i:=i) (a:=a) (c:=c) p.ino.ents pt.ino.ents kq
 have hent:∀j,qb7 j (R.moved f a t c i).E=qb7 j (R.less f a).E++if t=j then [(c,i)]else []:=fun j=>by
  show qb7 j ((R.less f a).E++[_])=_;rw[qkz,qow]
 have hlr:∀j,(R.moved f a t c i).linksR j=R.linksR j:=fun j=>by
  have h1:=qk7 (R:=R.less f a) (e:=⟨t,c,i⟩) hi1 j;have h2:=f3 j;show({R.less f a with E:=(R.less f a).E++[⟨t,c,i⟩]}:RT).linksR j=_;rw[h1,h2];show R.linksR j-(if j=i then 1 else 0)+(if j=i then 1 else 0)=_;omega
 have hpe:p.ino.ents=qb7 f R.E:=(h.nod f p hp).2.2.1
 have hless:∀j x,T.get j=some x->(if j=f then({x with ino:=qbj (qa9 a p.ino.ents) x.ino}:Nod)else x).ino.ents=qb7 j (R.less f a).E:=fun j x hx=>by
  by_cases hj:j=f
  . subst hj
    rw[iP rfl,f1,<- hpe]; rfl
  . rw[iN hj,f2 j hj]
    exact(h.nod j x hx).2.2.1
 have hpte:pt.ino.ents=qb7 t (R.less f a).E:=by
  rw[qap,Option.map_eq_some_iff]at hpt;obtain⟨x,hx,rfl⟩:=hpt;exact hless t x hx
 have hnums:(moved T f a t c i p.ino.ents pt.ino.ents kq).qi=T.qi/\(moved T f a t c i p.ino.ents pt.ino.ents kq).qb=T.qb/\(moved T f a t c i p.ino.ents pt.ino.ents kq).ui=T.ui/\(moved T f a t c i p.ino.ents pt.ino.ents kq).ub=T.ub/\(moved T f a t c i p.ino.ents pt.ino.ents kq).last=T.last:=by
  unfold moved;split<;>exact⟨rfl,rfl,rfl,rfl,rfl⟩
 obtain⟨m1,m2,m3,m4,m5⟩:=hnums;refine⟨⟨m1.trans h.q.1,m2.trans h.q.2⟩,m5.trans h.last,fun j q' hj=>?_,fun j hj=>?_,⟨m3.trans h.used.1,m4.trans h.used.2⟩,fun e he=>?_⟩
 . rw[hget,Option.map_eq_some_iff]at hj
   obtain⟨x,hx,rfl⟩:=hj;obtain⟨k1,k2,k3,k4,k5⟩:=h.nod j x hx;have hl:=hless j x hx
   have hy:(if j=f then({x with ino:=qbj (qa9 a p.ino.ents) x.ino}:Nod)else x).ino.kind=x.ino.kind/\(if j=f then({x with ino:=qbj (qa9 a p.ino.ents) x.ino}:Nod)else x).ino.mode=x.ino.mode/\(if j=f then({x with ino:=qbj (qa9 a p.ino.ents) x.ino}:Nod)else x).ino.data=x.ino.data/\(if j=f then({x with ino:=qbj (qa9 a p.ino.ents) x.ino}:Nod)else x).ino.links=x.ino.links:=by
    split<;>exact⟨rfl,rfl,rfl,rfl⟩
   generalize (if j=f then({x with ino:=qbj (qa9 a p.ino.ents) x.ino}:Nod)else x)=y at hl hy
   have hz:(if j=t then({y with ino:=qbj (qb1 c i pt.ino.ents) y.ino}:Nod)else y).ino.kind=x.ino.kind/\(if j=t then({y with ino:=qbj (qb1 c i pt.ino.ents) y.ino}:Nod)else y).ino.mode=x.ino.mode/\(if j=t then({y with ino:=qbj (qb1 c i pt.ino.ents) y.ino}:Nod)else y).ino.data=x.ino.data/\(if j=t then({y with ino:=qbj (qb1 c i pt.ino.ents) y.ino}:Nod)else y).ino.links=x.ino.links/\(if j=t then({y with ino:=qbj (qb1 c i pt.ino.ents) y.ino}:Nod)else y).ino.ents=qb7 j (R.moved f a t c i).E:=by
    by_cases hjt:j=t
    . subst hjt
      rw[iP rfl];refine⟨hy.1,hy.2.1,hy.2.2.1,hy.2.2.2,?_⟩;show qb1 c i pt.ino.ents=_;rw[hent,iP rfl,qhd _ _ _ hc,hpte]
    . rw[iN hjt]
      exact⟨hy.1,hy.2.1,hy.2.2.1,hy.2.2.2,by rw[hent,iN (fun e=>hjt e.symm),List.append_nil]; exact hl⟩
   dsimp only;generalize (if j=t then({y with ino:=qbj (qb1 c i pt.ino.ents) y.ino}:Nod)else y)=w at hz
   have hw:(if kq=2 then(if j=i then({w with ino:=setU t w.ino}:Nod)else w)else w).ino.kind=w.ino.kind/\(if kq=2 then(if j=i then({w with ino:=setU t w.ino}:Nod)else w)else w).ino.mode=w.ino.mode/\(if kq=2 then(if j=i then({w with ino:=setU t w.ino}:Nod)else w)else w).ino.data=w.ino.data/\(if kq=2 then(if j=i then({w with ino:=setU t w.ino}:Nod)else w)else w).ino.links=w.ino.links/\(if kq=2 then(if j=i then({w with ino:=setU t w.ino}:Nod)else w)else w).ino.ents=w.ino.ents:=by
    split
    . split<;>exact⟨rfl,rfl,rfl,rfl,rfl⟩
    . exact⟨rfl,rfl,rfl,rfl,rfl⟩
   obtain⟨w1,w2,w3,w4,w5⟩:=hw;obtain⟨z1,z2,z3,z4,z5⟩:=hz;obtain⟨xx,x1,x2,x3,x4⟩:=k2;exact⟨k1,⟨xx,x1,by rw[w1,z1]; exact x2,by rw[w2,z2]; exact x3,by rw[w3,z3]; exact x4⟩,by rw[w5,z5],by rw[w4,z4,hlr]; exact k4,by rw[w1,z1]; exact k5⟩
 . rw[hget,Option.map_eq_none_iff]at hj
   obtain⟨k1,k2⟩:=h.non j hj
   have hjt:t≠j:=fun e=>by
    subst e;rw[qap,hj]at hpt; cases hpt
   have hjf:j≠f:=fun e=>by
    subst e;rw[hj]at hp; cases hp
   exact⟨k1,by rw[hent,iN hjt,List.append_nil,f2 j hjf]; exact k2⟩
 . rcases List.mem_append.1 (show e∈(R.less f a).E++[_]from he)with he|he
   . exact h.nam e (f5 e he)
   . rw[List.mem_singleton]at he
     subst he; exact hcl
theorem p_move (h:TabAt S b r T) (ok:Okp T R k) (hk:k<=60) (m:Nat) (f t:Int) (a c:Bs) (hc:c.length<9223372036854775808) :
 ∃U T',(ev E0 KD (m+5)).f 19 [.ptr b 0,.int .i64 f,sv a,.int .i64 t,sv c] S=some (.ret (.int .i64 (R.moveE f a t c (qdf T t ((T.find f a).getD 0)))),U)/\Pft S U b r T T' (R.move f a t c (qdf T t ((T.find f a).getD 0))) k:=by
 obtain⟨U,u1,u2,T',u3,u4,u5⟩:=move_run h ok.sd (pow_rounds (by omega)) m f t a c hc;have hE:=ok.moveE f a t c;by_cases he:eMv T f a t c=0
 . have hm:=u5 he
   have hsd:=(hm.sd ok.sd).mono (B':=2^(k+1)-1) (by rw[<- pow_step]; exact lR _);have hown:∀x,Own b r T' x->Own b r T x\/S.next<=x:=fun x hx=>.inl (hm.own hx)
   have he2:=he;rw[hE]at u1 he2;have hl:=ok.lenL;have hlE:=ok.lenE;refine⟨U,T',u1,u3,?_,u2,hown⟩;cases hm with
   | same h1 h2=>
    have:R.move f a t c (qdf T t ((T.find f a).getD 0))=R:=by unfold RT.move; rw[iN (fun q=>q.2 ⟨h1,h2⟩)]
    rw[this]; exact ok.mono
   | @go i p pt q h1 h2 h3 h4 h5 h6 h7 h8=>
    have hf:T.find f a=some i:=by unfold Tab.find; rw[h2]; exact h3
    have hfR:R.find f a=some i:=by rw[<- ok.rel.find]; exact hf
    have hmv:R.move f a t c (qdf T t ((T.find f a).getD 0))=R.moved f a t c i:=by unfold RT.move; rw[iP ⟨he2,h1⟩,hfR]
    have hi1:=(ok.sd.ent f p h2 (a,i) (qhq h3)).1
    have hcl:c.length<=56:=by
     have he3:=he;unfold eMv at he3;by_cases hx:eMove T f a t c=0/\¬(f=t/\a=c)
     . exact qfv (qck hx.1 (qcw c) (by simp))
     . rw[iN hx]at he3
       exact qfv (qck he3 (qcw c) (by simp))
    obtain⟨f1,f2,f3,f4,f5⟩:=qjb hfR hi1;rw[hmv];exact⟨hsd,ok.rel.carried hi1 h2 hfR h4 h6 hcl q.ino.kind,by show R.L.length<=_; omega,by show((R.less f a).E++[_]).length<=_; rw[lAq]; simp; omega,ok.short,ok.qs⟩
 . rw[u4 he]at u3
   rw[hE]at u1 he;have:R.move f a t c (qdf T t ((T.find f a).getD 0))=R:=by unfold RT.move; rw[iN (fun q=>he q.1)]
   rw[this];exact⟨U,T,u1,.none u3 ok u2⟩
end
end Go.Proofs.Ytbihlgcdnhoknaa.W
namespace Go.Proofs.Ytbihlgcdnhoknaa.W
open Go.Proofs.Ytbihlgcdnhoknaa.Ev
set_option maxRecDepth 100000
noncomputable section
noncomputable def C21:Code:=Try.f21.body.getD .skip
noncomputable def B21:D:=(qaq C21 [[],[],[],[],[],[],[0,3,5,6,28,29],[3,5,6],[],[],[],[],[],[],[],[],[],[],[],[],[],[0,3,5,6],[4],[],[],[]]).1
noncomputable def F21 (self:EV) (N:Nat) (x0 x1:V) (S:St):Rs:=qb6 E0 self N Try.f21 B21 [x0,x1] S
def doMake (self:EV) (va vt vr:V) (S:St):Rs:=
 (faP 1 false 1 va).bind fun t24=>
 (ld1 t24 S).bind fun p25=>
 (faP 4 false 1 va).bind fun t26=>
 (ld1 t26 p25.2).bind fun p27=>
 (faP 2 false 1 va).bind fun t28=>
 (ld1 t28 p27.2).bind fun p29=>
 (faP 3 false 1 va).bind fun t30=>
 (ld1 t30 p29.2).bind fun p31=>
 (faP 6 false 1 va).bind fun t32=>
 (ld1 t32 p31.2).bind fun p33=>
 qah (self.f 8 [vt,p25.1,p27.1,p29.1,p31.1,p33.1] p33.2) fun t34 S34=>
 (qab t34 0).bind fun t36=>
 (qab t34 1).bind fun t37=>
 (faP 1 false 1 va).bind fun t41=>
 (ld1 t41 S34).bind fun p42=>
 (faP 4 false 1 va).bind fun t43=>
 (ld1 t43 p42.2).bind fun p44=>
 (faP 2 false 1 va).bind fun t45=>
 (ld1 t45 p44.2).bind fun p46=>
 (faP 3 false 1 va).bind fun t47=>
 (ld1 t47 p46.2).bind fun p48=>
 (faP 6 false 1 va).bind fun t49=>
 (ld1 t49 p48.2).bind fun p50=>
 qah (self.f 41 [vr,p42.1,p44.1,p46.1,p48.1,p50.1] p50.2) fun t51 S51=>
 (qab t51 0).bind fun t53=>
 (qab t51 1).bind fun t54=>
 (qa6 E0 .eql 3 false false t36 t53).bind fun t59=>
 (qa3 true t59).bind fun g61=>(bif g61 then some t37 else some (.tuple [])).bind fun t61=>
 (qa3 true t59).bind fun g62=>(bif g62 then some t54 else some (.tuple [])).bind fun t62=>
 (qa3 true t59).bind fun g63=>(bif g63 then qa6 E0 .eql 27 false false t61 t62 else some (.tuple [])).bind fun t63=>
 (qaw t59 (some t63) (some (.bool false))).bind fun t64=>
 some (.ret t64,S51)
def doLink (self:EV) (va vt vr:V) (S:St):Rs:=
 (faP 1 false 1 va).bind fun t69=>
 (ld1 t69 (onS S)).bind fun p70=>
 (faP 4 false 1 va).bind fun t71=>
 (ld1 t71 (onS p70.2)).bind fun p72=>
 (faP 2 false 1 va).bind fun t73=>
 (ld1 t73 (onS p72.2)).bind fun p74=>
 qbq (qaf E0 (B21.r.r.r.l.r.l.r.l.r.r.l.l).ops) S 7 [[],[],p70.2.log,[],p72.2.log,[],p74.2.log] (self.f 9 [vt,p70.1,p72.1,p74.1] (onS p74.2)) fun t75 S75=>
 (faP 1 false 1 va).bind fun t77=>
 (ld1 t77 (onS S75)).bind fun p78=>
 (faP 4 false 1 va).bind fun t79=>
 (ld1 t79 (onS p78.2)).bind fun p80=>
 (faP 2 false 1 va).bind fun t81=>
 (ld1 t81 (onS p80.2)).bind fun p82=>
 qbq (qaf E0 (B21.r.r.r.l.r.l.r.l.r.r.l.l).ops) S 15 [[],[],p70.2.log,[],p72.2.log,[],p74.2.log,S75.log,[],[],p78.2.log,[],p80.2.log,[],p82.2.log] (self.f 42 [vr,p78.1,p80.1,p82.1] (onS p82.2)) fun t83 S83=>
 (qa6 E0 .eql 27 false false t75 t83).bind fun t84=>
 qgx [(2,[4,6,10,12,14]),(4,[6,10,12,14]),(6,[10,12,14]),(7,[10,12,14]),(10,[12,14]),(12,[14])] S [[],[],p70.2.log,[],p72.2.log,[],p74.2.log,S75.log,[],[],p78.2.log,[],p80.2.log,[],p82.2.log,S83.log,[],[]] (onS S83) fun S86=>
 some (.ret t84,S86)
def doUnlink (self:EV) (va vt vr:V) (S:St):Rs:=
 (faP 1 false 1 va).bind fun t90=>
 (ld1 t90 (onS S)).bind fun p91=>
 (faP 4 false 1 va).bind fun t92=>
 (ld1 t92 (onS p91.2)).bind fun p93=>
 qbq (qaf E0 (B21.r.r.r.l.r.l.r.l.r.r.r.r.l.l).ops) S 5 [[],[],p91.2.log,[],p93.2.log] (self.f 14 [vt,p91.1,p93.1] (onS p93.2)) fun t94 S94=>
 (faP 1 false 1 va).bind fun t96=>
 (ld1 t96 (onS S94)).bind fun p97=>
 (faP 4 false 1 va).bind fun t98=>
 (ld1 t98 (onS p97.2)).bind fun p99=>
 qbq (qaf E0 (B21.r.r.r.l.r.l.r.l.r.r.r.r.l.l).ops) S 11 [[],[],p91.2.log,[],p93.2.log,S94.log,[],[],p97.2.log,[],p99.2.log] (self.f 43 [vr,p97.1,p99.1] (onS p99.2)) fun t100 S100=>
 (qa6 E0 .eql 27 false false t94 t100).bind fun t101=>
 qgx [(2,[4,8,10]),(4,[8,10]),(5,[8,10]),(8,[10])] S [[],[],p91.2.log,[],p93.2.log,S94.log,[],[],p97.2.log,[],p99.2.log,S100.log,[],[]] (onS S100) fun S103=>
 some (.ret t101,S103)
def doMove (self:EV) (va vt vr:V) (S:St):Rs:=
 (faP 1 false 1 va).bind fun t107=>
 (ld1 t107 (onS S)).bind fun p108=>
 (faP 4 false 1 va).bind fun t109=>
 (ld1 t109 (onS p108.2)).bind fun p110=>
 (faP 2 false 1 va).bind fun t111=>
 (ld1 t111 (onS p110.2)).bind fun p112=>
 (faP 5 false 1 va).bind fun t113=>
 (ld1 t113 (onS p112.2)).bind fun p114=>
 qbq (qaf E0 (B21.r.r.r.l.r.l.r.l.r.r.r.r.r.r.l.l).ops) S 9 [[],[],p108.2.log,[],p110.2.log,[],p112.2.log,[],p114.2.log] (self.f 19 [vt,p108.1,p110.1,p112.1,p114.1] (onS p114.2)) fun t115 S115=>
 (faP 1 false 1 va).bind fun t117=>
 (ld1 t117 (onS S115)).bind fun p118=>
 (faP 4 false 1 va).bind fun t119=>
 (ld1 t119 (onS p118.2)).bind fun p120=>
 (faP 2 false 1 va).bind fun t121=>
 (ld1 t121 (onS p120.2)).bind fun p122=>
 (faP 5 false 1 va).bind fun t123=>
 (ld1 t123 (onS p122.2)).bind fun p124=>
 qbq (qaf E0 (B21.r.r.r.l.r.l.r.l.r.r.r.r.r.r.l.l).ops) S 19 [[],[],p108.2.log,[],p110.2.log,[],p112.2.log,[],p114.2.log,S115.log,[],[],p118.2.log,[],p120.2.log,[],p122.2.log,[],p124.2.log] (self.f 44 [vr,p118.1,p120.1,p122.1,p124.1] (onS p124.2)) fun t125 S125=>
 (qa6 E0 .eql 27 false false t115 t125).bind fun t126=>
 qgx [(2,[4,6,8,12,14,16,18]),(4,[6,8,12,14,16,18]),(6,[8,12,14,16,18]),(8,[12,14,16,18]),(9,[12,14,16,18]),(12,[14,16,18]),(14,[16,18]),(16,[18])] S [[],[],p108.2.log,[],p110.2.log,[],p112.2.log,[],p114.2.log,S115.log,[],[],p118.2.log,[],p120.2.log,[],p122.2.log,[],p124.2.log,S125.log,[],[]] (onS S125) fun S128=>
 some (.ret t126,S128)
def doWrite (self:EV) (va vt vr:V) (S:St):Rs:=
 (faP 1 false 1 va).bind fun t132=>
 (ld1 t132 (onS S)).bind fun p133=>
 (faP 6 false 1 va).bind fun t134=>
 (ld1 t134 (onS p133.2)).bind fun p135=>
 qbq (qaf E0 (B21.r.r.r.l.r.l.r.l.r.r.r.r.r.r.r.r.l.l).ops) S 5 [[],[],p133.2.log,[],p135.2.log] (self.f 10 [vt,p133.1,p135.1] (onS p135.2)) fun t136 S136=>
 (faP 1 false 1 va).bind fun t138=>
 (ld1 t138 (onS S136)).bind fun p139=>
 (faP 6 false 1 va).bind fun t140=>
 (ld1 t140 (onS p139.2)).bind fun p141=>
 qbq (qaf E0 (B21.r.r.r.l.r.l.r.l.r.r.r.r.r.r.r.r.l.l).ops) S 11 [[],[],p133.2.log,[],p135.2.log,S136.log,[],[],p139.2.log,[],p141.2.log] (self.f 45 [vr,p139.1,p141.1] (onS p141.2)) fun t142 S142=>
 (qa6 E0 .eql 27 false false t136 t142).bind fun t143=>
 qgx [(2,[4,8,10]),(4,[8,10]),(5,[8,10]),(8,[10])] S [[],[],p133.2.log,[],p135.2.log,S136.log,[],[],p139.2.log,[],p141.2.log,S142.log,[],[]] (onS S142) fun S145=>
 some (.ret t143,S145)
def doChmod (self:EV) (va vt vr:V) (S:St):Rs:=
 (faP 1 false 1 va).bind fun t149=>
 (ld1 t149 (onS S)).bind fun p150=>
 (faP 3 false 1 va).bind fun t151=>
 (ld1 t151 (onS p150.2)).bind fun p152=>
 qbq (qaf E0 (B21.r.r.r.l.r.l.r.l.r.r.r.r.r.r.r.r.r.r.l.l).ops) S 5 [[],[],p150.2.log,[],p152.2.log] (self.f 46 [vt,p150.1,p152.1] (onS p152.2)) fun t153 S153=>
 (faP 1 false 1 va).bind fun t155=>
 (ld1 t155 (onS S153)).bind fun p156=>
 (faP 3 false 1 va).bind fun t157=>
 (ld1 t157 (onS p156.2)).bind fun p158=>
 qbq (qaf E0 (B21.r.r.r.l.r.l.r.l.r.r.r.r.r.r.r.r.r.r.l.l).ops) S 11 [[],[],p150.2.log,[],p152.2.log,S153.log,[],[],p156.2.log,[],p158.2.log] (self.f 47 [vr,p156.1,p158.1] (onS p158.2)) fun t159 S159=>
 (qa6 E0 .eql 27 false false t153 t159).bind fun t160=>
 qgx [(2,[4,8,10]),(4,[8,10]),(5,[8,10]),(8,[10])] S [[],[],p150.2.log,[],p152.2.log,S153.log,[],[],p156.2.log,[],p158.2.log,S159.log,[],[]] (onS S159) fun S162=>
 some (.ret t160,S162)
def doFind (self:EV) (va vt vr:V) (S:St):Rs:=
 (faP 1 false 1 va).bind fun t164=>
 (ld1 t164 S).bind fun p165=>
 (faP 4 false 1 va).bind fun t166=>
 (ld1 t166 p165.2).bind fun p167=>
 qah (self.f 13 [vt,p165.1,p167.1] p167.2) fun t168 S168=>
 (qab t168 0).bind fun t170=>
 (qab t168 1).bind fun t171=>
 (faP 1 false 1 va).bind fun t175=>
 (ld1 t175 S168).bind fun p176=>
 (faP 4 false 1 va).bind fun t177=>
 (ld1 t177 p176.2).bind fun p178=>
 qah (self.f 48 [vr,p176.1,p178.1] p178.2) fun t179 S179=>
 (qab t179 0).bind fun t181=>
 (qab t179 1).bind fun t182=>
 (qa6 E0 .eql 3 false false t170 t181).bind fun t187=>
 (qa3 true t187).bind fun g189=>(bif g189 then some t171 else some (.tuple [])).bind fun t189=>
 (qa3 true t187).bind fun g190=>(bif g190 then some t182 else some (.tuple [])).bind fun t190=>
 (qa3 true t187).bind fun g191=>(bif g191 then qa6 E0 .eql 4 false false t189 t190 else some (.tuple [])).bind fun t191=>
 (qaw t187 (some t191) (some (.bool false))).bind fun t192=>
 some (.ret t192,S179)
def qlx (self:EV) (va vt vr w t:V) (S:St):Rs:=
 ifK t (doMake self va vt vr S) (
 (qa6 E0 .eql 3 false true w (.int .i64 3)).bind fun t3=>ifK t3 (doLink self va vt vr S) (
 (qa6 E0 .eql 3 false true w (.int .i64 4)).bind fun t4=>ifK t4 (doUnlink self va vt vr S) (
 (qa6 E0 .eql 3 false true w (.int .i64 5)).bind fun t5=>ifK t5 (doMove self va vt vr S) (
 (qa6 E0 .eql 3 false true w (.int .i64 6)).bind fun t6=>ifK t6 (doWrite self va vt vr S) (
 (qa6 E0 .eql 3 false true w (.int .i64 7)).bind fun t7=>ifK t7 (doChmod self va vt vr S) (doFind self va vt vr S))))))
def doRest (self:EV) (va vt vr:V) (S:St):Rs:=
 (faP 0 false 1 va).bind fun t19=>
 (ld1 t19 S).bind fun p20=>
 (qa6 E0 .eql 3 false true p20.1 (.int .i64 0)).bind fun t0=>ifK t0 (qlx self va vt vr p20.1 t0 p20.2) (
 (qa6 E0 .eql 3 false true p20.1 (.int .i64 1)).bind fun t1=>ifK t1 (qlx self va vt vr p20.1 t1 p20.2) (
 (qa6 E0 .eql 3 false true p20.1 (.int .i64 2)).bind fun t2=>qlx self va vt vr p20.1 t2 p20.2))
theorem F21_eq (self:EV) (N:Nat) (x0 x1:V) (S:St):F21 self N x0 x1 S =
(qdb 57 x0 S).bind fun p0=>
(qdb 60 x1 p0.2).bind fun p1=>
(faP 0 false 1 p0.1).bind fun t3=>
(ld1 t3 (onS p1.2)).bind fun p4=>
(faP 1 false 1 p0.1).bind fun t5=>
(ld1 t5 (onS p4.2)).bind fun p6=>
qgx [(1,[3])] p1.2 [[],p4.2.log,[],p6.2.log,[],[]] (onS p6.2) fun S9=>
(faP 6 false 1 p1.1).bind fun t10=>
(ld1 t10 S9).bind fun p11=>
(faP 6 false 1 p1.1).bind fun t12=>
(ld1 t12 p11.2).bind fun p13=>
(qeb p13.1 p13.2).bind fun p14=>
(foldK minV p14.1 [(.int .i64 300)] p14.2).bind fun p15=>
(qc6 E0 9 p11.1 none (some p15.1) none p15.2).bind fun p16=>
(faP 6 false 1 p1.1).bind fun t17=>
(stP 1 t17 p16.1 p16.2).bind fun p18=>
doRest self p1.1 p4.1 p6.1 p18.2:=by kernel_rfl
end
open Go.RowKit
def Wx (x:Nat) (L:List LE):Prop:=∀e∈L,e.w=false\/e.b≠x
def Rx (x:Nat) (L:List LE):Prop:=∀e∈L,e.w=false/\e.b=x
theorem rx1 (x a c:Nat):Rx x [⟨x,a,c,false⟩]:=fun e he=>by
 rw[List.mem_singleton]at he;subst he; exact⟨rfl,rfl⟩
theorem Rx.wx {x:Nat} {L:List LE} (h:Rx x L):Wx x L:=fun e he=>.inl (h e he).1
def PJ (x:Nat) (logs:List (List LE)):List Nat->Prop
 | []=>True
 | j::js=>Rx x (qcr j logs)/\PJ x logs js
def PB (x:Nat) (logs:List (List LE)):List (Nat×List Nat)->Prop
 | []=>True
 | p::r=>Wx x (qcr p.1 logs)/\PJ x logs p.2/\PB x logs r
theorem pj_clash {x:Nat} {logs:List (List LE)} {L:List LE} (hw:Wx x L):∀{js:List Nat},PJ x logs js->qcg L logs js=false
 | [],_=>rfl
 | j::js,h=>by
  unfold qcg
  rw[qok fun e he f hf=>by
   obtain⟨f1,f2⟩:=h.1 f hf;rcases hw e he with q|q
   . exact .inr ⟨q,f1⟩
   . exact .inl (by rw[f2]; exact q),cF]
  exact pj_clash hw h.2
theorem qfz {x:Nat} {logs:List (List LE)}:∀{prs:List (Nat×List Nat)},PB x logs prs->qb0 logs prs=true
 | [],_=>rfl
 | (i,js)::prs,h=>by
  unfold qb0;rw[pj_clash h.1 h.2.1,cF];exact qfz h.2.2
theorem qn6 {S U:St} {x e:Nat} {l:List V} (hb:Bx S x e l) (hlt:x<S.next) {m f:Nat} {args:List V} {q:En×St} {a:En} (k1:(ev E0 KD m).f f args (icy S x e l.length 1 (Tr.ofListFrom .nil [Tr.ofListFrom .nil l 0] 0))=some q) (k2:(ev E0 KD m).f f args S=some (a,U)) :
 ∃L,(ev E0 KD m).f f args (onS S)=some (a,U.lg L)/\Wx x L:=by
 obtain⟨L,q1,q2⟩:=Fz.ev_log fzD lgD (icy_same hb hlt) k1 k2;exact⟨L,q1,q2⟩
structure Bo (S:St) (b r:Nat) (T:Tab) (rb:Nat) (vL vE:V) (R:RT) (k:Nat):Prop where
 tab:TabAt S b r T
 ref:RAt S rb vL vE R
 ok:Okp T R k
 sep:∀x,Own b r T x->¬ROwn rb vL vE x
structure Done (S U:St) (b r:Nat) (T:Tab) (rb:Nat) (vL vE:V) (T':Tab) (vL' vE':V) (R':RT) (k:Nat):Prop where
 bo:Bo U b r T' rb vL' vE' R' k
 gr:Grew (fun y=>Own b r T y\/ROwn rb vL vE y) S U
 own:∀y,Own b r T' y\/ROwn rb vL' vE' y->(Own b r T y\/ROwn rb vL vE y)\/S.next<=y
section
variable {S U U1:St} {b r:Nat} {T T':Tab} {rb:Nat} {vL vE vL' vE':V} {R R':RT} {k:Nat}
theorem RAt.own_lt (h:RAt S rb vL vE R) {x:Nat} (hx:ROwn rb vL vE x):x<S.next:=by
 rcases hx with q|q|q
 . subst q; exact h.lt
 . exact(h.L.blk q).2
 . exact(h.E.blk q).2
theorem Bo.mid (h:Bo S b r T rb vL vE R k) (p:Pft S U1 b r T T' R' k):RAt U1 rb vL vE R:=
 h.ref.grew p.gr (fun q=>h.sep _ q (.inl rfl)) (fun x hx q=>h.sep _ q (.inr (.inl hx))) (fun x hx q=>h.sep _ q (.inr (.inr hx)))
theorem Bo.grew0 (h:Bo S b r T rb vL vE R k) (g:Grew (fun _=>False) S U):Bo U b r T rb vL vE R k:=⟨h.tab.grewF g,h.ref.grew0 g,h.ok,h.sep⟩
theorem not_own {x:Nat} (h:¬Own b r T x):x≠b/\x≠r/\∀p∈T.nodes,x≠p.box/\p.ino.map≠some x:=
 ⟨fun e=>h (.inl e),fun e=>h (.inr (.inl e)),fun p hp=>⟨fun e=>h (.inr (.inr ⟨p,hp,.inl e⟩)),fun e=>h (.inr (.inr ⟨p,hp,.inr e⟩))⟩⟩
theorem Bo.step (h:Bo S b r T rb vL vE R k) (p:Pft S U1 b r T T' R' k) (q:RAft U1 U rb vL vE vL' vE' R'):Done S U b r T rb vL vE T' vL' vE' R' (k+1):=by
 have hne:∀x,ROwn rb vL vE x->¬Own b r T' x:=fun x hx ho=>by
  rcases p.own x ho with o|o
  . exact h.sep x o hx
  . have:=h.ref.own_lt hx
    omega
 refine⟨⟨p.tab.grew q.gr fun x hx=>not_own (hne x hx),q.at',p.ok,fun x hx hr=>?_⟩,?_,fun y hy=>?_⟩
 . rcases q.own x hr with o|o
   . exact hne x o hx
   . have:=own_lt p.tab hx
     omega
 . exact(p.gr.mono fun _ _ h=>.inl h).trans (q.gr.mono fun _ _ h=>.inr h)
 . rcases hy with hy|hy
   . exact(p.own y hy).imp .inl id
   . rcases q.own y hy with o|o
     . exact .inl (.inr o)
     . exact .inr (Nat.le_trans p.gr.next o)
theorem Done.same {A:St} {T':Tab} (h:Done S U b r T rb vL vE T' vL' vE' R' k) (h1:A.heap=U.heap) (h2:A.next=U.next) (h3:A.on=U.on):Done S A b r T rb vL vE T' vL' vE' R' k:=
 ⟨h.bo.grew0 (qds h1 h2 h3),h.gr.trans (qds h1 h2 h3),h.own⟩
theorem Done.at (h:Done S U b r T rb vL vE T' vL' vE' R' k) (ho:S.on=false):Done S (atS U S) b r T rb vL vE T' vL' vE' R' k:=h.same rfl rfl (h.bo.tab.on.symm)
theorem Bo.same (h:Bo S b r T rb vL vE R k):Done S S b r T rb vL vE T vL vE R (k+1):=⟨⟨h.tab,h.ref,h.ok.mono,h.sep⟩,Grew.refl _ _,fun _ h=>.inl h⟩
structure ActR where
 what:Int
 a:Int
 b:Int
 mode:Int
 name:Bs
 nm2:Bs
 data:Bs
def ActR.cells (x:ActR):List V:=[.int .i64 x.what,.int .i64 x.a,.int .i64 x.b,.int .i64 x.mode,sv x.name,sv x.nm2,sv x.data]
theorem qo8:7<big:=by unfold big; decide
structure Pre (S:St) (b r:Nat) (T:Tab) (rb:Nat) (vL vE:V) (R:RT) (k:Nat) (x:Nat) (act:ActR):Prop where
 bo:Bo S b r T rb vL vE R k
 hk:k<=60
 bx:Bx S x 60 act.cells
 lt:x<S.next
 no:¬Own b r T x
 nr:¬ROwn rb vL vE x
 n1:act.name.length<9223372036854775808
 n2:act.nm2.length<9223372036854775808
 dl:act.data.length<=300
section
variable {x:Nat} {act:ActR}
theorem Pre.ld (h:Pre S b r T rb vL vE R k x act) {i:Nat} {v:V} (hv:act.cells[i]?=some v):ld1 (.ptr x i) S=some (v,S):=Bx6.ld h.bo.tab.on h.bx qo8 hv
theorem Pre.ldL (h:Pre S b r T rb vL vE R k x act) {i:Nat} {v:V} (hv:act.cells[i]?=some v):ld1 (.ptr x i) (onS S)=some (v,S.lg [⟨x,i,i+1,false⟩]):=Bx6.ldL h.bo.tab.on h.bx qo8 hv
theorem Pre.bx1 (h:Pre S b r T rb vL vE R k x act) (p:Pft S U1 b r T T' R' k):Bx U1 x 60 act.cells:=h.bx.grew h.lt h.no p.gr
theorem Pre.icy (h:Pre S b r T rb vL vE R k x act):TabAt (icy S x 60 act.cells.length 1 (Tr.ofListFrom .nil [Tr.ofListFrom .nil act.cells 0] 0)) b r T:=h.bo.tab.icy h.no
theorem doUnlink_run (h:Pre S b r T rb vL vE R k x act) (m:Nat):∃U T' vL' vE' R',doUnlink (ev E0 KD (m+6)) (.ptr x 0) (.ptr b 0) (.ptr rb 0) S=some (.ret (.bool true),U)/\Done S U b r T rb vL vE T' vL' vE' R' (k+1):=by
 have on0:=h.bo.tab.on;obtain⟨U1,T',u1,u2⟩:=p_unlink h.bo.tab h.bo.ok h.hk (m+1) act.a act.name;obtain⟨U1',_,u1',_⟩:=p_unlink h.icy h.bo.ok h.hk (m+1) act.a act.name;obtain⟨L1,v1,w1⟩:=qn6 h.bx h.lt u1' u1;have ref1:=h.bo.mid u2;obtain⟨U2,vE',d1,d2⟩:=runlink_run ref1 (h.bo.ok.fw h.hk) (m+3) act.a act.name (fun i hi=>h.bo.ok.rel.live h.bo.ok.sd hi);obtain⟨L2,d1'⟩:=Lg.ev_onS lgD d1;have bx1:=h.bx1 u2;have on1:=u2.tab.on;refine⟨atS U2 S,T',vL,vE',_,?_,(h.bo.step u2 d2).at on0⟩;unfold doUnlink;simp only[qax,oB,Nat.zero_add];rw[h.ldL (i:=1) (v:=.int .i64 act.a) rfl,oB];dsimp only;rw[qa1,h.ldL (i:=4) (v:=sv act.name) rfl,oB];dsimp only;rw[qa1,v1,qa7,qa1,Bx6.ldL on1 bx1 qo8 (i:=1) (v:=.int .i64 act.a) rfl,oB];dsimp only;rw[qa1,Bx6.ldL on1 bx1 qo8 (i:=4) (v:=sv act.name) rfl,oB];dsimp only
 rw[qa1,d1',qa7,qbl,dT rfl,oB,qca (qfz (x:=x) (by
  repeat' (first|exact rx1 _ _ _|exact(rx1 _ _ _).wx|exact w1|exact trivial|apply And.intro))),qa1,qbf on0]
theorem doLink_run (h:Pre S b r T rb vL vE R k x act) (m:Nat):∃U T' vL' vE' R',doLink (ev E0 KD (m+6)) (.ptr x 0) (.ptr b 0) (.ptr rb 0) S=some (.ret (.bool true),U)/\Done S U b r T rb vL vE T' vL' vE' R' (k+1):=by
 have on0:=h.bo.tab.on;have hs:=h.bo.ok.shortI;obtain⟨U1,T',u1,u2⟩:=p_link h.bo.tab h.bo.ok h.hk (m+1) act.a act.b act.name h.n1;obtain⟨U1',_,u1',_⟩:=p_link h.icy h.bo.ok h.hk (m+1) act.a act.b act.name h.n1;obtain⟨L1,v1,w1⟩:=qn6 h.bx h.lt u1' u1;have ref1:=h.bo.mid u2;obtain⟨U2,vE',d1,d2⟩:=rlink_run ref1 (h.bo.ok.fw h.hk) (m+2) act.a act.b act.name h.n1;obtain⟨L2,d1'⟩:=Lg.ev_onS lgD d1;have bx1:=h.bx1 u2;have on1:=u2.tab.on;refine⟨atS U2 S,T',vL,vE',_,?_,(h.bo.step u2 d2).at on0⟩;unfold doLink;simp only[qax,oB,Nat.zero_add];rw[h.ldL (i:=1) (v:=.int .i64 act.a) rfl,oB];dsimp only;rw[qa1,h.ldL (i:=4) (v:=sv act.name) rfl,oB];dsimp only;rw[qa1,h.ldL (i:=2) (v:=.int .i64 act.b) rfl,oB];dsimp only;rw[qa1,v1,qa7,qa1,Bx6.ldL on1 bx1 qo8 (i:=1) (v:=.int .i64 act.a) rfl,oB];dsimp only;rw[ qa1,Bx6.ldL on1 bx1 qo8 (i:=4) (v:=sv act.name) rfl,oB];dsimp only;rw[ qa1,Bx6.ldL on1 bx1 qo8 (i:=2) (v:=.int .i64 act.b) rfl,oB];dsimp only
 rw[qa1,d1',qa7,qbl,dT rfl,oB,qca (qfz (x:=x) (by
  repeat' (first|exact rx1 _ _ _|exact(rx1 _ _ _).wx|exact w1|exact trivial|apply And.intro))),qa1,qbf on0]
theorem doMove_run (h:Pre S b r T rb vL vE R k x act) (m:Nat):∃U T' vL' vE' R',doMove (ev E0 KD (m+6)) (.ptr x 0) (.ptr b 0) (.ptr rb 0) S=some (.ret (.bool true),U)/\Done S U b r T rb vL vE T' vL' vE' R' (k+1):=by
 have on0:=h.bo.tab.on;have hs:=h.bo.ok.shortI
 have hap:∃n,n<=qa4/\∀i,R.find act.a act.name=some i->R.dirE act.a=0->R.placeE act.b act.nm2=0->¬(act.a=act.b/\act.name=act.nm2)->R.find act.b act.nm2=none->qhz R i n act.b=some (qdf T act.b ((T.find act.a act.name).getD 0)):=by
  by_cases ht:qf9 T act.b=0
  . obtain⟨n,n1,n2⟩:=h.bo.ok.apart h.hk ((T.find act.a act.name).getD 0) ht
    refine⟨n,n1,fun i hi _ _ _ _=>?_⟩;have:(T.find act.a act.name).getD 0=i:=by rw[h.bo.ok.rel.find,hi]; rfl
    rw[this]at n2;rw[this]; exact n2
  . refine⟨0,Nat.zero_le _,fun i _ _ hp _ _=>?_⟩
    rw[h.bo.ok.rel.place,iN ht]at hp;exact absurd hp ht
 obtain⟨n,hn,hap⟩:=hap;obtain⟨U1,T',u1,u2⟩:=p_move h.bo.tab h.bo.ok h.hk (m+1) act.a act.b act.name act.nm2 h.n2;obtain⟨U1',_,u1',_⟩:=p_move h.icy h.bo.ok h.hk (m+1) act.a act.b act.name act.nm2 h.n2;obtain⟨L1,v1,w1⟩:=qn6 h.bx h.lt u1' u1;have ref1:=h.bo.mid u2;obtain⟨U2,vE',d1,d2⟩:=rmove_run ref1 (h.bo.ok.fw h.hk) (m+2) act.a act.name act.b act.nm2 h.n2 hn hap;obtain⟨L2,d1'⟩:=Lg.ev_onS lgD d1;have bx1:=h.bx1 u2;have on1:=u2.tab.on;refine⟨atS U2 S,T',vL,vE',_,?_,(h.bo.step u2 d2).at on0⟩;unfold doMove;simp only[qax,oB,Nat.zero_add];rw[h.ldL (i:=1) (v:=.int .i64 act.a) rfl,oB];dsimp only;rw[qa1,h.ldL (i:=4) (v:=sv act.name) rfl,oB];dsimp only;rw[qa1,h.ldL (i:=2) (v:=.int .i64 act.b) rfl,oB];dsimp only;rw[qa1,h.ldL (i:=5) (v:=sv act.nm2) rfl,oB];dsimp only;rw[qa1,v1,qa7,qa1,Bx6.ldL on1 bx1 qo8 (i:=1) (v:=.int .i64 act.a) rfl,oB];dsimp only;rw[ qa1,Bx6.ldL on1 bx1 qo8 (i:=4) (v:=sv act.name) rfl,oB];dsimp only;rw[ qa1,Bx6.ldL on1 bx1 qo8 (i:=2) (v:=.int .i64 act.b) rfl,oB];dsimp only;rw[ qa1,Bx6.ldL on1 bx1 qo8 (i:=5) (v:=sv act.nm2) rfl,oB];dsimp only
 rw[qa1,d1',qa7,qbl,dT rfl,oB,qca (qfz (x:=x) (by
  repeat' (first|exact rx1 _ _ _|exact(rx1 _ _ _).wx|exact w1|exact trivial|apply And.intro))),qa1,qbf on0]
theorem doWrite_run (h:Pre S b r T rb vL vE R k x act) (m:Nat):∃U T' vL' vE' R',doWrite (ev E0 KD (m+6)) (.ptr x 0) (.ptr b 0) (.ptr rb 0) S=some (.ret (.bool true),U)/\Done S U b r T rb vL vE T' vL' vE' R' (k+1):=by
 have on0:=h.bo.tab.on;have hs:=h.bo.ok.shortI;obtain⟨U1,T',u1,u2⟩:=p_write h.bo.tab h.bo.ok h.hk (m+1) act.a act.data h.dl;obtain⟨U1',_,u1',_⟩:=p_write h.icy h.bo.ok h.hk (m+1) act.a act.data h.dl;obtain⟨L1,v1,w1⟩:=qn6 h.bx h.lt u1' u1;have ref1:=h.bo.mid u2;obtain⟨U2,d1,d2⟩:=rwrite_run ref1 (h.bo.ok.fw h.hk) hs (m+3) act.a act.data (by have:=h.dl; omega);obtain⟨L2,d1'⟩:=Lg.ev_onS lgD d1;have bx1:=h.bx1 u2;have on1:=u2.tab.on;refine⟨atS U2 S,T',vL,vE,_,?_,(h.bo.step u2 d2).at on0⟩;unfold doWrite;simp only[qax,oB,Nat.zero_add];rw[h.ldL (i:=1) (v:=.int .i64 act.a) rfl,oB];dsimp only;rw[qa1,h.ldL (i:=6) (v:=sv act.data) rfl,oB];dsimp only;rw[qa1,v1,qa7,qa1,Bx6.ldL on1 bx1 qo8 (i:=1) (v:=.int .i64 act.a) rfl,oB];dsimp only;rw[ qa1,Bx6.ldL on1 bx1 qo8 (i:=6) (v:=sv act.data) rfl,oB];dsimp only
 rw[qa1,d1',qa7,qbl,dT rfl,oB,qca (qfz (x:=x) (by
  repeat' (first|exact rx1 _ _ _|exact(rx1 _ _ _).wx|exact w1|exact trivial|apply And.intro))),qa1,qbf on0]
theorem doChmod_run (h:Pre S b r T rb vL vE R k x act) (m:Nat):∃U T' vL' vE' R',doChmod (ev E0 KD (m+6)) (.ptr x 0) (.ptr b 0) (.ptr rb 0) S=some (.ret (.bool true),U)/\Done S U b r T rb vL vE T' vL' vE' R' (k+1):=by
 have on0:=h.bo.tab.on;have hs:=h.bo.ok.shortI;obtain⟨U1,T',u1,u2⟩:=p_chmod h.bo.tab h.bo.ok (m+1) act.a act.mode;obtain⟨U1',_,u1',_⟩:=p_chmod h.icy h.bo.ok (m+1) act.a act.mode;obtain⟨L1,v1,w1⟩:=qn6 h.bx h.lt u1' u1;have ref1:=h.bo.mid u2;obtain⟨U2,d1,d2⟩:=rchmod_run ref1 (h.bo.ok.fw h.hk) (m+4) act.a act.mode;obtain⟨L2,d1'⟩:=Lg.ev_onS lgD d1;have bx1:=h.bx1 u2;have on1:=u2.tab.on;refine⟨atS U2 S,T',vL,vE,_,?_,(h.bo.step u2 d2).at on0⟩;unfold doChmod;simp only[qax,oB,Nat.zero_add];rw[h.ldL (i:=1) (v:=.int .i64 act.a) rfl,oB];dsimp only;rw[qa1,h.ldL (i:=3) (v:=.int .i64 act.mode) rfl,oB];dsimp only;rw[qa1,v1,qa7,qa1,Bx6.ldL on1 bx1 qo8 (i:=1) (v:=.int .i64 act.a) rfl,oB];dsimp only;rw[ qa1,Bx6.ldL on1 bx1 qo8 (i:=3) (v:=.int .i64 act.mode) rfl,oB];dsimp only
 rw[qa1,d1',qa7,qbl,dT rfl,oB,qca (qfz (x:=x) (by
  repeat' (first|exact rx1 _ _ _|exact(rx1 _ _ _).wx|exact w1|exact trivial|apply And.intro))),qa1,qbf on0]
theorem ext0 (p q:V):qab (.tuple [p,q]) 0=some p:=rfl
theorem ext1 (p q:V):qab (.tuple [p,q]) 1=some q:=rfl
theorem eqB4 (p:Bool):qa6 E0 .eql 4 false false (.bool p) (.bool p)=some (.bool true):=by cases p<;>kernel_rfl
theorem qly (h:Pre S b r T rb vL vE R k x act) (m:Nat):∃U T' vL' vE' R',doMake (ev E0 KD (m+6)) (.ptr x 0) (.ptr b 0) (.ptr rb 0) S=some (.ret (.bool true),U)/\Done S U b r T rb vL vE T' vL' vE' R' (k+1):=by
 have on0:=h.bo.tab.on;have hlL:=h.bo.ok.lenL;have hhk:=h.hk;have hdl:=h.dl;obtain⟨U1,T',u1,u2⟩:=p_make h.bo.tab h.bo.ok h.hk m act.a act.name act.b act.mode act.data h.n1 h.dl;have ref1:=h.bo.mid u2;obtain⟨U2,vL',vE',d1,d2⟩:=rmake_run ref1 (h.bo.ok.fw h.hk) h.bo.ok.shortI (by omega) (m+2) act.a act.name act.b act.mode act.data h.n1 (by omega);have bx1:=h.bx1 u2;have on1:=u2.tab.on;refine⟨U2,T',vL',vE',_,?_,h.bo.step u2 d2⟩;unfold doMake;simp only[qax,oB,Nat.zero_add];rw[h.ld (i:=1) (v:=.int .i64 act.a) rfl,oB];dsimp only;rw[h.ld (i:=4) (v:=sv act.name) rfl,oB];dsimp only;rw[h.ld (i:=2) (v:=.int .i64 act.b) rfl,oB];dsimp only;rw[h.ld (i:=3) (v:=.int .i64 act.mode) rfl,oB];dsimp only;rw[h.ld (i:=6) (v:=sv act.data) rfl,oB];dsimp only;rw[u1,callP_ret,ext0,oB,ext1,oB,Bx6.ld on1 bx1 qo8 (i:=1) (v:=.int .i64 act.a) rfl,oB];dsimp only;rw[Bx6.ld on1 bx1 qo8 (i:=4) (v:=sv act.name) rfl,oB];dsimp only;rw[Bx6.ld on1 bx1 qo8 (i:=2) (v:=.int .i64 act.b) rfl,oB];dsimp only;rw[Bx6.ld on1 bx1 qo8 (i:=3) (v:=.int .i64 act.mode) rfl,oB];dsimp only;rw[Bx6.ld on1 bx1 qo8 (i:=6) (v:=sv act.data) rfl,oB];dsimp only;rw[d1,callP_ret,ext0,oB,ext1,oB,qbl,dT rfl,oB];simp only[gTT,oB,cT];rw[qbl,dT rfl,oB,pickV_bool,cT,oB]
theorem doFind_run (h:Pre S b r T rb vL vE R k x act) (m:Nat):∃U T' vL' vE' R',doFind (ev E0 KD (m+6)) (.ptr x 0) (.ptr b 0) (.ptr rb 0) S=some (.ret (.bool true),U)/\Done S U b r T rb vL vE T' vL' vE' R' (k+1):=by
 have u1:=qj7 h.bo.tab (m+4) act.a act.name;have d1:=findV_run h.bo.ref (h.bo.ok.fw h.hk) (m+4) act.a act.name;rw[h.bo.ok.rel.find]at u1;refine⟨S,T,vL,vE,R,?_,h.bo.same⟩;unfold doFind;simp only[qax,oB,Nat.zero_add];rw[h.ld (i:=1) (v:=.int .i64 act.a) rfl,oB];dsimp only;rw[h.ld (i:=4) (v:=sv act.name) rfl,oB];dsimp only;rw[u1,callP_ret,ext0,oB,ext1,oB,h.ld (i:=1) (v:=.int .i64 act.a) rfl,oB];dsimp only;rw[h.ld (i:=4) (v:=sv act.name) rfl,oB];dsimp only;rw[d1,callP_ret,ext0,oB,ext1,oB,qbl,dT rfl,oB];simp only[gTT,oB,cT];rw[eqB4,oB,pickV_bool,cT,oB]
end
end
end Go.Proofs.Ytbihlgcdnhoknaa.W
