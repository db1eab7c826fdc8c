/-
  WHAT THE FUNCTIONS COME TO: each is read by the evaluator,printed,and told as a function of data,part 5 of 12 (no condition).
-/
import Derived.Test.YtafbipadnnmccaaDoorW4
noncomputable section
namespace Go.Proofs.YtafbipadnnmccaaDoor.W
open Go.Proofs.YtafbipadnnmccaaDoor.Ev Go.RowKit
theorem qkl {E:Env} {self:EV} {f:FuncId} (h:E.ext.get f=none) (hb:qda E f=true) (x y args:List V) (S:St):qc8 E self (.fn (.func f) x y) args S=self.f f (x++args++y) S:=by
 show(match E.ext.get f with|some k=>_|none=>_)=_;rw[h];show(bif qda E f then self.f f (x++args++y) S else none)=_;rw[hb]; rfl
def zP:Tr V:=Tr.ofListFrom .nil [(.int .i64 0),(sv []),(sv []),(.bool false),.nilslice,.nilptr] 0
theorem build_lit (t:Bs) (q:Bool):qaa E0 49 [(0,(.int .i64 0)),(1,sv t),(3,.bool q)]=some (.agg 6 (qdn 0 t [] q .nilslice)):=by kernel_rfl
theorem set_kind (t o:Bs) (q:Bool) (v:V):(qdn 0 t o q v).set (.int .i64 1) 0=qdn 1 t o q v:=by kernel_rfl
theorem qj4:6<big:=by unfold big; decide
section
variable {S U T:St}
theorem ag1 (ho:S.on=false) {x e:Nat} {v:V} (h:AgAt S x e 1 (Ev.one v)):ld1 (.ptr x 0) S=some (v,S):=AgAt.ld1 ho h big1 (by decide) rfl
theorem qk3 {v:V} {e z:Nat} {ts:List (Tr V)} (h:RV S v e z ts):v.size=1/\v.cells=Ev.one v/\qac v=false:=by
 rcases h with⟨_,rfl⟩|⟨r,_,_,_,rfl|rfl⟩<;>exact⟨rfl,rfl,rfl⟩
structure PS (S:St) (N b:Nat) (s:Bs) (i:Nat) (vT vW:V) (w:Nat) (out:List Part) (text:Bs) (vo vt:V):Prop where
 on:S.on=false
 lx:Lx S b s i vT vW
 bN:b<N
 hi:N+4<=S.next
 pin:AgAt S (N+2) 4 1 (Ev.one (.bool (inD w)))
 pfl:AgAt S (N+3) 1 1 (Ev.one (.fn (.func 69) [] [.ptr (N+1) 0,.ptr (N+2) 0,.ptr N 0]))
 po:AgAt S N 37 1 (Ev.one vo)
 pt:AgAt S (N+1) 79 1 (Ev.one vt)
 tx:RV S vt 5 1 (text.map qge)
 ot:∃rows,RV S vo 49 6 rows/\PrAt S (fun x=>N+4<=x/\x<S.next/\qai vo≠some x/\qai vt≠some x) out rows
 ob:∀r,qai vo=some r->N+4<=r/\qai vt≠some r
 tb:∀r,qai vt=some r->N+4<=r
variable {N b i i':Nat} {s:Bs} {vT vW vT' vW' vo vt:V} {w:Nat} {out:List Part} {text:Bs}
theorem PS.move {W:Nat->Prop} (h:PS S N b s i vT vW w out text vo vt) (g:Grew W S U) (hW:∀x,W x->x<N) (l:Lx U b s i' vT' vW'):PS U N b s i' vT' vW' w out text vo vt:=by
 obtain⟨rows,r1,r2⟩:=h.ot;have hhi:=h.hi;have nx:=g.next
 have k:∀{x e v},x<N+4->N<=x->AgAt S x e 1 v->AgAt U x e 1 v:=fun hx hN ha=>ha.grew (by omega) (fun hw=>by have:=hW _ hw; omega) g
 exact⟨g.on.trans h.on,l,h.bN,by omega,k (by omega) (by omega) h.pin,k (by omega) (by omega) h.pfl,k (by omega) (by omega) h.po,k (by omega) (by omega) h.pt,h.tx.grew (fun r hr hw=>by have:=hW _ hw; have:=h.tb r hr; omega) g,
  ⟨rows,r1.grew (fun r hr hw=>by have:=hW _ hw; have:=(h.ob r hr).1; omega) g,(r2.grew g fun x hx hw=>by have:=hW _ hw; omega).mono fun x hx=>⟨hx.1,by omega,hx.2.2⟩⟩,h.ob,h.tb⟩
theorem PS.fresh (h:PS S N b s i vT vW w out text vo vt) (hb:b<S.next) (g:Grew (fun _=>False) S U):PS U N b s i vT vW w out text vo vt:=
 h.move g (fun _ h=>h.elim) (h.lx.grew hb (fun h=>h) g)
theorem PS.push (h:PS S N b s i vT vW w out text vo vt) (hl:text.length<50000) (c:UInt8):∃U vt',(∀k:V×St->Rs,((ld1 (.ptr (N+1) 0) S).bind fun p=>(bsP 5 1 1 (Ev.one (.int .u8 0)) [(0,.int .u8 (c.toNat:Int))] p.2).bind fun q=>(apP 5 1 1 p.1 q.1 q.2).bind fun r=>(stP 1 (.ptr (N+1) 0) r.1 r.2).bind k)=k (.tuple [],U))/\
 PS U N b s i vT vW w out (text++[c]) vo vt'/\Grew (fun x=>N<=x) S U:=by
 have hbS:b<S.next:=by have:=h.bN; have:=h.hi; omega
 obtain⟨y,T1,a1,a2,a3,a4,a5⟩:=rv_byte h.on c;have h1:=h.fresh hbS a4;obtain⟨v',T2,b1,b2,b3,b4,_⟩:=h1.tx.cat h1.on (by omega) (a2.pv h1.on) (B:=1) (by simp only[lM,List.length_singleton]; omega) (by omega);have nx1:=a4.next
 have nx2:=b3.next
 have hhi:=h1.hi;have on2:=b3.on.trans h1.on;have hg2:Grew (fun x=>N+4<=x) T1 T2:=b3.mono fun x _ hx=>h1.tb x hx;have k:∀{x e v},x<N+4->AgAt T1 x e 1 v->AgAt T2 x e 1 v:=fun hx ha=>ha.grew (by omega) (fun hw=>by have:=h1.tb _ hw; omega) b3;obtain⟨q1,q2,q3⟩:=qk3 b2;obtain⟨T3,c1,c2,c3,c4⟩:=(k (by omega) h1.pt).st_one on2 v' q1 q2 q3;have nx3:=c3.next
 obtain⟨rows,r1,r2⟩:=h1.ot;have hnew:∀r,qai v'=some r->qai vt=some r\/T1.next<=r:=b4
 have kk:∀{x e v},x<N+4->x≠N+1->AgAt T1 x e 1 v->AgAt T3 x e 1 v:=fun hx hne ha=>(k hx ha).grew (by omega) hne c3;refine⟨T3,v',fun kf=>?_,⟨c3.on.trans on2,?_,h1.bN,by omega,kk (by omega) (by omega) h1.pin,kk (by omega) (by omega) h1.pfl,kk (by omega) (by omega) h1.po,c2,?_,⟨rows,?_,?_⟩,?_,?_⟩,?_⟩
 . rw[ag1 h.on h.pt,oB]
   dsimp only;rw[a1,oB];dsimp only;rw[b1,oB];dsimp only;rw[c1,oB]
 . have:=h1.bN
   exact(h1.lx.grew (by omega) (fun hw=>by have:=h1.tb _ hw; omega) b3).grew (by omega) (by omega) c3
 . rw[List.map_append]
   refine b2.grew (fun r hr hx=>?_) c3;subst hx;rcases hnew _ hr with h|h
   . have:=h1.tb _ h; omega
   . omega
 . refine(r1.grew (fun r hr hw=>(h1.ob r hr).2 hw) b3).grew (fun r hr hx=>?_) c3
   have:=(h1.ob r hr).1;omega
 . refine((r2.grew b3 fun x hx hw=>hx.2.2.2 hw).grew c3 fun x hx he=>by omega).mono fun x hx=>⟨hx.1,by omega,hx.2.2.1,fun hv=>?_⟩
   rcases hnew _ hv with h|h
   . exact hx.2.2.2 h
   . omega
 . intro r hr
   refine⟨(h1.ob r hr).1,fun hv=>?_⟩;rcases hnew _ hv with h|h
   . exact(h1.ob r hr).2 h
   . have:=r1.blk_lt hr; omega
 . intro r hr
   rcases hnew _ hr with h|h
   . exact h1.tb r h
   . omega
 . exact((a4.mono fun _ _ h=>h.elim).trans (hg2.mono fun x _ hx=>by omega)).trans (c3.mono fun x _ hx=>by omega)
theorem PS.cat (h:PS S N b s i vT vW w out [] vo vt) {y:V} {m:List (Tr V)} {ps:List Part} (hy:RV S y 49 6 m) (hps:PrAt S (fun x=>N+4<=x/\x<S.next/\qai vo≠some x) ps m) (hl:out.length+ps.length<90000) :
 ∃U vo',(∀k:V×St->Rs,((ld1 (.ptr N 0) S).bind fun p=>(apP 49 6 80 p.1 y p.2).bind fun r=>(stP 1 (.ptr N 0) r.1 r.2).bind k)=k (.tuple [],U))/\
 PS U N b s i vT vW w (out++ps) [] vo' .nilslice/\Grew (fun x=>x=N\/qai vo=some x) S U/\∀r,qai vo'=some r->qai vo=some r\/S.next<=r:=by
 obtain⟨rows,r1,r2⟩:=h.ot
 have hvt:vt=.nilslice:=by
  rcases h.tx with⟨_,hv⟩|⟨r,_,_,h3,_⟩
  . exact hv
  . simp at h3
 subst hvt;have e1:=r2.len;have e2:=hps.len;obtain⟨v',T2,b1,b2,b3,b4,_⟩:=r1.cat h.on (by omega) (hy.pv h.on) (B:=80) (by omega) (by omega);have nx2:=b3.next
 have hhi:=h.hi;have on2:=b3.on.trans h.on;have k:∀{x e v},x<N+4->AgAt S x e 1 v->AgAt T2 x e 1 v:=fun hx ha=>ha.grew (by omega) (fun hw=>by have:=(h.ob _ hw).1; omega) b3;obtain⟨q1,q2,q3⟩:=qk3 b2;obtain⟨T3,c1,c2,c3,c4⟩:=(k (by omega) h.po).st_one on2 v' q1 q2 q3;have nx3:=c3.next
 have hnew:∀r,qai v'=some r->N+4<=r:=fun r hr=>by
  rcases b4 r hr with h'|h'
  . exact(h.ob r h').1
  . omega
 have kk:∀{x e v},x<N+4->x≠N->AgAt S x e 1 v->AgAt T3 x e 1 v:=fun hx hne ha=>(k hx ha).grew (by omega) hne c3;refine⟨T3,v',fun kf=>?_,⟨c3.on.trans on2,?_,h.bN,by omega,kk (by omega) (by omega) h.pin,kk (by omega) (by omega) h.pfl,c2,kk (by omega) (by omega) h.pt,.inl ⟨rfl,rfl⟩,⟨rows++m,?_,?_⟩,?_,?_⟩,?_,b4⟩
 . rw[ag1 h.on h.po,oB]
   dsimp only;rw[b1,oB];dsimp only;rw[c1,oB]
 . have:=h.bN
   exact(h.lx.grew (by omega) (fun hw=>by have:=(h.ob _ hw).1; omega) b3).grew (by omega) (by omega) c3
 . exact b2.grew (fun r hr hx=>by have:=hnew _ hr; omega) c3
 . have hall:PrAt S (fun x=>N+4<=x/\x<S.next/\qai vo≠some x) (out++ps) (rows++m):=(r2.mono fun x hx=>⟨hx.1,hx.2.1,hx.2.2.1⟩).append hps
   refine((hall.grew b3 fun x hx hw=>hx.2.2 hw).grew c3 fun x hx he=>by omega).mono fun x hx=>⟨hx.1,by omega,fun hv=>?_,fun hv=>by cases hv⟩
   rcases b4 _ hv with h'|h'
   . exact hx.2.2 h'
   . omega
 . exact fun r hr=>⟨hnew r hr,fun hv=>by cases hv⟩
 . exact fun r hr=>by cases hr
 . exact(b3.mono fun x _ hx=>.inr hx).trans (c3.mono fun x _ hx=>.inl hx)
variable {K:FuncId->Option KF}
theorem call69 {self:EV} {a1 a2 a3:V}:qc8 E0 self (.fn (.func 69) [] [a1,a2,a3]) [] S=self.f 69 [a1,a2,a3] S:=qkl (by kernel_rfl) (by kernel_rfl) [] [a1,a2,a3] [] S
theorem call70 {self:EV} {a1 a2 y:V}:qc8 E0 self (.fn (.func 70) [] [a1,a2]) [y] S=self.f 70 [y,a1,a2] S:=qkl (by kernel_rfl) (by kernel_rfl) [] [a1,a2] [y] S
theorem flush_run (hK:RefL K) (d:Nat) (h:PS S N b s i vT vW w out text vo vt) (hl:out.length+text.length<50000) :
 ∃U vo',(ev E0 K (d+1)).f 69 [.ptr (N+1) 0,.ptr (N+2) 0,.ptr N 0] S=some (.ret (.tuple []),U)/\PS U N b s i vT vW w (qkc w out text) [] vo' .nilslice/\Grew (fun x=>x=N\/x=N+1\/qai vo=some x) S U/\∀r,qai vo'=some r->qai vo=some r\/S.next<=r:=by
 have hbS:b<S.next:=by have:=h.bN; have:=h.hi; omega
 have hln:∀T,lnS vt T=some (.int .i64 (text.length:Int),T):=fun T=>by
  have:=h.tx.len T
  rwa [lM]at this
 by_cases h0:text=[]
 . subst h0
   have hvt:vt=.nilslice:=by
    rcases h.tx with⟨_,hv⟩|⟨r,_,_,h3,_⟩
    . exact hv
    . simp at h3
   subst hvt;refine⟨S,vo,rv69 hK ?_,h,Grew.refl _ _,fun r hr=>.inl hr⟩;show F69 (ev E0 K d) qa3 (.ptr (N+1) 0) (.ptr (N+2) 0) (.ptr N 0) S=_;rw[F69_eq,ag1 h.on h.pt,oB];dsimp only;rw[hln,oB];rfl
 . have hpos:0<text.length:=List.length_pos_iff.2 h0
   obtain⟨n1,n2,n3⟩:=qbx h.on 49 6 zP;have p1:=h.fresh hbS n2;obtain⟨T2,m1,m2,m3,m4⟩:=n1.stA p1.on qj4 (qdn 0 text [] (inD w) .nilslice);have nx:=h.hi;have bN:=h.bN;have nm:=m3.next
   have gS2:Grew (fun _=>False) S T2:=⟨by have:=n2.next; omega,m3.on.trans n2.on,fun x hx _=>(m3.keep x (by have:=n2.next; omega) (by omega)).trans (n2.keep x hx (fun h=>h))⟩
   have p2:=h.fresh hbS gS2
   have key:∀(T3:St) (kd:Nat),Grew (fun _=>False) S T3->AgAt T3 S.next 49 6 (qdn kd text [] (inD w) .nilslice)->kd=(if inD w then 1 else 0)->
    ∃U vo',(∀k:V×St->Rs,((ld1 (.ptr N 0) T3).bind fun p18=>(ldA 6 (.ptr S.next 0) p18.2).bind fun p19=>(bsP 49 6 1 zP [(0,p19.1)] p19.2).bind fun p20=>(apP 49 6 80 p18.1 p20.1 p20.2).bind fun p21=>(stP 1 (.ptr N 0) p21.1 p21.2).bind fun p22=>(stP 1 (.ptr (N+1) 0) .nilslice p22.2).bind k)=k (.tuple [],U))/\
     PS U N b s i vT vW w (qkc w out text) [] vo' .nilslice/\Grew (fun x=>x=N\/x=N+1\/qai vo=some x) S U/\∀r,qai vo'=some r->qai vo=some r\/S.next<=r:=fun T3 kd g3 a3 hkd=>by
    have p3:=h.fresh hbS g3;have nx3:=g3.next
    obtain⟨y,T4,c1,c2,c3,c4,c5⟩:=qfh p3.on 49 6 zP (qdn kd text [] (inD w) .nilslice) (by omega) (by omega);have p4:=p3.fresh (by omega) c4;have nx4:=c4.next
    obtain⟨rows,r1,r2⟩:=p4.ot;have e1:=r2.len;obtain⟨v',T5,b1,b2,b3,b4,_⟩:=r1.cat p4.on (by omega) (c2.pv p4.on) (B:=80) (by rw[List.length_singleton]; omega) (by omega);have nx5:=b3.next
    have on5:=b3.on.trans p4.on;have hhi:=p4.hi;have k5:∀{x e v},x<N+4->AgAt T4 x e 1 v->AgAt T5 x e 1 v:=fun hx ha=>ha.grew (by omega) (fun hw=>by have:=(p4.ob _ hw).1; omega) b3;obtain⟨q1,q2,q3⟩:=qk3 b2;obtain⟨T6,d1,d2,d3,d4⟩:=(k5 (by omega) p4.po).st_one on5 v' q1 q2 q3;have on6:=d3.on.trans on5;have nx6:=d3.next
    have k6:∀{x e v},x<N+4->x≠N->AgAt T4 x e 1 v->AgAt T6 x e 1 v:=fun hx hne ha=>(k5 hx ha).grew (by omega) hne d3;obtain⟨T7,f1,f2,f3,f4⟩:=(k6 (by omega) (by omega) p4.pt).st_one on6 .nilslice rfl rfl rfl;have nx7:=f3.next
    have k7:∀{x e v},x<N+4->x≠N->x≠N+1->AgAt T4 x e 1 v->AgAt T7 x e 1 v:=fun hx hne hne2 ha=>(k6 hx hne ha).grew (by omega) hne2 f3
    have hnew:∀r,qai v'=some r->N+4<=r:=fun r hr=>by
     rcases b4 r hr with h'|h'
     . exact(p4.ob r h').1
     . omega
    refine⟨T7,v',fun kf=>?_,⟨f3.on.trans on6,?_,h.bN,by omega,k7 (by omega) (by omega) (by omega) p4.pin,k7 (by omega) (by omega) (by omega) p4.pfl,d2.grew (by omega) (by omega) f3,f2,.inl ⟨rfl,rfl⟩,⟨rows++[qdn kd text [] (inD w) .nilslice],?_,?_⟩,?_,?_⟩,?_,?_⟩
    . rw[ag1 p3.on p3.po,oB]
      dsimp only;rw[a3.ldA p3.on qj4,oB];dsimp only;rw[c1,oB];dsimp only;rw[b1,oB];dsimp only;rw[d1,oB];dsimp only;rw[f1,oB]
    . exact((p4.lx.grew (by omega) (fun hw=>by have:=(p4.ob _ hw).1; omega) b3).grew (by omega) (by omega) d3).grew (by omega) (by omega) f3
    . exact(b2.grew (fun r hr hx=>by have:=hnew _ hr; omega) d3).grew (fun r hr hx=>by have:=hnew _ hr; omega) f3
    . have hone:PrAt T4 (fun x=>N+4<=x/\x<T4.next/\qai vo≠some x) [.mk kd text [] (inD w) []] [qdn kd text [] (inD w) .nilslice]:=prAt_one (qdm _ _ _ _)
      have hall:=(r2.mono fun x hx=>(⟨hx.1,hx.2.1,hx.2.2.1⟩:N+4<=x/\x<T4.next/\qai vo≠some x)).append hone;have hfl:qkc w out text=out++[.mk kd text [] (inD w) []]:=by unfold qkc; rw[iN h0,hkd]
      rw[hfl];refine(((hall.grew b3 fun x hx hw=>hx.2.2 hw).grew d3 fun x hx he=>by omega).grew f3 fun x hx he=>by omega).mono fun x hx=>⟨hx.1,by omega,fun hv=>?_,fun hv=>by cases hv⟩
      rcases b4 _ hv with h'|h'
      . exact hx.2.2 h'
      . omega
    . exact fun r hr=>⟨hnew r hr,fun hv=>by cases hv⟩
    . exact fun r hr=>by cases hr
    . exact((((g3.mono fun _ _ h=>h.elim).trans (c4.mono fun _ _ h=>h.elim)).trans (b3.mono fun x _ hx=>.inr (.inr hx))).trans (d3.mono fun x _ hx=>.inl hx)).trans (f3.mono fun x _ hx=>.inr (.inl hx))
    . intro r hr
      rcases b4 r hr with h'|h'
      . exact .inl h'
      . exact .inr (by omega)
   have hF:∀U,F69 (ev E0 K d) qa3 (.ptr (N+1) 0) (.ptr (N+2) 0) (.ptr N 0) S=some (.ret (.tuple []),U)->(ev E0 K (d+1)).f 69 [.ptr (N+1) 0,.ptr (N+2) 0,.ptr N 0] S=some (.ret (.tuple []),U):=fun U e=>rv69 hK e;have hs:F69 (ev E0 K d) qa3 (.ptr (N+1) 0) (.ptr (N+2) 0) (.ptr N 0) S=_:=F69_eq ..;rw[ag1 h.on h.pt,oB]at hs;dsimp only at hs;rw[hln,oB]at hs;dsimp only at hs;rw[eql0,dF (by omega),oB,ifK_bool,cF,ag1 h.on h.pt,oB]at hs;dsimp only at hs;rw[conv_rv h.on h.tx h0,oB]at hs;dsimp only at hs;rw[ag1 h.on h.pin,oB]at hs;dsimp only at hs;rw[build_lit,oB,oB,qbv,show(Tr.ofListFrom .nil [(.int .i64 0),(sv []),(sv []),(.bool false),.nilslice,.nilptr] 0:Tr V)=zP from rfl,m1,oB]at hs;dsimp only at hs;rw[ag1 p2.on p2.pin,oB]at hs;dsimp only at hs;rw[ifK_bool]at hs;cases hin:inD w with
   | true=>
    obtain⟨T3,s1,s2,s3,s4⟩:=m2.st1 p2.on qj4 (by decide) (by decide:0<6) (.int .i64 1) rfl rfl rfl;rw[hin,set_kind]at s2;have gS3:Grew (fun _=>False) S T3:=⟨by have:=gS2.next; have:=s3.next; omega,s3.on.trans gS2.on,fun x hx _=>(s3.keep x (by have:=gS2.next; omega) (by omega)).trans (gS2.keep x hx (fun h=>h))⟩
    obtain⟨U,vo',k1,k2⟩:=key T3 1 gS3 (by rw[hin]; exact s2) (by rw[hin]; rfl);rw[hin,cT,fap0,oB,s1,oB]at hs;dsimp only at hs;rw[k1]at hs;exact⟨U,vo',hF U hs,k2⟩
   | false=>
    rw[hin]at m2;obtain⟨U,vo',k1,k2⟩:=key T2 0 gS2 (by rw[hin]; exact m2) (by rw[hin]; rfl);rw[hin,cF,k1]at hs;exact⟨U,vo',hF U hs,k2⟩
theorem add_run (hK:RefL K) (d:Nat) (h:PS S N b s i vT vW w out text vo vt) {y:V} {m:List (Tr V)} {ps:List Part} (hy:RV S y 49 6 m) (hyb:∀r,qai y=some r->N+4<=r/\qai vo≠some r) (hps:PrAt S (fun x=>N+4<=x/\x<S.next/\qai vo≠some x) ps m) (hl:out.length+text.length<50000) (hl2:ps.length<30000) :
 ∃U vo',qc8 E0 (ev E0 K (d+2)) (.fn (.func 70) [] [.ptr (N+3) 0,.ptr N 0]) [y] S=some (.ret (.tuple []),U)/\PS U N b s i vT vW w (qkc w out text++ps) [] vo' .nilslice/\Grew (fun x=>N<=x) S U:=by
 obtain⟨T1,v1,a1,a2,a3,a4⟩:=flush_run hK d h hl;have hhi:=h.hi;have nx:=a3.next
 have hy1:RV T1 y 49 6 m:=hy.grew (fun r hr hw=>by
  have:=hyb r hr;rcases hw with hw|hw|hw
  . omega
  . omega
  . exact this.2 hw) a3
 have hps1:PrAt T1 (fun x=>N+4<=x/\x<T1.next/\qai v1≠some x) ps m:=(hps.grew a3 fun x hx hw=>by
  rcases hw with hw|hw|hw
  . omega
  . omega
  . exact hx.2.2 hw).mono fun x hx=>⟨hx.1,by omega,fun hv=>by
    rcases a4 x hv with h'|h'
    . exact hx.2.2 h'
    . omega⟩
 have hfl:=flu_len w out text;obtain⟨U,v2,b1,b2,b3,b4⟩:=a2.cat hy1 hps1 (by omega);refine⟨U,v2,?_,b2,?_⟩
 . rw[call70]
   refine rv70 hK (n:=d+1) ?_;show F70 (ev E0 K (d+1)) qa3 y (.ptr (N+3) 0) (.ptr N 0) S=_;rw[F70_eq,ag1 h.on h.pfl,oB];dsimp only;rw[call69,a1,callP_ret,b1]
 . exact(a3.mono fun x _ hx=>by
    rcases hx with hx|hx|hx
    . omega
    . omega
    . have:=(h.ob x hx).1; omega).trans (b3.mono fun x _ hx=>by
    rcases hx with hx|hx
    . omega
    . have:=(a2.ob x hx).1; omega)
end
section
variable {K:FuncId->Option KF} {S U T:St} {b i:Nat} {s:Bs} {vT vW:V}
theorem texts_row (ho:S.on=false) (l:List Bs) (hl:l.length<1000):∃U,bsP 9 1 l.length (Ev.one (sv [])) (numb 0 (l.map sv)) S=some (.slice S.next 0 l.length l.length,U)/\TL U (.slice S.next 0 l.length l.length) l/\Grew (fun _=>False) S U/\U.next=S.next+1:=by
 obtain⟨U,h1,h2,h3,h4⟩:=bsP_ones ho 9 (Ev.one (sv [])) (l.map sv) (fun v hv=>by
  obtain⟨a,_,rfl⟩:=List.mem_map.1 hv
  exact oneV_sv a) (by rw[lM]; unfold big; omega)
 have h:=h1 none;rw[lM]at h;refine⟨U,h,?_,h3,h4⟩;refine TL.sli (r:=S.next) (c:=l.length) ?_ (by omega);rw[List.map_map]at h2;exact h2
theorem ops_run (hK:RefL K) (m:Nat) (ho:S.on=false):∃U,(ev E0 K (m+1)).f 99 [] S=some (.ret (.slice S.next 0 12 12),U)/\TL U (.slice S.next 0 12 12) opsT/\Grew (fun _=>False) S U/\U.next=S.next+1:=by
 obtain⟨U,h1,h2⟩:=texts_row ho opsT (by decide);refine⟨U,rv99 hK ?_,h2⟩;show F99 (ev E0 K m) qa3 S=_;rw[F99_eq];have e:bsP 9 1 12 (Ev.one (sv [])) [(0,(sv [58,45])),(1,(sv [58,61])),(2,(sv [58,43])),(3,(sv [58,63])),(4,(sv [35,35])),(5,(sv [37,37])),(6,(sv [45])),(7,(sv [61])),(8,(sv [43])),(9,(sv [63])),(10,(sv [35])),(11,(sv [37]))] S=some (.slice S.next 0 12 12,U):=h1;rw[e,oB]
theorem marks_run (hK:RefL K) (m:Nat) (ho:S.on=false):∃U,(ev E0 K (m+1)).f 48 [] S=some (.ret (.slice S.next 0 12 12),U)/\TL U (.slice S.next 0 12 12) marT/\Grew (fun _=>False) S U/\U.next=S.next+1:=by
 obtain⟨U,h1,h2⟩:=texts_row ho marT (by decide);refine⟨U,rv48 hK ?_,h2⟩;show F48 (ev E0 K m) qa3 S=_;rw[F48_eq];have e:bsP 9 1 12 (Ev.one (sv [])) [(0,(sv [59,59])),(1,(sv [59])),(2,(sv [38,38])),(3,(sv [124,124])),(4,(sv [124])),(5,(sv [40])),(6,(sv [41])),(7,(sv [60,60])),(8,(sv [60])),(9,(sv [62,62])),(10,(sv [62,38])),(11,(sv [62]))] S=some (.slice S.next 0 12 12,U):=h1;rw[e,oB]
theorem call23 {self:EV} {p y:V}:qc8 E0 self (.fn (.func 23) [p] []) [y] S=self.f 23 [p,y] S:=qkl (by kernel_rfl) (by kernel_rfl) [p] [] [y] S
abbrev FndR (o:Option Bs) (L:List Bs) (S:St) (b i:Nat) (s:Bs) (vT vW:V) (r rn:Rs):Prop:=match o with
 | none=>r=rn
 | some o=>∃(j:Nat) (U:St),L[j]?=some o/\r=some (.ret (.int .i64 (j:Int)),U)/\Lx U b s (i+o.length) vT vW/\Grew (fun x=>x=b) S U/\U.next=S.next/\U.on=false
theorem L67_spec (hK:RefL K) (m:Nat) (ho:S.on=false) (h:Lx S b s i vT vW) (hs:s.length<9223372036854770000) (hi:i<=s.length) {v:V} {L:List Bs} (hL:TL S v L) (hLl:L.length<1000) (nk:Ac->St->Rs) (ek:Nat->Ac->St->Rs) :
 ∀(l:List Bs) (k q:Nat),L.drop k=l->l.length<q->
 FndR (l.find? (fun o=>atD s i o)) L S b i s vT vW (L67_6 (ev E0 K (m+4)) qa3 nk ek q v (.fn (.func 23) [.ptr b 0] []) (.int .i64 (L.length:Int)) (.int .i64 (k:Int)) S) (ek 0 (fr 19 []) S)
 | l,k,0,hk,hq=>absurd hq (Nat.not_lt_zero _)
 | [],k,q+1,hk,hq=>by
  show L67_6 _ _ _ _ _ _ _ _ _ _=_;rw[L67_6_eq,qkg,oB,dF (by have:=qdu hk; omega),ifK_bool,cF]
 | o::l,k,q+1,hk,hq=>by
  obtain⟨hlt,hc,hr,_⟩:=qey hk;rw[List.length_cons]at hq;have ih:=L67_spec hK m ho h hs hi hL hLl nk ek l (k+1) q hr (by omega);obtain⟨p,p1,p2⟩:=hL.ld ho (i:=k) (a:=o) (by rw[List.getElem?_eq_getElem hlt,hc]);have e:L67_6 (ev E0 K (m+4)) qa3 nk ek (q+1) v (.fn (.func 23) [.ptr b 0] []) (.int .i64 (L.length:Int)) (.int .i64 (k:Int)) S=_:=L67_6_eq ..;rw[qkg,oB,dT hlt,ifK_bool,cT,p1,oB,p2,oB]at e;dsimp only at e;rw[call23]at e;rw[List.find?_cons];cases ha:atD s i o with
  | true=>
   have hlen:i+o.length<=s.length:=by
    by_cases h0:o=[]
    . subst h0; simpa using hi
    . exact qax ha h0
   obtain⟨U,k1,k2,k3,k4⟩:=qb2 hK m ho h hi (t:=o) (by omega) ha;rw[k1,callP_ret,ifK_bool,cT]at e;exact⟨k,U,by rw[List.getElem?_eq_getElem hlt,hc],e,k2,k3,k4,k3.on.trans ho⟩
  | false=>
   rw[qbc hK m ho h hi (t:=o) ha,callP_ret,ifK_bool,cF,qei (by omega),oB]at e;dsimp only;rw[e];exact ih
theorem f67_run (hK:RefL K) (m:Nat) (ho:S.on=false) (h:Lx S b s i vT vW) (hs:s.length<9223372036854770000) (hi:i<=s.length) {v:V} {L:List Bs} (hL:TL S v L) (hLl:L.length<1000) :
 FndR (L.find? (fun o=>atD s i o)) L S b i s vT vW ((ev E0 K (m+5)).f 67 [v,.fn (.func 23) [.ptr b 0] []] S) (some (.ret (.int .i64 (-1)),S)):=by
 have hF:F67 (ev E0 K (m+4)) qa3 v (.fn (.func 23) [.ptr b 0] []) S=_:=F67_eq ..;rw[hL.len,oB]at hF;dsimp only at hF;have:=L67_spec hK m ho h hs hi hL hLl (R67_1 (ev E0 K (m+4)) qa3 (qcn E0 (ev E0 K (m+4)) Tryd.f67) qb0) (exB 0 (R67_1 (ev E0 K (m+4)) qa3 (qcn E0 (ev E0 K (m+4)) Tryd.f67) qb0) qb0) L 0 qa3 rfl (by unfold qa3; omega);cases hf:L.find? (fun o=>atD s i o)with
 | none=>
  rw[hf]at this;refine rv67 hK (hF.trans (Eq.trans this ?_));rw[exB_same,R67_1_eq]
 | some o=>
  rw[hf]at this;obtain⟨j,U,h1,h2,h3⟩:=this;exact⟨j,U,h1,rv67 hK (hF.trans h2),h3⟩
theorem more_lg (hK:RefL K) (m:Nat) (ho:S.on=false) (h:Lx S b s i vT vW):(ev E0 K (m+1)).f 24 [.ptr b 0] (onS S)=some (.ret (.bool (decide (i<s.length))),S.lg [⟨b,0,1,false⟩,⟨b,1,2,false⟩]):=rv24 hK (by
 show F24 (ev E0 K m) qa3 (.ptr b 0) (onS S)=_;rw[F24_eq,show onS S=S.lg []from rfl,h.l1 ho];dsimp only;rw[h.l0 ho];dsimp only;rw[qg8,llg,lnStr_sv,oB];dsimp only;rw[qkg,oB,qcu (by rfl)]
 rfl)
end
def PsR (U:St) (N:Nat) (v:V) (l:List Part):Prop:=∃rows,RV U v 49 6 rows/\PrAt U (fun x=>N<=x/\x<U.next) l rows/\∀r,qai v=some r->N<=r
abbrev PartsR (o:Except Flt (List Part×Nat)) (S:St) (b:Nat) (s:Bs) (vT vW:V) (r:Rs):Prop:=match o with
 | .ok q=>∃U v,r=some (.ret v,U)/\Lx U b s q.2 vT vW/\Grew (fun x=>x=b) S U/\PsR U S.next v q.1
 | .error e=>Bad (fun x=>x=b) S r e.1 e.2
def qgb (K:FuncId->Option KF) (n:Nat):Prop:=∀(d:Nat) (S:St) (b i:Nat) (s:Bs) (vT vW:V) (w deep:Nat),S.on=false->b<S.next->Lx S b s i vT vW->s.length<=5000->i<=s.length->deep<=20->4*n+2*s.length+61<=d->2*(s.length-i)+1<=n->n<100000->
 PartsR (qal n s w deep i [] []) S b s vT vW ((ev E0 K d).f 49 [.ptr b 0,.int .i64 (w:Int),.int .i64 (deep:Int)] S)
abbrev BrR (o:Except Flt (Part×Nat)) (S:St) (N b:Nat) (s:Bs) (vT vW:V) (r:Rs):Prop:=match o with
 | .ok q=>∃U T,r=some (.ret (.agg 6 T),U)/\Lx U b s q.2 vT vW/\Grew (fun x=>x=b\/N<=x) S U/\PtAt U (fun x=>N<=x/\x<U.next) q.1 T
 | .error e=>Bad (fun x=>x=b\/N<=x) S r e.1 e.2
def brT (n:Nat) (s:Bs) (w deep i k:Nat) (t o:Bs):Except Flt (Part×Nat):=match qal n s (if inD w then 4 else 3) (deep+1) k [] []with
 | .error e=>.error e
 | .ok (l,j)=>if atD s j [125]then .ok (.mk 2 t o (inD w) l,j+1)else .error (19,i)
def brS (n:Nat) (s:Bs) (w deep i:Nat):Except Flt (Part×Nat):=
 let m:=qbr (s.drop (i+2)) [63,35,64,42]
 let t:=(s.drop (i+2)).take m
 let k:=i+2+m
 if m=0 then .error (19,i)
 else if atD s k [125]then .ok (.mk 2 t [] (inD w) [],k+1)
 else match opsT.find? fun o=>atD s k o with
  | none=>.error (19,i)
  | some o=>brT n s w deep i (k+o.length) t o
def brD (n:Nat) (s:Bs) (w deep i:Nat):Except Flt (Part×Nat):=
 if 20<=deep then .error (3,i)
 else
  if atD s (i+2) [35]&&qbr (s.drop (i+3)) [63,64,42] != 0&&atD s (i+3+qbr (s.drop (i+3)) [63,64,42]) [125]then
   .ok (.mk 2 ((s.drop (i+3)).take (qbr (s.drop (i+3)) [63,64,42])) [108,101,110] (inD w) [],i+3+qbr (s.drop (i+3)) [63,64,42]+1)
  else brS n s w deep i
theorem dolD_br (n:Nat) (s:Bs) (w deep i:Nat) (h1:atD s i [36,40,40]=false) (h2:atD s i [36,40]=false) (h3:atD s i [36,123]=true):qj5 (n+1) s w deep i=match brD n s w deep i with
 | .error e=>.error e
 | .ok q=>.ok (some q):=by
 rw[qj5,h1,h2,h3];simp only[Bool.false_eq_true,↓reduceIte];unfold brD brS brT;dsimp only;by_cases a1:20<=deep
 . rw[iP a1,iP a1]
 . rw[iN a1,iN a1]
   by_cases a2:(atD s (i+2) [35]&&qbr (s.drop (i+3)) [63,64,42] != 0&&atD s (i+3+qbr (s.drop (i+3)) [63,64,42]) [125])=true
   . rw[iP a2,iP a2]
   . rw[iN a2,iN a2]
     by_cases a3:qbr (s.drop (i+2)) [63,35,64,42]=0
     . rw[iP a3,iP a3]
     . rw[iN a3,iN a3]
       by_cases a4:atD s (i+2+qbr (s.drop (i+2)) [63,35,64,42]) [125]=true
       . rw[iP a4,iP a4]
       . rw[iN a4,iN a4]
         cases opsT.find? fun o=>atD s (i+2+qbr (s.drop (i+2)) [63,35,64,42]) o with
         | none=>rfl
         | some o=>
          dsimp only;cases qal n s (if inD w=true then 4 else 3) (deep+1) (i+2+qbr (s.drop (i+2)) [63,35,64,42]+o.length) [] []with
          | error e=>rfl
          | ok q=>
           obtain⟨l,j⟩:=q;dsimp only;split<;>rfl
theorem set_text (k:Nat) (t t' o:Bs) (q:Bool) (v:V):(qdn k t o q v).set (sv t') 1=qdn k t' o q v:=by kernel_rfl
theorem set_op (k:Nat) (t o o':Bs) (q:Bool) (v:V):(qdn k t o q v).set (sv o') 2=qdn k t o' q v:=by kernel_rfl
theorem set_word (k:Nat) (t o:Bs) (q:Bool) (v v':V):(qdn k t o q v).set v' 4=qdn k t o q v':=by kernel_rfl
theorem get_text (k:Nat) (t o:Bs) (q:Bool) (v:V):(qdn k t o q v).get 1=some (sv t):=by kernel_rfl
theorem fap2 (b:Nat):faP 2 false 1 (.ptr b 0)=some (.ptr b 2):=rfl
theorem fap4 (b:Nat):faP 4 false 1 (.ptr b 0)=some (.ptr b 4):=rfl
theorem build_prm (q:Bool):qaa E0 49 [(0,(.int .i64 2)),(3,.bool q)]=some (.agg 6 (qdn 2 [] [] q .nilslice)):=by kernel_rfl
def BrTail (self:EV) (x0 x1 x2 x3 p0 p8 ov:V) (S:St):Rs:=
(faP 2 false 1 p8).bind fun t217=>
(stP 1 t217 ov S).bind fun p218=>
callP (self.f 68 [x2] p218.2) fun t221 S221=>
ifK t221 (
(qa5 E0 .add 3 false true x3 (.int .i64 1)).bind fun t226=>
callP (self.f 49 [x0,(.int .i64 4),t226] S221) fun t227 S227=>
(faP 4 false 1 p8).bind fun t228=>
(stP 1 t228 t227 S227).bind fun p229=>
callP (self.f 23 [x0,(sv [125])] p229.2) fun t231 S231=>
(unV .not t231).bind fun t232=>
ifK t232 (
callP (self.f 25 [(.int .i64 19),x1] S231) fun t234 S234=>
(ldA 6 p8 S234).bind fun p235=>
(stP 6 p0 p235.1 p235.2).bind fun p236=>
(ldrA 6 p0 p236.2).bind fun p237=>
some (.ret p237.1,p237.2)) (
(ldA 6 p8 S231).bind fun p238=>
(stP 6 p0 p238.1 p238.2).bind fun p239=>
(ldrA 6 p0 p239.2).bind fun p240=>
some (.ret p240.1,p240.2))) (
(qa5 E0 .add 3 false true x3 (.int .i64 1)).bind fun t244=>
callP (self.f 49 [x0,(.int .i64 3),t244] S221) fun t245 S245=>
(faP 4 false 1 p8).bind fun t246=>
(stP 1 t246 t245 S245).bind fun p247=>
callP (self.f 23 [x0,(sv [125])] p247.2) fun t249 S249=>
(unV .not t249).bind fun t250=>
ifK t250 (
callP (self.f 25 [(.int .i64 19),x1] S249) fun t252 S252=>
(ldA 6 p8 S252).bind fun p253=>
(stP 6 p0 p253.1 p253.2).bind fun p254=>
(ldrA 6 p0 p254.2).bind fun p255=>
some (.ret p255.1,p255.2)) (
(ldA 6 p8 S249).bind fun p256=>
(stP 6 p0 p256.1 p256.2).bind fun p257=>
(ldrA 6 p0 p257.2).bind fun p258=>
some (.ret p258.1,p258.2)))
def BrRest (self:EV) (x0 x1 x2 x3 p0 p8:V) (S:St):Rs:=
callP (self.f 90 [x0,(sv [63,35,64,42])] S) fun t39 S39=>
(faP 1 false 1 p8).bind fun t40=>
(stP 1 t40 t39 S39).bind fun p41=>
(faP 1 false 1 p8).bind fun t42=>
(ld1 t42 p41.2).bind fun p43=>
(qa5 E0 .eql 9 false true p43.1 (sv [])).bind fun t44=>
ifK t44 (
callP (self.f 25 [(.int .i64 19),x1] p43.2) fun t46 S46=>
callP (self.f 23 [x0,(sv [125])] S46) fun t48 S48=>
ifK t48 (
(ldA 6 p8 S48).bind fun p49=>
(stP 6 p0 p49.1 p49.2).bind fun p50=>
(ldrA 6 p0 p50.2).bind fun p51=>
some (.ret p51.1,p51.2)) (
callP (self.f 99 [] S48) fun t52 S52=>
callP (self.f 67 [t52,(.fn (.func 23) [x0] [])] S52) fun t55 S55=>
(qa5 E0 .lss 3 false true t55 (.int .i64 0)).bind fun t58=>
ifK t58 (
callP (self.f 25 [(.int .i64 19),x1] S55) fun t60 S60=>
callP (self.f 99 [] S60) fun t61 S61=>
(ixP 1 t61 t55).bind fun t63=>
(ld1 t63 S61).bind fun p64=>
BrTail self x0 x1 x2 x3 p0 p8 p64.1 p64.2) (
callP (self.f 99 [] S55) fun t107 S107=>
(ixP 1 t107 t55).bind fun t109=>
(ld1 t109 S107).bind fun p110=>
BrTail self x0 x1 x2 x3 p0 p8 p110.1 p110.2))) (
callP (self.f 23 [x0,(sv [125])] p43.2) fun t154 S154=>
ifK t154 (
(ldA 6 p8 S154).bind fun p155=>
(stP 6 p0 p155.1 p155.2).bind fun p156=>
(ldrA 6 p0 p156.2).bind fun p157=>
some (.ret p157.1,p157.2)) (
callP (self.f 99 [] S154) fun t158 S158=>
callP (self.f 67 [t158,(.fn (.func 23) [x0] [])] S158) fun t161 S161=>
(qa5 E0 .lss 3 false true t161 (.int .i64 0)).bind fun t164=>
ifK t164 (
callP (self.f 25 [(.int .i64 19),x1] S161) fun t166 S166=>
callP (self.f 99 [] S166) fun t167 S167=>
(ixP 1 t167 t161).bind fun t169=>
(ld1 t169 S167).bind fun p170=>
BrTail self x0 x1 x2 x3 p0 p8 p170.1 p170.2) (
callP (self.f 99 [] S161) fun t213 S213=>
(ixP 1 t213 t161).bind fun t215=>
(ld1 t215 S213).bind fun p216=>
BrTail self x0 x1 x2 x3 p0 p8 p216.1 p216.2)))
def BrAll (self:EV) (x0 x1 x2 x3 p0:V) (S:St):Rs:=
callP (self.f 68 [x2] S) fun t481 S481=>
(qaa E0 49 [(0,(.int .i64 2)),(3,t481)]).bind fun t482=>
(some (nwP 49 6 (Tr.ofListFrom .nil [(.int .i64 0),(sv []),(sv []),(.bool false),.nilslice,.nilptr] 0) S481)).bind fun p483=>
(stP 6 p483.1 t482 p483.2).bind fun p484=>
(qa1 x0).bind fun t486=>
(faP 1 false 1 t486).bind fun t487=>
(ld1 t487 p484.2).bind fun p488=>
callP (self.f 23 [x0,(sv [35])] p488.2) fun t491 S491=>
ifK t491 (
callP (self.f 90 [x0,(sv [63,64,42])] S491) fun t493 S493=>
(faP 1 false 1 p483.1).bind fun t494=>
(stP 1 t494 t493 S493).bind fun p495=>
(faP 1 false 1 p483.1).bind fun t496=>
(ld1 t496 p495.2).bind fun p497=>
(qa5 E0 .neq 9 false true p497.1 (sv [])).bind fun t498=>
(qa2 true t498).bind fun g500=>(bif g500 then some x0 else some (.tuple [])).bind fun t500=>
(qa2 true t498).bind fun g501=>callP (bif g501 then self.f 23 [t500,(sv [125])] p497.2 else some (.ret (.tuple []),p497.2)) fun t501 S501=>
(qao t498 (some t501) (some (.bool false))).bind fun t502=>
ifK t502 (
(faP 2 false 1 p483.1).bind fun t503=>
(stP 1 t503 (sv [108,101,110]) S501).bind fun p504=>
(ldA 6 p483.1 p504.2).bind fun p505=>
(stP 6 p0 p505.1 p505.2).bind fun p506=>
(ldrA 6 p0 p506.2).bind fun p507=>
some (.ret p507.1,p507.2)) (
(qa1 x0).bind fun t510=>
(faP 1 false 1 t510).bind fun t511=>
(stP 1 t511 p488.1 S501).bind fun p512=>
BrRest self x0 x1 x2 x3 p0 p483.1 p512.2)) (
BrRest self x0 x1 x2 x3 p0 p483.1 S491)
theorem F89_step (self:EV) (N:Nat) (x0 x1 x2 x3:V) (S:St):F89 self N x0 x1 x2 x3 S =
(some (nwP 49 6 (Tr.ofListFrom .nil [(.int .i64 0),(sv []),(sv []),(.bool false),.nilslice,.nilptr] 0) S)).bind fun p0=>
(qa5 E0 .geq 3 false true x3 (.int .i64 20)).bind fun t2=>
ifK t2 (callP (self.f 25 [(.int .i64 3),x1] p0.2) fun _ S4=>BrAll self x0 x1 x2 x3 p0.1 S4) (BrAll self x0 x1 x2 x3 p0.1 p0.2):=by kernel_rfl
section
variable {K:FuncId->Option KF} {S U T:St} {b i k N:Nat} {s:Bs} {vT vW:V} {X:Tr V} {n:Nat}
theorem PsR.grew {W:Nat->Prop} {v:V} {l:List Part} (h:PsR S N v l) (g:Grew W S U) (hW:∀x,W x->x<N):PsR U N v l:=by
 obtain⟨rows,h1,h2,h3⟩:=h;have nx:=g.next
 exact⟨rows,h1.grew (fun r hr hw=>by have:=hW _ hw; have:=h3 r hr; omega) g,(h2.grew g fun x hx hw=>by have:=hW _ hw; omega).mono fun x hx=>⟨hx.1,by omega⟩,h3⟩
theorem PsR.pt {v:V} {l:List Part} (h:PsR S N v l) (kd:Nat) (t o:Bs) (q:Bool) {M:Nat} (hM:M<=N) (hl:∀r,qai v=some r->r<S.next):PtAt S (fun x=>M<=x/\x<S.next) (.mk kd t o q l) (qdn kd t o q v):=by
 obtain⟨rows,h1,h2,h3⟩:=h;simp only[PtAt];exact⟨v,rows,rfl,h1,h2.mono fun x hx=>⟨by omega,hx.2⟩,fun r hr=>⟨by have:=h3 r hr; omega,hl r hr⟩⟩
theorem PsR.lt {v:V} {l:List Part} (h:PsR S N v l):∀r,qai v=some r->r<S.next:=by
 obtain⟨rows,h1,_⟩:=h;exact fun r hr=>h1.blk_lt hr
theorem PsR.one {v:V} {l:List Part} (h:PsR S N v l):v.size=1/\v.cells=Ev.one v/\qac v=false:=by
 obtain⟨rows,h1,_⟩:=h;exact qk3 h1
theorem BrR.after {o:Except Flt (Part×Nat)} {r:Rs} (g:Grew (fun x=>x=b\/N<=x) S T) (h:BrR o T N b s vT vW r):BrR o S N b s vT vW r:=by
 cases o with
 | ok q=>
  obtain⟨U,X,h1,h2,h3,h4⟩:=h;exact⟨U,X,h1,h2,g.trans h3,h4⟩
 | error e=>exact Bad.after g h
structure BX (S:St) (N b:Nat) (s:Bs) (i:Nat) (vT vW:V) (X:Tr V):Prop where
 on:S.on=false
 lx:Lx S b s i vT vW
 bN:b<N
 hi:N+2<=S.next
 p0:∃Y,AgAt S N 49 6 Y
 p8:AgAt S (N+1) 49 6 X
theorem BX.move {W:Nat->Prop} (h:BX S N b s i vT vW X) (g:Grew W S U) (hW:∀x,W x->x<N\/S.next<=x) (l:Lx U b s k vT vW):BX U N b s k vT vW X:=by
 have hhi:=h.hi;have nx:=g.next
 obtain⟨Y,hY⟩:=h.p0;exact⟨g.on.trans h.on,l,h.bN,by omega,⟨Y,hY.grew (by omega) (fun hw=>by have:=hW _ hw; omega) g⟩,h.p8.grew (by omega) (fun hw=>by have:=hW _ hw; omega) g⟩
theorem BX.put (h:BX S N b s i vT vW X) (j:Nat) (hj:j<6) (v:V) (hs:v.size=1/\v.cells=Ev.one v/\qac v=false):∃U,stP 1 (.ptr (N+1) j) v S=some (.tuple [],U)/\BX U N b s i vT vW (X.set v j)/\Grew (fun x=>x=N+1) S U/\U.next=S.next:=by
 obtain⟨U,k1,k2,k3,k4⟩:=h.p8.st1 h.on qj4 (by decide) hj v hs.1 hs.2.1 hs.2.2;have hhi:=h.hi;have hb:=h.bN;obtain⟨Y,hY⟩:=h.p0;exact⟨U,k1,⟨k3.on.trans h.on,h.lx.grew (by omega) (by omega) k3,h.bN,by omega,⟨Y,hY.grew (by omega) (by omega) k3⟩,k2⟩,k3,k4⟩
theorem BX.fin (h:BX S N b s i vT vW X):∃U,((ldA 6 (.ptr (N+1) 0) S).bind fun p=>(stP 6 (.ptr N 0) p.1 p.2).bind fun q=>(ldrA 6 (.ptr N 0) q.2).bind fun r=>some (En.ret r.1,r.2))=some (.ret (.agg 6 X),U)/\Lx U b s i vT vW/\Grew (fun x=>x=N) S U/\U.next=S.next:=by
 obtain⟨Y,hY⟩:=h.p0;have hhi:=h.hi;have hb:=h.bN;obtain⟨U,k1,k2,k3,k4⟩:=hY.stA h.on qj4 X;refine⟨U,?_,h.lx.grew (by omega) (by omega) k3,k3,k4⟩;rw[h.p8.ldA h.on qj4,oB];dsimp only;rw[k1,oB];dsimp only;rw[k2.ldrA (k3.on.trans h.on) qj4,oB]
theorem qhg (q:Bool):unV .not (.bool q)=some (.bool (!q)):=rfl
theorem brtail_run (hK:RefL K) (hP:qgb K n) {w deep:Nat} {t o:Bs} (d:Nat) (h:BX S N b s k vT vW (qdn 2 t [] (inD w) .nilslice)) (hs:s.length<=5000) (hk:k<=s.length) (hdp:deep<20) (hd:4*n+2*s.length+61<=d) (hn:2*(s.length-k)+1<=n) (hn2:n<100000) (i:Nat) :
 BrR (brT n s w deep i k t o) S N b s vT vW (BrTail (ev E0 K d) (.ptr b 0) (.int .i64 (i:Int)) (.int .i64 (w:Int)) (.int .i64 (deep:Int)) (.ptr N 0) (.ptr (N+1) 0) (sv o) S):=by
 obtain⟨d',rfl⟩:∃d',d=d'+10:=⟨d-10,by omega⟩
 obtain⟨T1,a1,a2,a3,a4⟩:=h.put 2 (by decide) (sv o) ⟨rfl,rfl,rfl⟩;rw[set_op]at a2;have g1:Grew (fun x=>x=b\/N<=x) S T1:=a3.mono fun x _ hx=>.inr (by omega);have hhi:=a2.hi;have hbN:=a2.bN
 have key:∀w':Nat,BrR (match qal n s w' (deep+1) k [] []with
  | .error e=>.error e
  | .ok (l,j)=>if atD s j [125]then .ok (.mk 2 t o (inD w) l,j+1)else .error (19,i)) T1 N b s vT vW (
(qa5 E0 .add 3 false true (.int .i64 (deep:Int)) (.int .i64 1)).bind fun t226=>
callP ((ev E0 K (d'+10)).f 49 [.ptr b 0,(.int .i64 (w':Int)),t226] T1) fun t227 S227=>
(faP 4 false 1 (.ptr (N+1) 0)).bind fun t228=>
(stP 1 t228 t227 S227).bind fun p229=>
callP ((ev E0 K (d'+10)).f 23 [.ptr b 0,(sv [125])] p229.2) fun t231 S231=>
(unV .not t231).bind fun t232=>
ifK t232 (
callP ((ev E0 K (d'+10)).f 25 [(.int .i64 19),.int .i64 (i:Int)] S231) fun t234 S234=>
(ldA 6 (.ptr (N+1) 0) S234).bind fun p235=>
(stP 6 (.ptr N 0) p235.1 p235.2).bind fun p236=>
(ldrA 6 (.ptr N 0) p236.2).bind fun p237=>
some (.ret p237.1,p237.2)) (
(ldA 6 (.ptr (N+1) 0) S231).bind fun p238=>
(stP 6 (.ptr N 0) p238.1 p238.2).bind fun p239=>
(ldrA 6 (.ptr N 0) p239.2).bind fun p240=>
some (.ret p240.1,p240.2))):=fun w'=>by
  have hp:=hP (d'+10) T1 b k s vT vW w' (deep+1) a2.on (by omega) a2.lx hs hk (by omega) hd hn hn2;rw[qei (by omega),oB];cases hq:qal n s w' (deep+1) k [] []with
  | error e=>
   rw[hq]at hp;dsimp only;exact(hp.mono fun x hx=>.inl hx).callP _
  | ok q=>
   obtain⟨l,j⟩:=q;rw[hq]at hp;obtain⟨U,v,b1,b2,b3,b4⟩:=hp;dsimp only at b2 b4;obtain⟨_,hj,_⟩:=(qee n).1 _ _ _ _ _ _ _ _ hq hk;have nxU:=b3.next
   have p2:=a2.move (k:=j) b3 (fun x hx=>.inl (by omega)) b2;rw[b1,callP_ret,fap4,oB];obtain⟨T2,c1,c2,c3,c4⟩:=p2.put 4 (by decide) v b4.one;rw[set_word]at c2;rw[c1,oB];dsimp only;have b5:=b4.grew c3 (fun x hx=>by omega);have g2:Grew (fun x=>x=b\/N<=x) T1 T2:=(b3.mono fun x _ hx=>.inl hx).trans (c3.mono fun x _ hx=>.inr (by omega));cases ha:atD s j [125]with
   | false=>
    rw[qbc hK (d'+6) c2.on c2.lx hj (t:=[125]) ha,callP_ret,qhg,oB,ifK_bool,nF,cT,iN (by simp)];exact Bad.after g2 (bad0 ((qc7 hK (d'+9) c2.on 19 i).callP _))
   | true=>
    obtain⟨U3,e1,e2,e3,e4⟩:=qb2 hK (d'+6) c2.on c2.lx hj (t:=[125]) (by have:=qax ha (by simp); omega) ha;rw[e1,callP_ret,qhg,oB,ifK_bool,Bool.not_true,cF,iP rfl];have p3:=c2.move (k:=j+1) e3 (fun x hx=>.inl (by omega)) e2;obtain⟨U4,f1,f2,f3,f4⟩:=p3.fin;have b6:=(b5.grew e3 (fun x hx=>by omega)).grew f3 (fun x hx=>by omega);rw[f1];exact⟨U4,_,rfl,f2,(g2.trans (e3.mono fun x _ hx=>.inl hx)).trans (f3.mono fun x _ hx=>.inr (by omega)),b6.pt 2 t o (inD w) (by omega) b6.lt⟩
 unfold BrTail;rw[fap2,oB,a1,oB];dsimp only;rw[qfe hK,callP_ret,ifK_bool];refine BrR.after g1 ?_;unfold brT;cases hin:inD w with
 | true=>
  have:=key 4;rw[hin]at this;rw[cT,iP rfl];exact this
 | false=>
  have:=key 3;rw[hin]at this;rw[cF,iN (by simp)];exact this
theorem brrest_run (hK:RefL K) (hP:qgb K n) {w deep:Nat} {o:Bs} (d:Nat) {i:Nat} {t0:Bs} (h:BX S N b s (i+2) vT vW (qdn 2 t0 [] (inD w) .nilslice)) (hs:s.length<=5000) (hi:i+2<=s.length) (hdp:deep<20) (hd:4*n+2*s.length+61<=d) (hn:2*(s.length-i)<=n+1) (hn2:n<100000) :
 BrR (brS n s w deep i) S N b s vT vW (BrRest (ev E0 K d) (.ptr b 0) (.int .i64 (i:Int)) (.int .i64 (w:Int)) (.int .i64 (deep:Int)) (.ptr N 0) (.ptr (N+1) 0) S):=by
 obtain⟨d',rfl⟩:∃d',d=d'+10:=⟨d-10,by omega⟩
 obtain⟨T1,a1,a2,a3,a4,a5⟩:=qmg hK (d'+7) h.on h.lx hi (by omega) [63,35,64,42];have hbN:=h.bN;have hhi:=h.hi;have p1:=h.move (k:=i+2+qbr (s.drop (i+2)) [63,35,64,42]) a3 (fun x hx=>.inl (by omega)) a2;have g1:Grew (fun x=>x=b\/N<=x) S T1:=a3.mono fun x _ hx=>.inl hx
 have hkle:i+2+qbr (s.drop (i+2)) [63,35,64,42]<=s.length:=by
  have:=qmf (s.drop (i+2)) [63,35,64,42];rw[List.length_drop]at this;omega
 unfold BrRest brS;dsimp only;generalize hm:qbr (s.drop (i+2)) [63,35,64,42]=m at *
 have hmt:((s.drop (i+2)).take m==[])=decide (m=0):=by
  rw[Bool.eq_iff_iff,beq_iff_eq,decide_eq_true_iff,<- List.length_eq_zero_iff,List.length_take,List.length_drop];omega
 generalize ht:(s.drop (i+2)).take m=t at *;obtain⟨T2,b1,b2,b3,b4⟩:=p1.put 1 (by decide) (sv t) ⟨rfl,rfl,rfl⟩;rw[set_text]at b2;have g2:=g1.trans (b3.mono fun x _ hx=>(.inr (by omega):x=b\/N<=x));rw[a1,callP_ret,fap1,oB,b1,oB];dsimp only;rw[oB,b2.p8.ld1 b2.on qj4 (by decide) (get_text ..),oB];dsimp only;rw[eqStr,hmt,oB,ifK_bool];by_cases h0:m=0
 . rw[dT h0,cT,iP h0]
   exact Bad.after g2 (bad0 ((qc7 hK (d'+9) b2.on 19 i).callP _))
 . rw[dF h0,cF,iN h0]
   have hh2:=b2.hi;cases ha:atD s (i+2+m) [125]with
   | true=>
    obtain⟨U3,e1,e2,e3,e4⟩:=qb2 hK (d'+6) b2.on b2.lx hkle (t:=[125]) (by have:=qax ha (by simp); omega) ha;rw[e1,callP_ret,ifK_bool,cT,iP rfl];have p3:=b2.move (k:=i+2+m+1) e3 (fun x hx=>.inl (by omega)) e2;obtain⟨U4,f1,f2,f3,f4⟩:=p3.fin;rw[f1];exact⟨U4,_,rfl,f2,(g2.trans (e3.mono fun x _ hx=>.inl hx)).trans (f3.mono fun x _ hx=>.inr (by omega)),qdm ..⟩
   | false=>
    rw[qbc hK (d'+6) b2.on b2.lx hkle (t:=[125]) ha,callP_ret,ifK_bool,cF,iN (by simp)];obtain⟨T3,c1,c2,c3,c4⟩:=ops_run hK (d'+9) b2.on;have p3:=b2.move (k:=i+2+m) c3 (fun x hx=>hx.elim) (b2.lx.grew (by omega) (fun h=>h) c3);have g3:Grew (fun x=>x=b\/N<=x) S T3:=g2.trans (c3.mono fun x _ hx=>hx.elim);rw[c1,callP_ret];have hf:=f67_run hK (d'+5) p3.on p3.lx (by omega) hkle c2 (by decide);have hh3:=p3.hi;cases hfd:opsT.find? (fun o=>atD s (i+2+m) o)with
    | none=>
     rw[hfd]at hf;have hf:_=_:=hf;rw[hf,callP_ret,lt0,oB,ifK_bool,show decide ((-1:Int)<0)=true from rfl,cT];exact Bad.after g3 (bad0 ((qc7 hK (d'+9) p3.on 19 i).callP _))
    | some o=>
     rw[hfd]at hf;obtain⟨j,U3,e0,e1,e2,e3,e4,e5⟩:=hf;have hfa:=find_at hfd;rw[e1,callP_ret,lt0,oB,ifK_bool,show decide (((j:Nat):Int)<0)=false by simp,cF];have p4:=p3.move (k:=i+2+m+o.length) e3 (fun x hx=>.inl (by omega)) e2;obtain⟨T4,x1,x2,x3,x4⟩:=ops_run hK (d'+9) p4.on;have hh4:=p4.hi;have p5:=p4.move (k:=i+2+m+o.length) x3 (fun x hx=>hx.elim) (p4.lx.grew (by omega) (fun h=>h) x3);obtain⟨p,y1,y2⟩:=x2.ld p5.on (i:=j) (a:=o) e0;rw[x1,callP_ret,y1,oB,y2,oB];dsimp only;exact BrR.after ((g3.trans (e3.mono fun x _ hx=>.inl hx)).trans (x3.mono fun x _ hx=>hx.elim)) (brtail_run hK hP (d'+10) p5 hs hfa.2.1 hdp hd (by omega) hn2 i)
theorem geq20 (a:Nat):qa5 E0 .geq 3 false true (.int .i64 (a:Int)) (.int .i64 20)=some (.bool (decide (20<=a))):=by
 rw[binV_ii,intsV_geq]
 congr 2
 simp;omega
theorem braces_run (hK:RefL K) (hP:qgb K n) (d:Nat) {w deep i:Nat} (ho:S.on=false) (hb:b<S.next) (h:Lx S b s (i+2) vT vW) (hs:s.length<=5000) (hi:i+2<=s.length) (hdp:deep<=20) (hd:4*n+2*s.length+61<=d) (hn:2*(s.length-i)<=n+1) (hn2:n<100000) :
 BrR (brD n s w deep i) S S.next b s vT vW ((ev E0 K (d+1)).f 89 [.ptr b 0,.int .i64 (i:Int),.int .i64 (w:Int),.int .i64 (deep:Int)] S):=by
 obtain⟨d',rfl⟩:∃d',d=d'+10:=⟨d-10,by omega⟩
 have hF:∀r,F89 (ev E0 K (d'+10)) qa3 (.ptr b 0) (.int .i64 (i:Int)) (.int .i64 (w:Int)) (.int .i64 (deep:Int)) S=some r->(ev E0 K (d'+10+1)).f 89 [.ptr b 0,.int .i64 (i:Int),.int .i64 (w:Int),.int .i64 (deep:Int)] S=some r:=fun r e=>rv89 hK e
 suffices hb2:BrR (brD n s w deep i) S S.next b s vT vW (F89 (ev E0 K (d'+10)) qa3 (.ptr b 0) (.int .i64 (i:Int)) (.int .i64 (w:Int)) (.int .i64 (deep:Int)) S) by
  cases hq:brD n s w deep i with
  | ok q=>
   rw[hq]at hb2;obtain⟨U,X,h1,h2⟩:=hb2;exact⟨U,X,hF _ h1,h2⟩
  | error e=>
   rw[hq]at hb2;obtain⟨U,x,h1,h2⟩:=hb2;exact⟨U,x,hF _ h1,h2⟩
 obtain⟨n1,n2,n3⟩:=qbx ho 49 6 zP;have on1:=n2.on.trans ho;have l1:=h.grew hb (fun h=>h) n2;rw[F89_step,oB,qbv,geq20,oB,ifK_bool,show(Tr.ofListFrom .nil [(.int .i64 0),(sv []),(sv []),(.bool false),.nilslice,.nilptr] 0:Tr V)=zP from rfl];have g1:Grew (fun x=>x=b\/S.next<=x) S (nwP 49 6 zP S).2:=n2.mono fun x _ hx=>hx.elim;unfold brD;by_cases h20:20<=deep
 . rw[dT h20,cT,iP h20]
   exact Bad.after g1 (bad0 ((qc7 hK (d'+9) on1 3 i).callP _))
 . rw[dF h20,cF,iN h20]
   unfold BrAll;rw[show(Tr.ofListFrom .nil [(.int .i64 0),(sv []),(sv []),(.bool false),.nilslice,.nilptr] 0:Tr V)=zP from rfl,qfe hK,callP_ret,build_prm,oB,oB,qbv];obtain⟨m1,m2,m3⟩:=qbx on1 49 6 zP;have on2:=m2.on.trans on1;obtain⟨T3,s1,s2,s3,s4⟩:=m1.stA on2 qj4 (qdn 2 [] [] (inD w) .nilslice);rw[n3]at s1 s2 s3;rw[n3]at m3;have nm:=m2.next
   have ns:=s3.next
   have on3:=s3.on.trans on2;have gs:Grew (fun x=>x=S.next+1) (nwP 49 6 zP S).2 T3:=(m2.mono fun x _ hx=>hx.elim).trans s3;have l3:Lx T3 b s (i+2) vT vW:=l1.grew (by omega) (by omega) gs;have X3:BX T3 S.next b s (i+2) vT vW (qdn 2 [] [] (inD w) .nilslice):=⟨on3,l3,hb,by omega,⟨zP,n1.grew (by omega) (by omega) gs⟩,s2⟩
   have g3:Grew (fun x=>x=b\/S.next<=x) S T3:=g1.trans (gs.mono fun x _ hx=>.inr (by omega));rw[n3,s1,oB];dsimp only;rw[l3.r1 on3];dsimp only;refine BrR.after g3 ?_;have rest:∀(T:St) (t0:Bs),BX T S.next b s (i+2) vT vW (qdn 2 t0 [] (inD w) .nilslice)->BrR (brS n s w deep i) T S.next b s vT vW (BrRest (ev E0 K (d'+10)) (.ptr b 0) (.int .i64 (i:Int)) (.int .i64 (w:Int)) (.int .i64 (deep:Int)) (.ptr S.next 0) (.ptr (S.next+1) 0) T):=fun T t0 hT=>brrest_run (o:=[]) hK hP (d'+10) hT hs hi (by omega) hd hn hn2
   cases ha:atD s (i+2) [35]with
   | false=>
    rw[qbc hK (d'+6) on3 l3 hi (t:=[35]) ha,callP_ret,ifK_bool,cF,iN (by simp)];exact rest T3 [] X3
   | true=>
    have h35:=qax ha (by simp);simp only[List.length_singleton]at h35;obtain⟨U3,e1,e2,e3,e4⟩:=qb2 hK (d'+6) on3 l3 hi (t:=[35]) (by simp; omega) ha;have on4:=e3.on.trans on3;have X4:=X3.move (k:=i+3) e3 (fun x hx=>.inl (by omega)) e2;obtain⟨U4,f1,f2,f3,f4,f5⟩:=qmg hK (d'+7) on4 e2 (by simpa using h35) (by omega) [63,64,42];rw[e1,callP_ret,ifK_bool,cT,f1,callP_ret];simp only[List.length_singleton,Nat.reduceAdd]at f2
    have hple:i+3+qbr (s.drop (i+3)) [63,64,42]<=s.length:=by
     have:=qmf (s.drop (i+3)) [63,64,42];rw[List.length_drop]at this;omega
    have hbe:i+2+[35].length=i+3:=rfl;rw[Bool.true_and,show List.drop (i+2+[(35:UInt8)].length) s=s.drop (i+3)from rfl];have f2:Lx U4 b s (i+3+qbr (s.drop (i+3)) [63,64,42]) vT vW:=f2;have f3:Grew (fun x=>x=b) U3 U4:=f3;generalize hm:qbr (s.drop (i+3)) [63,64,42]=m at *
    have hmt:((s.drop (i+3)).take m==[])=decide (m=0):=by
     rw[Bool.eq_iff_iff,beq_iff_eq,decide_eq_true_iff,<- List.length_eq_zero_iff,List.length_take,List.length_drop];omega
    generalize ht:(s.drop (i+3)).take m=t at *;have hh4:=X4.hi;have X5:=X4.move (k:=i+3+m) f3 (fun x hx=>.inl (by omega)) f2;obtain⟨T6,b1,b2,b3,b4⟩:=X5.put 1 (by decide) (sv t) ⟨rfl,rfl,rfl⟩;rw[set_text]at b2;have g6:Grew (fun x=>x=b\/S.next<=x) T3 T6:=((e3.mono fun x _ hx=>.inl hx).trans (f3.mono fun x _ hx=>.inl hx)).trans (b3.mono fun x _ hx=>.inr (by omega));rw[fap1,oB,b1,oB];dsimp only;rw[oB,b2.p8.ld1 b2.on qj4 (by decide) (get_text ..),oB];dsimp only;rw[neStr,hmt,oB]
    have back:∀T,Grew (fun x=>x=b\/S.next<=x) T3 T->BX T S.next b s (i+3+m) vT vW (qdn 2 t [] (inD w) .nilslice)->BrR (brS n s w deep i) T3 S.next b s vT vW ((qa1 (.ptr b 0)).bind fun t35=>(faP 1 false 1 t35).bind fun t36=>(stP 1 t36 (.int .i64 ((i+2:Nat):Int)) T).bind fun p37=>BrRest (ev E0 K (d'+10)) (.ptr b 0) (.int .i64 (i:Int)) (.int .i64 (w:Int)) (.int .i64 (deep:Int)) (.ptr S.next 0) (.ptr (S.next+1) 0) p37.2):=fun T gT hT=>by
     obtain⟨T7,z1,z2,z3,z4,z5⟩:=hT.lx.set hT.on (i+2);rw[z1];exact BrR.after (gT.trans (z3.mono fun x _ hx=>.inl hx)) (rest T7 t (hT.move (k:=i+2) z3 (fun x hx=>.inl (by omega)) z2))
    by_cases h0:m=0
    . rw[iN (by simp[h0]),dT h0]
      simp only[Bool.not_true,qad,oB,cF,callP_ret,pickV_bool,ifK_bool];exact back T6 g6 b2
    . rw[dF h0]
      simp only[nF,qad,oB,cT];cases hc:atD s (i+3+m) [125]with
      | false=>
       rw[qbc hK (d'+6) b2.on b2.lx hple (t:=[125]) hc,callP_ret,iN (by simp)];simp only[pickV_bool,cT,oB,ifK_bool,cF];exact back T6 g6 b2
      | true=>
       obtain⟨U7,z1,z2,z3,z4⟩:=qb2 hK (d'+6) b2.on b2.lx hple (t:=[125]) (by have:=qax hc (by simp); omega) hc;have hh6:=b2.hi;have X7:=b2.move (k:=i+3+m+1) z3 (fun x hx=>.inl (by omega)) z2;obtain⟨T8,y1,y2,y3,y4⟩:=X7.put 2 (by decide) (sv [108,101,110]) ⟨rfl,rfl,rfl⟩;rw[set_op]at y2;obtain⟨U9,x1,x2,x3,x4⟩:=y2.fin;rw[z1,callP_ret,iP (by simp[h0])];simp only[pickV_bool,cT,oB,ifK_bool];rw[fap2,oB,y1,oB];dsimp only;rw[x1];exact⟨U9,_,rfl,x2,((g6.trans (z3.mono fun x _ hx=>.inl hx)).trans (y3.mono fun x _ hx=>.inr (by omega))).trans (x3.mono fun x _ hx=>.inr (by omega)),qdm ..⟩
end
end Go.Proofs.YtafbipadnnmccaaDoor.W
end
