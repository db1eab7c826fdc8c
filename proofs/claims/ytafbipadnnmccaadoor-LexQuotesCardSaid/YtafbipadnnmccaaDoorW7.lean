/-
  WHAT THE FUNCTIONS COME TO: each is read by the evaluator,printed,and told as a function of data,part 7 of 13 (no condition).
-/
import Derived.Test.YtafbipadnnmccaaDoorW6
noncomputable section
namespace Go.Proofs.YtafbipadnnmccaaDoor.W
open Go.Proofs.YtafbipadnnmccaaDoor.Ev Go.RowKit
abbrev LoopR (o:Except Flt (List Part×Nat)) (S:St) (N b:Nat) (s:Bs) (vT vW:V) (r:Rs):Prop:=match o with
 | .ok q=>∃U v,r=some (.ret v,U)/\Lx U b s q.2 vT vW/\Grew (fun x=>x=b\/N<=x) S U/\PsR U N v q.1
 | .error e=>Bad (fun x=>x=b\/N<=x) S r e.1 e.2
def LoopOk (K:FuncId->Option KF) (n:Nat):Prop:=∀(d q:Nat) (S:St) (N b i:Nat) (s:Bs) (vT vW:V) (w deep:Nat) (out:List Part) (text:Bs) (vo vt:V),PS S N b s i vT vW w out text vo vt->s.length<=5000->i<=s.length->out.length+text.length<=i->deep<=20->4*n+2*s.length+60<=d->2*(s.length-i)+1<=n->n<100000->n<q->
 LoopR (qar n s w deep i out text) S N b s vT vW (qb6 (ev E0 K d) qa3 (qle (ev E0 K d) qa3 (qbu E0 (ev E0 K d) Tryd.f49) qav) (exB 0 (qle (ev E0 K d) qa3 (qbu E0 (ev E0 K d) Tryd.f49) qav) qav) q (.ptr b 0) (.int .i64 (w:Int)) (.int .i64 (deep:Int)) (.ptr N 0) (.ptr (N+1) 0) (.ptr (N+2) 0) (.ptr (N+3) 0) (.fn (.func 70) [] [.ptr (N+3) 0,.ptr N 0]) S)
theorem build_q (t:Bs):qab E0 49 [(0,(.int .i64 1)),(1,sv t)]=some (.agg 6 (qdo 1 t [] false .nilslice)):=by kernel_rfl
theorem build_e:qab E0 49 [(0,(.int .i64 1)),(3,(.bool true))]=some (.agg 6 (qdo 1 [] [] true .nilslice)):=by kernel_rfl
theorem zP_eq:(Tr.ofListFrom .nil [(.int .i64 0),(sv []),(sv []),(.bool false),.nilslice,.nilptr] 0:Tr V)=zP:=rfl
section
variable {K:FuncId->Option KF} {S U T:St} {b i k N:Nat} {s:Bs} {vT vW vo vt:V} {X:Tr V} {n w deep:Nat} {out:List Part} {text:Bs}
theorem Grew.old {W:Nat->Prop} (g:Grew (fun x=>W x\/S.next<=x) S U):Grew W S U:=⟨g.next,g.on,fun x hx hw=>g.keep x hx fun h=>h.elim hw (by omega)⟩
theorem LoopR.after {o:Except Flt (List Part×Nat)} {r:Rs} (g:Grew (fun x=>x=b\/N<=x) S T) (h:LoopR o T N b s vT vW r):LoopR o S N b s vT vW r:=by
 cases o with
 | ok q=>
  obtain⟨U,X,h1,h2,h3,h4⟩:=h;exact⟨U,X,h1,h2,g.trans h3,h4⟩
 | error e=>exact Bad.after g h
theorem PS.vo_lt (h:PS S N b s i vT vW w out text vo vt):∀r,qah vo=some r->r<S.next:=by
 obtain⟨rows,r1,_⟩:=h.ot;exact fun r hr=>r1.blk_lt hr
theorem add_one (hK:RefL K) (d:Nat) (h:PS S N b s i vT vW w out text vo vt) {p:Part} (hp:PtAt S (fun x=>N+4<=x/\x<S.next/\qah vo≠some x) p X) (hl:out.length+text.length<50000) :
 ∃U vo',(∀k:V->St->Rs,((bsP 49 6 1 zP [(0,.agg 6 X)] S).bind fun p=>callP (qbo E0 (ev E0 K (d+2)) (.fn (.func 70) [] [.ptr (N+3) 0,.ptr N 0]) [p.1] p.2) k)=k (.tuple []) U)/\PS U N b s i vT vW w (qkw w out text++[p]) [] vo' .nilslice/\Grew (fun x=>N<=x) S U:=by
 have hhi:=h.hi;have hbN:=h.bN;obtain⟨y,T,a1,a2,a3,a4,a5⟩:=qj5 h.on 49 6 zP X (by omega) (by omega);have p1:=h.fresh (by omega) a4
 obtain⟨U,vo',b1,b2,b3⟩:=add_run hK d p1 a2 (fun r hr=>by
  rw[a3]at hr;cases hr
  exact⟨by omega,fun hv=>by have:=h.vo_lt _ hv; omega⟩) (prAt_one ((hp.grew a4 fun x hx hw=>hw).mono fun x hx=>⟨hx.1,by omega,hx.2.2⟩)) hl (by simp)
 refine⟨U,vo',fun k=>?_,b2,(a4.mono fun _ _ h=>h.elim).trans b3⟩;rw[a1,oB];dsimp only;rw[b1,callP_ret]
theorem loop_end (hK:RefL K) (d:Nat) (h:PS S N b s i vT vW w out text vo vt) (hl:out.length+text.length<50000) (nk:Ac->St->Rs) (ek:Nat->Ac->St->Rs) :
 LoopR (.ok (qkw w out text,i)) S N b s vT vW (qle (ev E0 K (d+1)) qa3 nk ek (fr 209 [(7,.ptr N 0),(10,.ptr (N+3) 0)]) S):=by
 obtain⟨U,v1,a1,a2,a3,a4⟩:=flush_run hK d h hl;have hhi:=h.hi;obtain⟨rows,r1,r2⟩:=a2.ot;refine⟨U,v1,?_,a2.lx,a3.mono fun x _ hx=>?_,⟨rows,r1,r2.mono fun x hx=>⟨by omega,hx.2.1⟩,fun r hr=>by have:=(a2.ob r hr).1; omega⟩⟩
 . rw[R49_12_eq,ag1 h.on h.pfl,oB]
   dsimp only;rw[call69,a1,callP_ret,ag1 a2.on a2.po,oB]
 . rcases hx with hx|hx|hx
   . exact .inr (by omega)
   . exact .inr (by omega)
   . have:=(h.ob x hx).1; exact .inr (by omega)
theorem relog_on (ho:S.on=false) (l:List LE) (ls:List (List LE)):qbh S (onS (S.lg l)) ls=S:=qd2 ho [] ls
theorem relog_on2 (ho:S.on=false) (l:List LE) (ls:List (List LE)):qbh S (onS (onS (S.lg l))) ls=S:=qd2 ho [] ls
theorem relog_on3 (ho:S.on=false) (l:List LE) (ls:List (List LE)):qbh S (onS (onS (onS (S.lg l)))) ls=S:=qd2 ho [] ls
theorem relog_on4 (ho:S.on=false) (l:List LE) (ls:List (List LE)):qbh S (onS (onS (onS (onS (S.lg l))))) ls=S:=qd2 ho [] ls
theorem loop_zero:LoopOk K 0:=by
 intro d q S N b i s vT vW w deep out text vo vt h hs hi hlen hdp hd hn;omega
theorem ixB_lt (l:Bs) (c:UInt8):qa5 E0 .lss 3 false true (.int .i64 (ixB l c)) (.int .i64 0)=some (.bool (!l.contains c)):=by
 rw[lt0,<- ixB_has]
 congr 2
 rw[Bool.eq_iff_iff];simp
theorem u8neU (c k:UInt8):qa5 E0 .neq 5 false true (.int .u8 (c.toNat:Int)) (.int .u8 (k.toNat:Int))=some (.bool (!decide (c=k))):=by
 rw[binV_ii,intsV_neq]
 congr 2
 rw[Bool.eq_iff_iff];simp[<- UInt8.toNat_inj];omega
theorem loop_step (hK:RefL K) (hPn:qgb K n) (hPm:∀m,m+1=n->qgb K m) (hL:LoopOk K n):LoopOk K (n+1):=by
 intro d q S N b i s vT vW w deep out text vo vt h hs hi hlen hdp hd hn hn2 hq;obtain⟨d',rfl⟩:∃d',d=d'+20:=⟨d-20,by omega⟩
 obtain⟨q',rfl⟩:∃q',q=q'+1:=⟨q-1,by omega⟩
 have hhi:=h.hi;have hbN:=h.bN;have ho:=h.on;have hl:=h.lx;have hfl:=flu_len w out text;generalize hNK:(qle (ev E0 K (d'+20)) qa3 (qbu E0 (ev E0 K (d'+20)) Tryd.f49) qav)=NK
 have go:∀(T:St) (i':Nat) (out':List Part) (text':Bs) (vo' vt':V),PS T N b s i' vT vW w out' text' vo' vt'->Grew (fun x=>x=b\/N<=x) S T->i<i'->i'<=s.length->out'.length+text'.length<=i'->
  LoopR (qar n s w deep i' out' text') S N b s vT vW (qb6 (ev E0 K (d'+20)) qa3 NK (exB 0 NK qav) q' (.ptr b 0) (.int .i64 (w:Int)) (.int .i64 (deep:Int)) (.ptr N 0) (.ptr (N+1) 0) (.ptr (N+2) 0) (.ptr (N+3) 0) (.fn (.func 70) [] [.ptr (N+3) 0,.ptr N 0]) T):=fun T i' out' text' vo' vt' a1 a2 a3 a4 a5=>by
  have:=hL (d'+20) q' T N b i' s vT vW w deep out' text' vo' vt' a1 hs a4 a5 hdp (by omega) (by omega) (by omega) (by omega);rw[hNK]at this;exact LoopR.after a2 this
 have fin:LoopR (.ok (qkw w out text,i)) S N b s vT vW (exB 0 NK qav 0 (fr 209 [(7,.ptr N 0),(10,.ptr (N+3) 0)]) S):=by
  rw[exB_same,<- hNK];exact loop_end hK (d'+19) h (by omega) _ _
 unfold qar;rw[L49_17_eq,more_lg hK (d'+19) ho hl,qc8,zP_eq];by_cases hlt:i<s.length
 . rw[dT hlt]
   simp only[qae,oB,cT];rw[hl.l0 ho];dsimp only;rw[hl.l1 ho];dsimp only;rw[qf5 _ _ _ hlt,qfj hlt,oB,ends_run hK (d'+17),qc8,qhi,oB,pickV_bool,cT,oB,qbq (by rfl),relog_on2 ho,ifK_bool];cases he:endsD w (byt s i)with
   | true=>
    rw[iN (by simp),Bool.not_true,cF];exact fin
   | false=>
    rw[iP ⟨hlt,rfl⟩,nF,cT,hl.o1 ho];dsimp only;rw[hl.l0 ho];dsimp only;rw[hl.l1 ho];dsimp only;rw[qf5 _ _ _ hlt,qfj hlt,oB,qbq (by rfl),relog_on ho];have hfail:∀(k:V->St->Rs),Bad (fun x=>x=b\/N<=x) S (callP ((ev E0 K (d'+20)).f 25 [.int .i64 19,.int .i64 (i:Int)] S) k) 19 i:=fun k=>bad0 ((qc4 hK (d'+19) ho 19 i).callP _);cases ha:atD s i [92,10]with
    | true=>
     have hle:=qbg ha (by simp);simp only[List.length_cons,List.length_nil]at hle;obtain⟨U,k1,k2,k3,k4⟩:=qb3 hK (d'+16) ho hl hi (t:=[92,10]) (by simp; omega) ha;rw[iP rfl,k1,callP_ret,ifK_bool,cT];exact go U (i+2) out text vo vt (h.move k3 (fun x hx=>by omega) k2) (k3.mono fun x _ hx=>.inl hx) (by omega) (by omega) (by omega)
    | false=>
     rw[iN (by simp),qbc hK (d'+16) ho hl hi (t:=[92,10]) ha,callP_ret,ifK_bool,cF];generalize hc:byt s i=c at *;rw[show V.int .u8 92=.int .u8 ((92:UInt8).toNat:Int)from rfl,qjx,oB];by_cases h92:c=92
     . rw[iP h92,dT h92]
       simp only[qae,oB,cT];rw[ag1 ho h.pin,oB];dsimp only;rw[pickV_bool,cT,oB,ifK_bool];by_cases hend:s.length<=i+1
       . rw[iP hend]
         obtain⟨U,e1,e2,e3,e4⟩:=esc_no hK (d'+18) ho hl (by omega) hi hend;have hb:∀k:V->St->Rs,Bad (fun x=>x=b\/N<=x) S (callP ((ev E0 K (d'+20)).f 72 [.ptr b 0] S) k) 19 i:=fun k=>bad0 (Bad.callP ⟨U,S.next,e1,e2,lR _,by omega,e3⟩ k);cases hin:inD w with
         | true=>rw[cT]; exact hb _
         | false=>rw[cF,ifK_bool,cT]; exact hb _
       . rw[iN hend]
         obtain⟨U,e1,e2,e3,e4⟩:=esc_yes hK (d'+18) ho hl (by omega) (by omega);have pU:=h.move e3 (fun x hx=>by omega) e2;have gU:Grew (fun x=>x=b\/N<=x) S U:=e3.mono fun x _ hx=>.inl hx;generalize byt s (i+1)=x at *;cases hin:inD w with
         | true=>
          rw[cT,e1,callP_ret,ix_run hK (d'+18),callP_ret,ixB_lt,oB,iP rfl]
          have oneQ:LoopR (qar n s w deep (i+2) out (text++[x])) S N b s vT vW ((ld1 (.ptr (N+1) 0) U).bind fun p83=>(bsP 5 1 1 (Ev.one (.int .u8 0)) [(0,.int .u8 (x.toNat:Int))] p83.2).bind fun p85=>(apP 5 1 1 p83.1 p85.1 p85.2).bind fun p86=>(stP 1 (.ptr (N+1) 0) p86.1 p86.2).bind fun p87=>qb6 (ev E0 K (d'+20)) qa3 NK (exB 0 NK qav) q' (.ptr b 0) (.int .i64 (w:Int)) (.int .i64 (deep:Int)) (.ptr N 0) (.ptr (N+1) 0) (.ptr (N+2) 0) (.ptr (N+3) 0) (.fn (.func 70) [] [.ptr (N+3) 0,.ptr N 0]) p87.2):=by
           obtain⟨T,vt',t1,t2,t3⟩:=pU.push (by omega) x;rw[t1];exact go T (i+2) out (text++[x]) vo vt' t2 (gU.trans (t3.mono fun x _ hx=>.inr hx)) (by omega) (by omega) (by rw[lAq,List.length_singleton]; omega)
          have two:LoopR (qar n s w deep (i+2) out (text++[92]++[x])) S N b s vT vW ((ld1 (.ptr (N+1) 0) U).bind fun p74=>(bsP 5 1 1 (Ev.one (.int .u8 0)) [(0,.int .u8 ((92:UInt8).toNat:Int))] p74.2).bind fun p75=>(apP 5 1 1 p74.1 p75.1 p75.2).bind fun p76=>(stP 1 (.ptr (N+1) 0) p76.1 p76.2).bind fun p77=>(ld1 (.ptr (N+1) 0) p77.2).bind fun p83=>(bsP 5 1 1 (Ev.one (.int .u8 0)) [(0,.int .u8 (x.toNat:Int))] p83.2).bind fun p85=>(apP 5 1 1 p83.1 p85.1 p85.2).bind fun p86=>(stP 1 (.ptr (N+1) 0) p86.1 p86.2).bind fun p87=>qb6 (ev E0 K (d'+20)) qa3 NK (exB 0 NK qav) q' (.ptr b 0) (.int .i64 (w:Int)) (.int .i64 (deep:Int)) (.ptr N 0) (.ptr (N+1) 0) (.ptr (N+2) 0) (.ptr (N+3) 0) (.fn (.func 70) [] [.ptr (N+3) 0,.ptr N 0]) p87.2):=by
           obtain⟨T,vt',t1,t2,t3⟩:=pU.push (by omega) 92;obtain⟨T2,vt2,u1,u2,u3⟩:=t2.push (by rw[lAq,List.length_singleton]; omega) x;rw[t1];dsimp only;rw[u1];exact go T2 (i+2) out (text++[92]++[x]) vo vt2 u2 ((gU.trans (t3.mono fun x _ hx=>.inr hx)).trans (u3.mono fun x _ hx=>.inr hx)) (by omega) (by omega) (by rw[lAq,lAq,List.length_singleton,List.length_singleton]; omega)
          cases hcn:List.contains [36,96,92] x with
          | true=>
           simp only[Bool.not_true,qae,qat,qax,nF,oB,cF,pickV_bool,ifK_bool,Bool.true_or,↓reduceIte,List.append_nil];exact oneQ
          | false=>
           simp only[nF,qae,oB,cT];rw[show V.int .u8 34=.int .u8 ((34:UInt8).toNat:Int)from rfl,u8neU,oB];by_cases h34:x=34
           . rw[dT h34]
             simp only[Bool.not_true,qat,nF,oB,cT,pickV_bool,cF];rw[show V.int .i64 2=.int .i64 ((2:Nat):Int)from rfl,w_eq,oB];simp only[pickV_bool,oB,cT,cF,ifK_bool,Bool.false_or];by_cases hw2:w=2
             . rw[dT hw2,cT,iN (by simp[hw2])]
               exact two
             . rw[dF hw2,cF,iP (by simp[h34,hw2]),List.append_nil]
               exact oneQ
           . rw[dF h34]
             simp only[nF,qat,Bool.not_true,oB,cT,pickV_bool,cF,ifK_bool];rw[iN (by simp[h34])];exact two
         | false=>
          rw[cF,ifK_bool,cT,e1,callP_ret,iN (by simp)];obtain⟨y,T,y1,y2,y3,y4,y5⟩:=rv_byte pU.on x;have pT:=pU.fresh (by have:=e3.next; omega) y4;obtain⟨T2,vo2,z1,z2,z3⟩:=add_one hK (d'+18) pT (X:=qdo 1 [x] [] false .nilslice) (p:=.mk 1 [x] [] false []) (qdm ..) (by omega);rw[y1,oB];dsimp only;rw[conv_rv pT.on (bs:=[x]) y2 (by simp),oB];dsimp only;rw[build_q,oB,z1];exact go T2 (i+2) _ [] vo2 _ z2 ((gU.trans (y4.mono fun _ _ h=>h.elim)).trans (z3.mono fun x _ hx=>.inr hx)) (by omega) (by omega) (by rw[lAq,List.length_singleton]; simp only[List.length_nil]; omega)
     . rw[iN h92,dF h92]
       simp only[qae,oB,cF,pickV_bool,ifK_bool];rw[show V.int .u8 36=.int .u8 ((36:UInt8).toNat:Int)from rfl,qjx,oB,ifK_bool];by_cases h36:c=36
       . rw[iP h36,dT h36,cT]
         obtain⟨m,rfl⟩:∃m,n=m+1:=⟨n-1,by omega⟩
         have hdl:=dollar_run (w:=w) (deep:=deep) (n:=m) hK (hPm m rfl) (d'+18) ho (by omega) hl hs hlt hdp (by omega) (by omega) (by omega);cases hq:dolD (m+1) s w deep i with
         | error e=>
          rw[hq]at hdl;exact(Bad.callP hdl _).mono fun x hx=>hx.imp id (by omega)
         | ok o=>
          rw[hq]at hdl;cases o with
          | none=>
           obtain⟨U,X,c1,c2,c3⟩:=hdl;have c3:=Grew.old c3;have pU:=h.move c3 (fun x hx=>by omega) c2;obtain⟨n1,n2,n3⟩:=qbp pU.on 49 6 zP;have pA:=pU.fresh (by have:=c3.next; omega) n2;obtain⟨T2,m1,m2,m3,m4⟩:=n1.stA pA.on qjb X;have gB:Grew (fun _=>False) U T2:=⟨by have:=n2.next; omega,m3.on.trans n2.on,fun x hx _=>(m3.keep x (by have:=n2.next; omega) (by omega)).trans (n2.keep x hx fun h=>h)⟩
           have pB:=pU.fresh (by have:=c3.next; omega) gB;obtain⟨T3,vt',t1,t2,t3⟩:=pB.push (by omega) c;dsimp only;rw[c1,callP_ret,show qac (.tuple [.agg 6 X,.bool false]) 0=some (.agg 6 X)from rfl,oB,show qac (.tuple [.agg 6 X,.bool false]) 1=some (.bool false)from rfl,oB,qbs,m1,oB];dsimp only;rw[ifK_bool,cF,t1];rw[h36]at t2;exact go T3 (i+1) out (text++[36]) vo vt' t2 (((c3.mono fun x _ hx=>.inl hx).trans (gB.mono fun _ _ h=>h.elim)).trans (t3.mono fun x _ hx=>.inr hx)) (by omega) (by omega) (by rw[lAq,List.length_singleton]; omega)
          | some q=>
           obtain⟨p,j⟩:=q;obtain⟨U,X,c1,c2,c3,c4⟩:=hdl;have hjle:=(qet _).2 _ _ _ _ _ _ hq;have c3:=Grew.old c3;have pU:=h.move c3 (fun x hx=>by omega) c2;have nx:=c3.next
           obtain⟨n1,n2,n3⟩:=qbp pU.on 49 6 zP;have pA:=pU.fresh (by omega) n2;obtain⟨T2,m1,m2,m3,m4⟩:=n1.stA pA.on qjb X;have gB:Grew (fun _=>False) U T2:=⟨by have:=n2.next; omega,m3.on.trans n2.on,fun x hx _=>(m3.keep x (by have:=n2.next; omega) (by omega)).trans (n2.keep x hx fun h=>h)⟩
           have nB:=gB.next
           have pB:=pU.fresh (by omega) gB;obtain⟨T3,vo2,z1,z2,z3⟩:=add_one hK (d'+18) pB (X:=X) (p:=p) ((c4.grew gB fun x hx hw=>hw).mono fun x hx=>⟨by omega,by omega,fun hv=>by have:=h.vo_lt _ hv; omega⟩) (by omega);dsimp only;rw[c1,callP_ret,show qac (.tuple [.agg 6 X,.bool true]) 0=some (.agg 6 X)from rfl,oB,show qac (.tuple [.agg 6 X,.bool true]) 1=some (.bool true)from rfl,oB,qbs,m1,oB];dsimp only;rw[ifK_bool,cT,m2.ldA pB.on qjb,oB];dsimp only;rw[z1];exact go T3 j _ [] vo2 _ z2 (((c3.mono fun x _ hx=>.inl hx).trans (gB.mono fun _ _ h=>h.elim)).trans (z3.mono fun x _ hx=>.inr hx)) (by omega) (by omega) (by rw[lAq,List.length_singleton]; simp only[List.length_nil]; omega)
       . rw[iN h36,dF h36,cF,show V.int .u8 96=.int .u8 ((96:UInt8).toNat:Int)from rfl,qjx,oB,ifK_bool]
         by_cases h96:c=96
         . rw[dT h96,cT,ifK_bool,cT,iP (by simp[h96])]
           exact hfail _
         . rw[dF h96,cF,show V.int .u8 34=.int .u8 ((34:UInt8).toNat:Int)from rfl,qjx,oB]
           have dfl:LoopR (qar n s w deep (i+1) out (text++[c])) S N b s vT vW (
            (ld1 (.ptr (N+1) 0) S).bind fun p385=>
            (bsP 5 1 1 (Ev.one (.int .u8 0)) [(0,.int .u8 (c.toNat:Int))] p385.2).bind fun p387=>
            (apP 5 1 1 p385.1 p387.1 p387.2).bind fun p388=>
            (stP 1 (.ptr (N+1) 0) p388.1 p388.2).bind fun p389=>
            (qa1 (.ptr b 0)).bind fun t391=>
            (faP 1 false 1 t391).bind fun t392=>
            (ld1 t392 p389.2).bind fun p393=>
            (qa5 E0 .add 3 false true p393.1 (.int .i64 1)).bind fun t394=>
            (qa1 (.ptr b 0)).bind fun t395=>
            (faP 1 false 1 t395).bind fun t396=>
            (stP 1 t396 t394 p393.2).bind fun p397=>
            qb6 (ev E0 K (d'+20)) qa3 NK (exB 0 NK qav) q' (.ptr b 0) (.int .i64 (w:Int)) (.int .i64 (deep:Int)) (.ptr N 0) (.ptr (N+1) 0) (.ptr (N+2) 0) (.ptr (N+3) 0) (.fn (.func 70) [] [.ptr (N+3) 0,.ptr N 0]) p397.2):=by
            obtain⟨T,vt',t1,t2,t3⟩:=h.push (by omega) c;obtain⟨T2,u1,u2,u3,u4,u5⟩:=t2.lx.bump t2.on 1 (by omega);rw[t1];dsimp only;rw[show V.int .i64 1=.int .i64 ((1:Nat):Int)from rfl,u1];exact go T2 (i+1) out (text++[c]) vo vt' (t2.move u3 (fun x hx=>by omega) u2) ((t3.mono fun x _ hx=>.inr hx).trans (u3.mono fun x _ hx=>.inl hx)) (by omega) (by omega) (by rw[lAq,List.length_singleton]; omega)
           have one39:LoopR (match qji s (i+1) 39 with
            | none=>.error (19,i)
            | some k=>qar n s w deep (k+1) (qkw w out text++[.mk 1 ((s.drop (i+1)).take (k-(i+1))) [] false []]) []) S N b s vT vW (
            (qa1 (.ptr b 0)).bind fun t275=>
            (faP 0 false 1 t275).bind fun t276=>
            (ld1 t276 S).bind fun p277=>
            (qa5 E0 .add 3 false true (.int .i64 (i:Int)) (.int .i64 1)).bind fun t279=>
            (qak E0 9 p277.1 (some t279) none none p277.2).bind fun p280=>
            callP ((ev E0 K (d'+20)).f 73 [p280.1,(.int .u8 ((39:UInt8).toNat:Int))] p280.2) fun t281 S281=>
            (qa5 E0 .lss 3 false true t281 (.int .i64 0)).bind fun t284=>
            ifK t284 (
            callP ((ev E0 K (d'+20)).f 25 [(.int .i64 19),.int .i64 (i:Int)] S281) fun t286 S286=>
            (qa1 (.ptr b 0)).bind fun t289=>
            (faP 0 false 1 t289).bind fun t290=>
            (ld1 t290 S286).bind fun p291=>
            (qa5 E0 .add 3 false true (.int .i64 (i:Int)) (.int .i64 1)).bind fun t293=>
            (qa5 E0 .add 3 false true (.int .i64 (i:Int)) (.int .i64 1)).bind fun t295=>
            (qa5 E0 .add 3 false false t295 t281).bind fun t297=>
            (qak E0 9 p291.1 (some t293) (some t297) none p291.2).bind fun p298=>
            (qab E0 49 [(0,(.int .i64 1)),(1,p298.1)]).bind fun t299=>
            (bsP 49 6 1 zP [(0,t299)] p298.2).bind fun p300=>
            callP (qbo E0 (ev E0 K (d'+20)) (.fn (.func 70) [] [.ptr (N+3) 0,.ptr N 0]) [p300.1] p300.2) fun t301 S301=>
            (qa1 (.ptr b 0)).bind fun t303=>
            (faP 1 false 1 t303).bind fun t304=>
            (ld1 t304 S301).bind fun p305=>
            (qa5 E0 .add 3 false true t281 (.int .i64 2)).bind fun t307=>
            (qa5 E0 .add 3 false false p305.1 t307).bind fun t308=>
            (qa1 (.ptr b 0)).bind fun t309=>
            (faP 1 false 1 t309).bind fun t310=>
            (stP 1 t310 t308 p305.2).bind fun p311=>
            qb6 (ev E0 K (d'+20)) qa3 NK (exB 0 NK qav) q' (.ptr b 0) (.int .i64 (w:Int)) (.int .i64 (deep:Int)) (.ptr N 0) (.ptr (N+1) 0) (.ptr (N+2) 0) (.ptr (N+3) 0) (.fn (.func 70) [] [.ptr (N+3) 0,.ptr N 0]) p311.2) (
            (qa1 (.ptr b 0)).bind fun t314=>
            (faP 0 false 1 t314).bind fun t315=>
            (ld1 t315 S281).bind fun p316=>
            (qa5 E0 .add 3 false true (.int .i64 (i:Int)) (.int .i64 1)).bind fun t318=>
            (qa5 E0 .add 3 false true (.int .i64 (i:Int)) (.int .i64 1)).bind fun t320=>
            (qa5 E0 .add 3 false false t320 t281).bind fun t322=>
            (qak E0 9 p316.1 (some t318) (some t322) none p316.2).bind fun p323=>
            (qab E0 49 [(0,(.int .i64 1)),(1,p323.1)]).bind fun t324=>
            (bsP 49 6 1 zP [(0,t324)] p323.2).bind fun p325=>
            callP (qbo E0 (ev E0 K (d'+20)) (.fn (.func 70) [] [.ptr (N+3) 0,.ptr N 0]) [p325.1] p325.2) fun t326 S326=>
            (qa1 (.ptr b 0)).bind fun t328=>
            (faP 1 false 1 t328).bind fun t329=>
            (ld1 t329 S326).bind fun p330=>
            (qa5 E0 .add 3 false true t281 (.int .i64 2)).bind fun t332=>
            (qa5 E0 .add 3 false false p330.1 t332).bind fun t333=>
            (qa1 (.ptr b 0)).bind fun t334=>
            (faP 1 false 1 t334).bind fun t335=>
            (stP 1 t335 t333 p330.2).bind fun p336=>
            qb6 (ev E0 K (d'+20)) qa3 NK (exB 0 NK qav) q' (.ptr b 0) (.int .i64 (w:Int)) (.int .i64 (deep:Int)) (.ptr N 0) (.ptr (N+1) 0) (.ptr (N+2) 0) (.ptr (N+3) 0) (.fn (.func 70) [] [.ptr (N+3) 0,.ptr N 0]) p336.2)):=by
            rw[hl.r0 ho];dsimp only;rw[qff (by omega),oB,qb9 und9 s (qcw .i64 (by omega)) (lR _),oB,List.take_of_length_le (by rw[List.length_drop]; omega)];dsimp only;rw[ix_run hK (d'+18),callP_ret,lt0,oB,ifK_bool,ixB_idx];cases hx:qji s (i+1) 39 with
            | none=>
             dsimp only;rw[show decide ((-1:Int)<0)=true from rfl,cT];exact hfail _
            | some k=>
             obtain⟨x1,x2⟩:=qfo hx;dsimp only;rw[show decide ((((k-(i+1):Nat):Int))<0)=false by simp,cF,hl.r0 ho];dsimp only;rw[oB,oB,addN (by omega),oB,qb9 und9 s (qe4 .i64 .i64 (by omega) (by omega)) (by omega),oB,show i+1+(k-(i+1))-(i+1)=k-(i+1) by omega];dsimp only;obtain⟨T3,vo2,z1,z2,z3⟩:=add_one hK (d'+18) h (X:=qdo 1 ((s.drop (i+1)).take (k-(i+1))) [] false .nilslice) (p:=.mk 1 ((s.drop (i+1)).take (k-(i+1))) [] false []) (qdm ..) (by omega);obtain⟨T4,u1,u2,u3,u4,u5⟩:=z2.lx.set z2.on (i+(k-(i+1)+2));rw[build_q,oB,z1,z2.lx.r1 z2.on];dsimp only;rw[show V.int .i64 2=.int .i64 ((2:Nat):Int)from rfl,addC 2 (by omega),oB,addN (by omega),oB,u1];rw[show i+(k-(i+1)+2)=k+1 by omega]at u2;exact go T4 (k+1) _ [] vo2 _ (z2.move u3 (fun x hx=>by omega) u2) ((z3.mono fun x _ hx=>.inr hx).trans (u3.mono fun x _ hx=>.inl hx)) (by omega) (by omega) (by rw[lAq,List.length_singleton]; simp only[List.length_nil]; omega)
           have one34:LoopR (match qar n s 1 deep (i+1) [] []with
            | .error e=>.error e
            | .ok (l,j)=>if atD s j [34]then qar n s w deep (j+1) (qkw w out text++(if l.isEmpty then [.mk 1 [] [] true []]else l)) []else .error (19,i)) S N b s vT vW (
            (qa1 (.ptr b 0)).bind fun t345=>
            (faP 1 false 1 t345).bind fun t346=>
            (ld1 t346 S).bind fun p347=>
            (qa5 E0 .add 3 false true p347.1 (.int .i64 1)).bind fun t348=>
            (qa1 (.ptr b 0)).bind fun t349=>
            (faP 1 false 1 t349).bind fun t350=>
            (stP 1 t350 t348 p347.2).bind fun p351=>
            callP ((ev E0 K (d'+20)).f 49 [.ptr b 0,(.int .i64 1),.int .i64 (deep:Int)] p351.2) fun t354 S354=>
            callP ((ev E0 K (d'+20)).f 23 [.ptr b 0,(sv [34])] S354) fun t357 S357=>
            (unV .not t357).bind fun t358=>
            ifK t358 (
            callP ((ev E0 K (d'+20)).f 25 [(.int .i64 19),.int .i64 (i:Int)] S357) fun t360 S360=>
            (lnS t354 S360).bind fun p362=>
            (qa5 E0 .eql 3 false true p362.1 (.int .i64 0)).bind fun t363=>
            ifK t363 (
            (qab E0 49 [(0,(.int .i64 1)),(3,(.bool true))]).bind fun t364=>
            (bsP 49 6 1 zP [(0,t364)] p362.2).bind fun p365=>
            callP (qbo E0 (ev E0 K (d'+20)) (.fn (.func 70) [] [.ptr (N+3) 0,.ptr N 0]) [p365.1] p365.2) fun t369 S369=>
            qb6 (ev E0 K (d'+20)) qa3 NK (exB 0 NK qav) q' (.ptr b 0) (.int .i64 (w:Int)) (.int .i64 (deep:Int)) (.ptr N 0) (.ptr (N+1) 0) (.ptr (N+2) 0) (.ptr (N+3) 0) (.fn (.func 70) [] [.ptr (N+3) 0,.ptr N 0]) S369) (
            callP (qbo E0 (ev E0 K (d'+20)) (.fn (.func 70) [] [.ptr (N+3) 0,.ptr N 0]) [t354] p362.2) fun t372 S372=>
            qb6 (ev E0 K (d'+20)) qa3 NK (exB 0 NK qav) q' (.ptr b 0) (.int .i64 (w:Int)) (.int .i64 (deep:Int)) (.ptr N 0) (.ptr (N+1) 0) (.ptr (N+2) 0) (.ptr (N+3) 0) (.fn (.func 70) [] [.ptr (N+3) 0,.ptr N 0]) S372)) (
            (lnS t354 S357).bind fun p374=>
            (qa5 E0 .eql 3 false true p374.1 (.int .i64 0)).bind fun t375=>
            ifK t375 (
            (qab E0 49 [(0,(.int .i64 1)),(3,(.bool true))]).bind fun t376=>
            (bsP 49 6 1 zP [(0,t376)] p374.2).bind fun p377=>
            callP (qbo E0 (ev E0 K (d'+20)) (.fn (.func 70) [] [.ptr (N+3) 0,.ptr N 0]) [p377.1] p377.2) fun t381 S381=>
            qb6 (ev E0 K (d'+20)) qa3 NK (exB 0 NK qav) q' (.ptr b 0) (.int .i64 (w:Int)) (.int .i64 (deep:Int)) (.ptr N 0) (.ptr (N+1) 0) (.ptr (N+2) 0) (.ptr (N+3) 0) (.fn (.func 70) [] [.ptr (N+3) 0,.ptr N 0]) S381) (
            callP (qbo E0 (ev E0 K (d'+20)) (.fn (.func 70) [] [.ptr (N+3) 0,.ptr N 0]) [t354] p374.2) fun t384 S384=>
            qb6 (ev E0 K (d'+20)) qa3 NK (exB 0 NK qav) q' (.ptr b 0) (.int .i64 (w:Int)) (.int .i64 (deep:Int)) (.ptr N 0) (.ptr (N+1) 0) (.ptr (N+2) 0) (.ptr (N+3) 0) (.fn (.func 70) [] [.ptr (N+3) 0,.ptr N 0]) S384))):=by
            obtain⟨U,k1,k2,k3,k4,k5⟩:=hl.bump ho 1 (by omega);have pU:=h.move k3 (fun x hx=>by omega) k2;have hp:=hPn (d'+20) U b (i+1) s vT vW 1 deep k5 (by omega) k2 hs (by omega) hdp (by omega) (by omega) (by omega);rw[show V.int .i64 1=.int .i64 ((1:Nat):Int)from rfl,k1];dsimp only;cases hq:qar n s 1 deep (i+1) [] []with
            | error e=>
             rw[hq]at hp;exact Bad.after (k3.mono fun x _ hx=>.inl hx) ((Bad.callP hp _).mono fun x hx=>.inl hx)
            | ok q=>
             obtain⟨l,j⟩:=q;rw[hq]at hp;obtain⟨U2,v,c1,c2,c3,c4⟩:=hp;dsimp only at c2 c4;obtain⟨hj1,hj2,hj3⟩:=(qet n).1 _ _ _ _ _ _ _ _ hq (by omega);have p2:=pU.move c3 (fun x hx=>by omega) c2;have nx2:=c3.next
             have g2:Grew (fun x=>x=b\/N<=x) S U2:=(k3.mono fun x _ hx=>.inl hx).trans (c3.mono fun x _ hx=>.inl hx);dsimp only;rw[c1,callP_ret];cases ha34:atD s j [34]with
             | false=>
              rw[qbc hK (d'+16) p2.on c2 hj2 (t:=[34]) ha34,callP_ret,qhi,oB,ifK_bool,nF,cT,iN (by simp)];exact Bad.after g2 (bad0 ((qc4 hK (d'+19) p2.on 19 i).callP _))
             | true=>
              have hj4:=qbg ha34 (by simp);simp only[List.length_singleton]at hj4;obtain⟨U3,e1,e2,e3,e4⟩:=qb3 hK (d'+16) p2.on c2 hj2 (t:=[34]) (by simp; omega) ha34;have p3:=p2.move e3 (fun x hx=>by omega) e2;have nx3:=e3.next
              have g3:=g2.trans (e3.mono fun x _ hx=>(.inl hx:x=b\/N<=x));have c5:=c4.grew e3 (fun x hx=>by omega);have c6:=c5;obtain⟨rows,r1,r2,r3⟩:=c5;have hrl:=r2.len;rw[e1,callP_ret,qhi,oB,ifK_bool,Bool.not_true,cF,iP rfl,r1.len,oB];dsimp only;rw[eql0,hrl,oB,ifK_bool];simp only[List.length_nil,Nat.zero_add]at hj3;cases hle:l with
              | nil=>
               rw[List.length_nil,dT rfl,cT];obtain⟨T3,vo2,z1,z2,z3⟩:=add_one hK (d'+18) p3 (X:=qdo 1 [] [] true .nilslice) (p:=.mk 1 [] [] true []) (qdm ..) (by omega);rw[show qab E0 49 [(0,(.int .i64 ((1:Nat):Int))),(3,(.bool true))]=some (.agg 6 (qdo 1 [] [] true .nilslice))from build_e,oB,z1];exact go T3 (j+1) _ [] vo2 _ z2 (g3.trans (z3.mono fun x _ hx=>.inr hx)) (by omega) (by omega) (by simp only[List.isEmpty_nil,↓reduceIte,lAq,List.length_singleton,List.length_nil]; omega)
              | cons p0 l0=>
               rw[<- hle];have hpos:0<l.length:=by rw[hle]; simp
               rw[dF (by omega),cF];obtain⟨T3,vo2,z1,z2,z3⟩:=add_run hK (d'+18) p3 (y:=v) (m:=rows) (ps:=l) r1 (fun r hr=>⟨by have:=r3 r hr; omega,fun hv=>by have:=h.vo_lt _ hv; have:=r3 r hr; omega⟩) (r2.mono fun x hx=>⟨by omega,hx.2,fun hv=>by have:=h.vo_lt _ hv; omega⟩) (by omega) (by omega);rw[z1,callP_ret,show l.isEmpty=false by rw[hle]; rfl,iN (by simp)];exact go T3 (j+1) _ [] vo2 _ z2 (g3.trans (z3.mono fun x _ hx=>.inr hx)) (by omega) (by omega) (by rw[lAq]; simp only[List.length_nil]; omega)
           rw[show V.int .u8 39=.int .u8 ((39:UInt8).toNat:Int)from rfl];by_cases h34:c=34
           . rw[dT h34]
             simp only[qae,oB,cT];rw[show V.int .i64 4=.int .i64 ((4:Nat):Int)from rfl,w_eq,oB];simp only[pickV_bool,oB,cT,ifK_bool];by_cases hw4:w=4
             . rw[dT hw4,cT,iP (by simp[h34,hw4])]
               exact hfail _
             . rw[dF hw4,cF,iN (by simp[h96,hw4]),qjx,dF (by rw[h34]; decide),oB]
               simp only[qae,oB,cF,pickV_bool,ifK_bool];rw[ag1 ho h.pin,oB];dsimp only;rw[qhi,oB];simp only[pickV_bool,cT,oB,ifK_bool];rw[iN (by simp)];cases hin:inD w with
               | true=>
                rw[Bool.not_true,cF,iN (by simp)];exact dfl
               | false=>
                rw[nF,cT,iP (by simp[h34])];exact one34
           . rw[dF h34]
             simp only[qae,oB,cF,pickV_bool,ifK_bool];rw[iN (by simp[h96,h34]),qjx,oB];by_cases h39:c=39
             . rw[dT h39]
               simp only[qae,oB,cT];rw[ag1 ho h.pin,oB];dsimp only;rw[qhi,oB];simp only[pickV_bool,cT,oB,ifK_bool,cF];cases hin:inD w with
               | true=>
                rw[Bool.not_true,cF,iN (by simp),iN (by simp)];exact dfl
               | false=>
                rw[nF,cT,iP (by simp[h39])];exact one39
             . rw[dF h39]
               simp only[qae,oB,cF,pickV_bool,ifK_bool];rw[iN (by simp[h39]),iN (by simp[h34])];exact dfl
 . rw[dF hlt,iN (fun h=>hlt h.1)]
   simp only[qae,oB,cF,qc8,pickV_bool,ifK_bool];rw[qbq (by rfl),relog_on4 ho];exact fin
theorem parts_of (hK:RefL K) (hL:LoopOk K n):qgb K n:=by
 intro d S b i s vT vW w deep ho hb h hs hi hdp hd hn hn2;obtain⟨d',rfl⟩:∃d',d=d'+2:=⟨d-2,by omega⟩
 have hF:∀r,F49 (ev E0 K (d'+1)) qa3 (.ptr b 0) (.int .i64 (w:Int)) (.int .i64 (deep:Int)) S=some r->(ev E0 K (d'+2)).f 49 [.ptr b 0,.int .i64 (w:Int),.int .i64 (deep:Int)] S=some r:=fun r e=>rv49 hK e;have fold:∀{T:St} {e:TypeId} {v:V},T.on=false->AgAt (nwP e 1 (Ev.one v) T).2 T.next e 1 (Ev.one v):=fun ho=>(qbp ho _ 1 _).1
 obtain⟨a1,a2,a3⟩:=qbp ho 37 1 (Ev.one .nilslice);have on1:=a2.on.trans ho;obtain⟨b1,b2,b3⟩:=qbp on1 79 1 (Ev.one .nilslice);have on2:=b2.on.trans on1;obtain⟨c1,c2,c3⟩:=qbp on2 4 1 (Ev.one (.bool false));have on3:=c2.on.trans on2;obtain⟨S4,d1,d2,d3,d4⟩:=c1.st_one on3 (.bool (inD w)) rfl rfl rfl;have on4:=d3.on.trans on3;obtain⟨e1,e2,e3⟩:=qbp on4 1 1 (Ev.one .nilfn);have on5:=e2.on.trans on4;have n2:(nwP 79 1 (Ev.one .nilslice) (nwP 37 1 (Ev.one .nilslice) S).2).2.next=S.next+2:=by rw[b3,a3]
 have n3:(nwP 4 1 (Ev.one (.bool false)) (nwP 79 1 (Ev.one .nilslice) (nwP 37 1 (Ev.one .nilslice) S).2).2).2.next=S.next+3:=by rw[c3,n2]
 have n4:S4.next=S.next+3:=by rw[d4,n3]
 rw[n2]at c1 d1 d2 d3;rw[n4]at e1;rw[a3]at b1;obtain⟨S6,f1,f2,f3,f4⟩:=e1.st_one on5 (.fn (.func 69) [] [.ptr (S.next+1) 0,.ptr (S.next+2) 0,.ptr S.next 0]) rfl rfl rfl;have on6:=f3.on.trans on5;have n6:S6.next=S.next+4:=by rw[f4,e3,n4]
 have g4:Grew (fun x=>x=S.next+2) (nwP 79 1 (Ev.one .nilslice) (nwP 37 1 (Ev.one .nilslice) S).2).2 S4:=(c2.mono fun _ _ h=>h.elim).trans d3;have g6:Grew (fun x=>x=S.next+3) S4 S6:=(e2.mono fun _ _ h=>h.elim).trans f3;have gAll:Grew (fun x=>S.next<=x) S S6:=(((a2.mono fun _ _ h=>h.elim).trans (b2.mono fun _ _ h=>h.elim)).trans (g4.mono fun x _ hx=>by omega)).trans (g6.mono fun x _ hx=>by omega);have P:PS S6 S.next b s i vT vW w [] [] .nilslice .nilslice:=⟨on6,h.grew hb (by omega) gAll,hb,by omega,d2.grew (by omega) (by omega) g6,f2,((a1.grew (by omega) (fun h=>h) b2).grew (by omega) (by omega) g4).grew (by omega) (by omega) g6,(b1.grew (by omega) (by omega) g4).grew (by omega) (by omega) g6,.inl ⟨rfl,rfl⟩,⟨[],.inl ⟨rfl,rfl⟩,prAt_nil⟩,(fun r hr=>by cases hr),(fun r hr=>by cases hr)⟩
 have hlp:=hL (d'+1) qa3 S6 S.next b i s vT vW w deep [] [] .nilslice .nilslice P hs hi (by simp) hdp (by omega) hn hn2 (by unfold qa3; omega)
 have hFe:F49 (ev E0 K (d'+1)) qa3 (.ptr b 0) (.int .i64 (w:Int)) (.int .i64 (deep:Int)) S=_:=F49_eq ..;rw[oB,oB,qfb hK,callP_ret,oB,qbs,qbs,qbs,n2,a3,d1,oB]at hFe;dsimp only at hFe;rw[oB,qbs,n4,f1,oB]at hFe;dsimp only at hFe;cases hq:qar n s w deep i [] []with
 | ok q=>
  rw[hq]at hlp;obtain⟨U,v,k1,k2,k3,k4⟩:=hlp;exact⟨U,v,hF _ (hFe.trans k1),k2,Grew.old ((gAll.mono fun x _ hx=>.inr hx).trans k3),k4⟩
 | error e=>
  rw[hq]at hlp;obtain⟨U,x,k1,k2,k3,k4,k5⟩:=hlp;exact⟨U,x,hF _ (hFe.trans k1),k2,by omega,k4,Grew.old ((gAll.mono fun x _ hx=>.inr hx).trans k5)⟩
theorem loop_all (hK:RefL K):∀n,LoopOk K n/\∀m,m+1=n->LoopOk K m
 | 0=>⟨loop_zero,fun m h=>by omega⟩
 | n+1=>by
  obtain⟨h1,h2⟩:=loop_all hK n;refine⟨loop_step hK (parts_of hK h1) (fun m hm=>parts_of hK (h2 m hm)) h1,fun m hm=>?_⟩;obtain rfl:m=n:=by omega
  exact h1
theorem parts_run (hK:RefL K) (n:Nat):qgb K n:=parts_of hK (loop_all hK n).1
end
def zT:Tr V:=Tr.ofListFrom .nil [(.int .i64 0),(sv []),.nilslice,(.bool false),(.int .i64 0)] 0
def qew (t:Tok) (v:V):Tr V:=Tr.ofListFrom .nil [.int .i64 (t.kind:Int),sv t.text,v,.bool t.quoted,.int .i64 (t.at_:Int)] 0
def qmw (w:Nat×Bs):Tr V:=Tr.ofListFrom .nil [.int .i64 (w.1:Int),sv w.2] 0
def TkAt (S:St) (Q:Nat->Prop) (t:Tok) (c:Tr V):Prop:=∃v rows,c=qew t v/\RV S v 49 6 rows/\PrAt S Q t.parts rows/\∀r,qah v=some r->Q r
def TksAt (S:St) (Q:Nat->Prop) (l:List Tok) (rows:List (Tr V)):Prop:=rows.length=l.length/\∀(i:Nat) (t:Tok),l[i]?=some t->∃c,rows[i]?=some c/\TkAt S Q t c
section
variable {S U T:St} {Q Q' W:Nat->Prop} {t:Tok} {c:Tr V} {l:List Tok} {rows:List (Tr V)}
theorem TkAt.mono (h:TkAt S Q t c) (hQ:∀x,Q x->Q' x):TkAt S Q' t c:=by
 obtain⟨v,rows,h1,h2,h3,h4⟩:=h;exact⟨v,rows,h1,h2,h3.mono hQ,fun r hr=>hQ r (h4 r hr)⟩
theorem TkAt.grew (h:TkAt S Q t c) (g:Grew W S U) (hW:∀x,Q x->¬W x):TkAt U Q t c:=by
 obtain⟨v,rows,h1,h2,h3,h4⟩:=h;exact⟨v,rows,h1,h2.grew (fun r hr=>hW r (h4 r hr)) g,h3.grew g hW,h4⟩
theorem TksAt.mono (h:TksAt S Q l rows) (hQ:∀x,Q x->Q' x):TksAt S Q' l rows:=⟨h.1,fun i t ht=>by
 obtain⟨c,h1,h2⟩:=h.2 i t ht
 exact⟨c,h1,h2.mono hQ⟩⟩
theorem TksAt.grew (h:TksAt S Q l rows) (g:Grew W S U) (hW:∀x,Q x->¬W x):TksAt U Q l rows:=⟨h.1,fun i t ht=>by
 obtain⟨c,h1,h2⟩:=h.2 i t ht
 exact⟨c,h1,h2.grew g hW⟩⟩
theorem TksAt.push (h:TksAt S Q l rows) (hc:TkAt S Q t c):TksAt S Q (l++[t]) (rows++[c]):=by
 refine⟨by rw[lAq,lAq,h.1]; rfl,fun i u hu=>?_⟩;by_cases hi:i<l.length
 . rw[List.getElem?_append_left hi]at hu
   obtain⟨c',h1,h2⟩:=h.2 i u hu;exact⟨c',by rw[List.getElem?_append_left (by rw[h.1]; exact hi)]; exact h1,h2⟩
 . rw[List.getElem?_append_right (by omega)]at hu
   have h0:i-l.length=0:=by
    rcases Nat.eq_zero_or_pos (i-l.length)with h|h
    . exact h
    . rw[List.getElem?_eq_none (by simp; omega)]at hu; cases hu
   rw[h0]at hu;simp only[List.getElem?_cons_zero,oS]at hu;subst hu;exact⟨c,by rw[List.getElem?_append_right (by rw[h.1]; omega),h.1,h0]; rfl,hc⟩
theorem TksAt.set (h:TksAt S Q l rows) (i:Nat) (hc:TkAt S Q t c):TksAt S Q (l.set i t) (rows.set i c):=by
 refine⟨by rw[List.length_set,List.length_set,h.1],fun j u hu=>?_⟩;by_cases e:i=j
 . subst e
   by_cases hi:i<l.length
   . rw[List.getElem?_set_self hi]at hu
     cases hu;exact⟨c,by rw[List.getElem?_set_self (by rw[h.1]; exact hi)],hc⟩
   . rw[List.getElem?_eq_none (by rw[List.length_set]; omega)]at hu
     cases hu
 . rw[List.getElem?_set_ne e]at hu
   obtain⟨c',h1,h2⟩:=h.2 j u hu;exact⟨c',by rw[List.getElem?_set_ne e]; exact h1,h2⟩
theorem qfe (ho:S.on=false) {b e z i j:Nat} {l:List (Tr V)} {t:Tr V} {v:V} (h:RowAt S b e z l) (hi:l[i]?=some t) (hj:j<z) (hv:t.get j=some v):ld1 (.ptr b (i*z+j)) S=some (v,S):=by
 obtain⟨c,h1,h2⟩:=h.row;have hlt:=(List.getElem?_eq_some_iff.1 hi).1
 have hlt2:i*z+j<z*l.length:=by
  calc i*z+j<i*z+z:=by omega
   _=(i+1)*z:=by rw[Nat.add_mul,Nat.one_mul]
   _<=l.length*z:=Nat.mul_le_mul_right _ hlt
   _=z*l.length:=Nat.mul_comm ..
 have hc:(c.get ((i*z+j)/z)).bind (fun t=>t.get ((i*z+j)%z))=some v:=by
  rw[Nat.mul_comm i z,Nat.mul_add_div h.pos,Nat.div_eq_of_lt hj,Nat.add_zero,Nat.mul_add_mod,Nat.mod_eq_of_lt hj,h2 i _ hi];exact hv
 show ld S b (i*z+j)=_;unfold ld;rw[h1];simp only[blt_true.2 hlt2,blt_true.2 h.fit,Bool.and_self,cT];simp only[oI]at hc;obtain⟨u,hu,hv'⟩:=hc;rw[hu,oB,hv',oB,qau ho]
theorem rv_ldA (ho:S.on=false) {b e z i:Nat} {l:List (Tr V)} {t:Tr V} (h:RowAt S b e z l) (hi:l[i]?=some t):ldA z (.ptr b (i*z)) S=some (.agg z t,S):=by
 show((ldK S b (i*z) z).bind fun p=>some (V.agg z p.1,p.2))=_;rw[h.ldK ho hi];rfl
theorem rv_st1 (ho:S.on=false) {b e z i j:Nat} {l:List (Tr V)} {t:Tr V} (h:RowAt S b e z l) (hi:l[i]?=some t) (hj:j<z) (hz:1<z) (v:V) (hs:v.size=1) (hc:v.cells=Ev.one v) (hv:qaa v=false):∃U,stP 1 (.ptr b (i*z+j)) v S=some (.tuple [],U)/\RowAt U b e z (l.set i (t.set v j))/\Grew (fun x=>x=b) S U/\U.next=S.next:=by
 obtain⟨c,h1,h2⟩:=h.row;have hlt:=(List.getElem?_eq_some_iff.1 hi).1
 have hlt2:i*z+j+1<=z*l.length:=by
  have:i*z+j<z*l.length:=by
   calc i*z+j<i*z+z:=by omega
    _=(i+1)*z:=by rw[Nat.add_mul,Nat.one_mul]
    _<=l.length*z:=Nat.mul_le_mul_right _ hlt
    _=z*l.length:=Nat.mul_comm ..
  omega
 have ed:(i*z+j)/z=i:=by rw[Nat.mul_comm i z,Nat.mul_add_div h.pos,Nat.div_eq_of_lt hj,Nat.add_zero]
 have em:(i*z+j)%z=j:=by rw[Nat.mul_comm i z,Nat.mul_add_mod,Nat.mod_eq_of_lt hj]
 have ht:=h2 i t hi;refine⟨S.put b (.cells e z l.length false (c.set (t.set v j) i)),?_,⟨h.pos,by rw[List.length_set]; exact h.fit,c.set (t.set v j) i,by rw[qft,iP rfl,List.length_set],fun k u hk=>?_⟩,qiq b _,rfl⟩
 . show vu (bif Nat.beq v.size 1&&!qaa v then stK S b (i*z+j) 1 v.cells else none)=_
   rw[hs,hv,hc];simp only[show Nat.beq 1 1=true from rfl,nF,Bool.and_self,cT]
   have:stK S b (i*z+j) 1 (Ev.one v)=some (S.put b (.cells e z l.length false (c.set (t.set v j) i))):=by
    unfold stK;rw[h1];simp only[ble_true.2 hlt2,blt_true.2 h.fit,Bool.and_self,nF,cT];unfold qg2;rw[show Nat.beq 1 z=false from beq_false.2 (by omega)];simp only[Bool.false_and,cF,qhx,show(Ev.one v).get 0=some v from rfl,oB,Nat.add_zero,ed,em,ht,Tr.setC_eq,qau ho]
   rw[this]; rfl
 . rw[Tr.get_set]
   by_cases e:k=i
   . subst e
     rw[List.getElem?_set_self hlt]at hk;rw[iP rfl];exact hk
   . rw[List.getElem?_set_ne (fun h=>e h.symm)]at hk
     rw[iN e];exact h2 k u hk
structure LS (S:St) (N b:Nat) (s:Bs) (i:Nat) (toks:List Tok) (waits:List (Nat×Bs)) (vT vW:V):Prop where
 on:S.on=false
 bN:b<N
 hi:N<=S.next
 lx:Lx S b s i vT vW
 tk:∃rT,RV S vT 39 5 rT/\TksAt S (fun x=>N<=x/\x<S.next/\qah vT≠some x/\qah vW≠some x) toks rT
 wt:RV S vW 89 2 (waits.map qmw)
 tb:∀r,qah vT=some r->N<=r/\qah vW≠some r
 wb:∀r,qah vW=some r->N<=r
variable {N b i i':Nat} {s:Bs} {toks:List Tok} {waits:List (Nat×Bs)} {vT vW:V}
theorem LS.move (h:LS S N b s i toks waits vT vW) (g:Grew W S U) (hW:∀x,W x->x<N\/S.next<=x) (l:Lx U b s i' vT vW):LS U N b s i' toks waits vT vW:=by
 obtain⟨rT,r1,r2⟩:=h.tk;have nx:=g.next
 have hhi:=h.hi
 exact⟨g.on.trans h.on,h.bN,by omega,l,⟨rT,r1.grew (fun r hr hw=>by have:=hW _ hw; have:=(h.tb r hr).1; have:=r1.blk_lt hr; omega) g,(r2.grew g fun x hx hw=>by have:=hW _ hw; omega).mono fun x hx=>⟨hx.1,by omega,hx.2.2⟩⟩,
  h.wt.grew (fun r hr hw=>by have:=hW _ hw; have:=h.wb r hr; have:=h.wt.blk_lt hr; omega) g,h.tb,h.wb⟩
theorem LS.fresh (h:LS S N b s i toks waits vT vW) (g:Grew (fun _=>False) S U):LS U N b s i toks waits vT vW:=by
 have:=h.bN;have:=h.hi;exact h.move g (fun _ h=>h.elim) (h.lx.grew (by omega) (fun h=>h) g)
theorem LS.same (h:LS S N b s i toks waits vT vW) (h1:U.heap=S.heap) (h2:U.next=S.next) (h3:U.on=false):LS U N b s i toks waits vT vW:=
 h.fresh ⟨by omega,h3.trans h.on.symm,fun x _ _=>by rw[h1]⟩
theorem Lx.t2 (ho:S.on=false) (h:Lx S b s i vT vW) (l:List LE) (k:V×St->Rs):((qa1 (.ptr b 0)).bind fun t=>(faP 2 false 1 t).bind fun u=>(ld1 u (onS (S.lg l))).bind k)=k (vT,S.lg [⟨b,2,3,false⟩]):=by
 obtain⟨t,h1,_,_,h2,_⟩:=h.ex;rw[nilK,oB,show faP 2 false 1 (.ptr b 0)=some (.ptr b 2)from rfl,oB,qg8,llg,qc5 ho (h1.ld1 ho big4 (by decide) h2) [],oB]
theorem Lx.t2o (ho:S.on=false) (h:Lx S b s i vT vW) (k:V×St->Rs):((qa1 (.ptr b 0)).bind fun t=>(faP 2 false 1 t).bind fun u=>(ld1 u (onS S)).bind k)=k (vT,S.lg [⟨b,2,3,false⟩]):=by
 obtain⟨t,h1,_,_,h2,_⟩:=h.ex;rw[nilK,oB,show faP 2 false 1 (.ptr b 0)=some (.ptr b 2)from rfl,oB,qg8,qc5 ho (h1.ld1 ho big4 (by decide) h2) [],oB]
theorem Lx.t2r (ho:S.on=false) (h:Lx S b s i vT vW) (k:V×St->Rs):((qa1 (.ptr b 0)).bind fun t=>(faP 2 false 1 t).bind fun u=>(ld1 u S).bind k)=k (vT,S):=by
 obtain⟨t,h1,_,_,h2,_⟩:=h.ex;rw[nilK,oB,show faP 2 false 1 (.ptr b 0)=some (.ptr b 2)from rfl,oB,h1.ld1 ho big4 (by decide) h2,oB]
theorem Lx.w3o (ho:S.on=false) (h:Lx S b s i vT vW) (k:V×St->Rs):((qa1 (.ptr b 0)).bind fun t=>(faP 3 false 1 t).bind fun u=>(ld1 u (onS S)).bind k)=k (vW,S.lg [⟨b,3,4,false⟩]):=by
 obtain⟨t,h1,_,_,_,h2⟩:=h.ex;rw[nilK,oB,show faP 3 false 1 (.ptr b 0)=some (.ptr b 3)from rfl,oB,qg8,qc5 ho (h1.ld1 ho big4 (by decide) h2) [],oB]
theorem Lx.w3r (ho:S.on=false) (h:Lx S b s i vT vW) (k:V×St->Rs):((qa1 (.ptr b 0)).bind fun t=>(faP 3 false 1 t).bind fun u=>(ld1 u S).bind k)=k (vW,S):=by
 obtain⟨t,h1,_,_,_,h2⟩:=h.ex;rw[nilK,oB,show faP 3 false 1 (.ptr b 0)=some (.ptr b 3)from rfl,oB,h1.ld1 ho big4 (by decide) h2,oB]
theorem Lx.putT (ho:S.on=false) (h:Lx S b s i vT vW) (v:V) (hv:v.size=1/\v.cells=Ev.one v/\qaa v=false):∃U,stP 1 (.ptr b 2) v S=some (.tuple [],U)/\Lx U b s i v vW/\Grew (fun x=>x=b) S U/\U.next=S.next:=by
 obtain⟨t,h1,h2,h3,h4,h5⟩:=h.ex;obtain⟨U,k1,k2,k3,k4⟩:=h1.st1 ho big4 (by decide) (by decide:2<4) v hv.1 hv.2.1 hv.2.2;refine⟨U,k1,⟨_,k2,?_,?_,?_,?_⟩,k3,k4⟩<;>rw[Tr.get_set]
 . exact h2
 . exact h3
 . rfl
 . exact h5
theorem Lx.putW (ho:S.on=false) (h:Lx S b s i vT vW) (v:V) (hv:v.size=1/\v.cells=Ev.one v/\qaa v=false):∃U,stP 1 (.ptr b 3) v S=some (.tuple [],U)/\Lx U b s i vT v/\Grew (fun x=>x=b) S U/\U.next=S.next:=by
 obtain⟨t,h1,h2,h3,h4,h5⟩:=h.ex;obtain⟨U,k1,k2,k3,k4⟩:=h1.st1 ho big4 (by decide) (by decide:3<4) v hv.1 hv.2.1 hv.2.2;refine⟨U,k1,⟨_,k2,?_,?_,?_,?_⟩,k3,k4⟩<;>rw[Tr.get_set]
 . exact h2
 . exact h3
 . exact h4
 . rfl
theorem bs_lg (ho:S.on=false) {e z n:Nat} {zt:Tr V} {ps:List (Nat×V)} {y:V} (h:bsP e z n zt ps S=some (y,T)) (l:List LE):bsP e z n zt ps (S.lg l)=some (y,T.lg (⟨S.next,0,big,true⟩::l)):=by
 unfold bsP at h ⊢;cases hf:qgi n z (Tr.tab n n fun _=>zt) ps with
 | none=>rw[hf]at h; cases h
 | some c=>
  rw[hf]at h;simp only[oB,oS,pM]at h ⊢;obtain⟨rfl,rfl⟩:=h;exact⟨rfl,nw_lg ho l _⟩
theorem LS.push (h:LS S N b s i toks waits vT vW) {t:Tok} {X:Tr V} (ht:TkAt S (fun x=>N<=x/\x<S.next/\qah vT≠some x/\qah vW≠some x) t X) (hl:toks.length<50000) :
 ∃(y v':V) (T1 T2 T3:St),(∀l,bsP 39 5 1 zT [(0,.agg 5 X)] (S.lg l)=some (y,T1.lg (⟨S.next,0,big,true⟩::l)))/\(∀l,∃l',apP 39 5 64 vT y (T1.lg l)=some (v',T2.lg l'))/\(∃l',stP 1 (.ptr b 2) v' (T2.lg [])=some (.tuple [],T3.lg l'))/\
  LS T3 N b s i (toks++[t]) waits v' vW/\Grew (fun x=>x=b\/N<=x) S T3/\Grew (fun x=>x=b\/qah vT=some x) S T3:=by
 obtain⟨y,T1,a1,a2,a3,a4,a5⟩:=qj5 h.on 39 5 zT X (by omega) (by omega);have h1:=h.fresh a4;obtain⟨rT,r1,r2⟩:=h1.tk;have e1:=r2.1;obtain⟨v',T2,b1,b2,b3,b4,_⟩:=r1.cat h1.on (by omega) (a2.pv h1.on) (B:=64) (by rw[e1,List.length_singleton]; omega) (by omega);have nx1:=a4.next
 have nx2:=b3.next
 have hhi:=h.hi;have hbN:=h.bN;have on2:=b3.on.trans h1.on;have l2:Lx T2 b s i vT vW:=h1.lx.grew (by omega) (fun hw=>by have:=(h1.tb _ hw).1; omega) b3;obtain⟨T3,c1,c2,c3,c4⟩:=l2.putT on2 v' (qka b2);have nx3:=c3.next
 refine⟨y,v',T1,T2,T3,bs_lg h.on a1,lg_of (lg_apP 39 5 64 vT y) b1,stP_lg on2 c1,⟨c3.on.trans on2,hbN,by omega,c2,⟨rT++[X],b2.grew (fun r hr hx=>?_) c3,?_⟩,?_,?_,h.wb⟩,?_,((a4.mono fun _ _ h=>h.elim).trans (b3.mono fun x _ hx=>.inr hx)).trans (c3.mono fun x _ hx=>.inl hx)⟩
 . rcases b4 r hr with h'|h'
   . have:=(h1.tb r h').1; omega
   . omega
 . have hX:TkAt T1 (fun x=>N<=x/\x<S.next/\qah vT≠some x/\qah vW≠some x) t X:=ht.grew a4 fun x hx hw=>hw
   have hall:=(r2.mono fun x hx=>(hx:N<=x/\x<T1.next/\qah vT≠some x/\qah vW≠some x)).push (hX.mono fun x hx=>⟨hx.1,by omega,hx.2.2⟩);refine((hall.grew b3 fun x hx hw=>hx.2.2.1 hw).grew c3 fun x hx he=>by omega).mono fun x hx=>⟨hx.1,by omega,fun hv=>?_,hx.2.2.2⟩
   rcases b4 _ hv with h'|h'
   . exact hx.2.2.1 h'
   . omega
 . exact(h1.wt.grew (fun r hr hw=>(h1.tb r hw).2 hr) b3).grew (fun r hr hx=>by have:=h.wb r hr; omega) c3
 . intro r hr
   rcases b4 r hr with h'|h'
   . exact h1.tb r h'
   . exact⟨by omega,fun hv=>by have:=h1.wt.blk_lt hv; omega⟩
 . exact((a4.mono fun _ _ h=>h.elim).trans (b3.mono fun x _ hx=>.inr ((h1.tb x hx).1))).trans (c3.mono fun x _ hx=>.inl hx)
end
def nlD (t:Bs):Nat:=(t.findIdx? (fun x=>x==10)).getD t.length
theorem nlD_le (t:Bs):nlD t<=t.length:=by
 unfold nlD;cases h:t.findIdx? (fun x=>x==10)with
 | none=>exact lR _
 | some j=>have:=(List.findIdx?_eq_some_iff_getElem.1 h).1; simp; omega
theorem nlD_idx {s:Bs} {i:Nat} (hi:i<=s.length):(qji s i 10).getD s.length=i+nlD (s.drop i):=by
 unfold qji nlD;cases(s.drop i).findIdx? (fun x=>x==10)with
 | none=>simp; omega
 | some j=>simp; omega
abbrev Rd:=Option (Except Flt (Nat×List Tok×List (Nat×Bs)))
def remD (s:Bs) (i:Nat) (toks:List Tok) (waits:List (Nat×Bs)):Rd:=if atD s i [35]then some (.ok ((qji s i 10).getD s.length,toks,waits))else none
def mrkD (s:Bs) (i:Nat) (toks:List Tok) (waits:List (Nat×Bs)):Rd:=
 if qfq s i≠0 then some (.ok (i+qfq s i,toks++[⟨1,(s.drop i).take (qfq s i),[],false,i⟩],waits))else if atD s i [38]then some (.error (19,i))else none
abbrev RdR (o:Rd) (S:St) (N b:Nat) (s:Bs) (i:Nat) (toks:List Tok) (waits:List (Nat×Bs)) (vT vW:V) (r:Rs):Prop:=match o with
 | none=>∃U,r=some (.ret (.bool false),U)/\LS U N b s i toks waits vT vW/\Grew (fun _=>False) S U
 | some (.ok q)=>∃U vT' vW',r=some (.ret (.bool true),U)/\LS U N b s q.1 q.2.1 q.2.2 vT' vW'/\Grew (fun x=>x=b\/N<=x) S U
 | some (.error e)=>Bad (fun x=>x=b\/N<=x) S r e.1 e.2
theorem relog_nil (S:St) (ls:List (List LE)) (h:qm8 ls S.log=S.log):qbh S (onS S) ls=S:=by
 obtain⟨hp,nx,on,lg⟩:=S;cases on with
 | true=>show St.mk hp nx true (qm8 ls lg)=_; rw[show qm8 ls lg=lg from h]
 | false=>rfl
section
variable {K:FuncId->Option KF} {S U T:St} {N b i:Nat} {s:Bs} {toks:List Tok} {waits:List (Nat×Bs)} {vT vW:V}
theorem cut_run (hK:RefL K) (m:Nat) (t:Bs) (S:St) (ht:t.length<9223372036854770000):(ev E0 K (m+4)).f 46 [sv t,sv [10]] S=some (.ret (.tuple [sv (t.take (nlD t)),sv (t.drop (nlD t+1)),.bool (decide (nlD t<t.length))]),S):=by
 have h87:∀T,(ev E0 K (m+1)).f 87 [sv t,.int .u8 ((10:UInt8).toNat:Int)] T=some (.ret (.int .i64 (ixB t 10)),T):=fun T=>rv87 hK (F87_spec (ev E0 K m) qa3 t 10 T)
 have h85:(ev E0 K (m+2)).f 85 [sv t,sv [10]] S=some (.ret (.int .i64 (ixB t 10)),S):=rv85 hK (by
  show F85 (ev E0 K (m+1)) qa3 (sv t) (sv [10]) S=_;rw[F85_eq,lnStr_sv,oB];dsimp only;rw[eql0,oB,show decide (([10]:Bs).length=0)=false from rfl];simp only[qat,nF,oB,cT];rw[eqStr,oB,pickV_bool,cF,oB,ifK_bool];cases he:([10]:Bs)==t with
  | true=>
   rw[cT];have:t=[10]:=(beq_iff_eq.1 he).symm;subst this;rfl
  | false=>
   rw[cF,show qa5 E0 .eql 3 false true (.int .i64 ((([10]:Bs).length:Nat):Int)) (.int .i64 1)=some (.bool true) by kernel_rfl,oB,ifK_bool,cT,show ixS (sv [10]) (.int .i64 0)=some (.int .u8 ((10:UInt8).toNat:Int))from qf5 [10] .i64 0 (by simp),oB,h87,callP_ret])
 have h66:(ev E0 K (m+3)).f 66 [sv t,sv [10]] S=some (.ret (.tuple [sv (t.take (nlD t)),sv (t.drop (nlD t+1)),.bool (decide (nlD t<t.length))]),S):=rv66 hK (by
  show F66 (ev E0 K (m+2)) qa3 (sv t) (sv [10]) S=_;rw[F66_eq,h85,callP_ret,ixB_neg,oB,ifK_bool];unfold nlD ixB;rw[List.contains_eq_any_beq];cases hf:t.findIdx? (fun x=>x==10)with
  | none=>
   have:t.any (fun x=>(10:UInt8)==x)=false:=by
    rw[List.any_eq_false];intro x hx;have:=List.findIdx?_eq_none_iff.1 hf x hx;rw[beq_eq_false_iff_ne]at this;simp only[beq_iff_eq];exact fun h=>this h.symm
   rw[this,cF,Option.getD_none,List.take_of_length_le (lR _),List.drop_of_length_le (by omega),dF (Nat.lt_irrefl _)]
  | some j=>
   obtain⟨hj,h1,_⟩:=List.findIdx?_eq_some_iff_getElem.1 hf;have:t.any (fun x=>(10:UInt8)==x)=true:=List.any_eq_true.2 ⟨t[j],List.getElem_mem hj,by simpa using(beq_iff_eq.1 h1).symm⟩;rw[this,cT,Option.getD_some,qb9 und9 t (qey .i64 (by omega)) (by omega),oB];dsimp only;rw[lnStr_sv,oB];dsimp only;rw[show((([10]:Bs).length:Nat):Int)=((1:Nat):Int)from rfl,addN (by omega),oB,qb9 und9 t (qcw .i64 (by omega)) (lR _),oB];dsimp only;rw[qbq (by rfl),dT hj,List.take_of_length_le (l:=t.drop (j+1)) (by rw[List.length_drop]; omega),List.drop_zero,Nat.sub_zero];have hr:=relog_nil S [[],[],[],[],[],[],[],[],[],[],[],[]] rfl
   exact congrArg (fun x=>some (En.ret _,x)) hr)
 exact rv46 hK (by
  show F46 (ev E0 K (m+3)) qa3 (sv t) (sv [10]) S=_;rw[F46_eq,h66,callP_ret]
  rfl)
theorem remark_run (hK:RefL K) (m:Nat) (h:LS S N b s i toks waits vT vW) (hs:s.length<=5000) (hi:i<s.length):RdR (remD s i toks waits) S N b s i toks waits vT vW ((ev E0 K (m+6)).f 20 [.ptr b 0] S):=by
 have hF:∀r,F20 (ev E0 K (m+5)) qa3 (.ptr b 0) S=some r->(ev E0 K (m+6)).f 20 [.ptr b 0] S=some r:=fun r e=>rv20 hK e;have hE:F20 (ev E0 K (m+5)) qa3 (.ptr b 0) S=_:=F20_eq ..;have ho:=h.on;have hl:=h.lx;rw[next_lg hK (m+2) ho hl (by omega),callP_ret,qhi,oB,ifK_bool]at hE;unfold remD;cases ha:atD s i [35]with
 | false=>
  rw[ha,nF,cT]at hE;exact⟨S,hF _ hE,h,Grew.refl _ _⟩
 | true=>
  rw[ha,Bool.not_true,cF,hl.o0 ho]at hE;dsimp only at hE;rw[hl.l1 ho]at hE;dsimp only at hE;rw[qb9 und9 s (qcw .i64 (by omega)) (lR _),oB,List.take_of_length_le (by rw[List.length_drop]; omega)]at hE;dsimp only at hE;rw[cut_run hK (m+1) (s.drop i) _ (by rw[List.length_drop]; omega),qc8]at hE;simp only[qac,List.getElem?_cons_zero,List.getElem?_cons_succ,oB]at hE;rw[qbq (by rfl),relog_on3 ho,hl.r1 ho]at hE;dsimp only at hE;rw[lnStr_sv,oB]at hE;dsimp only at hE;have hle:=nlD_le (s.drop i);rw[List.length_drop]at hle;rw[List.length_take,List.length_drop,Nat.min_eq_left hle,addN (by omega),oB]at hE;obtain⟨U,k1,k2,k3,k4,k5⟩:=hl.set ho (i+nlD (s.drop i));rw[k1]at hE;have hbN:=h.bN;rw[iP rfl,nlD_idx (by omega)];exact⟨U,vT,vW,hF _ hE,h.move k3 (fun x hx=>.inl (by omega)) k2,k3.mono fun x _ hx=>.inl hx⟩
end
end Go.Proofs.YtafbipadnnmccaaDoor.W
end
