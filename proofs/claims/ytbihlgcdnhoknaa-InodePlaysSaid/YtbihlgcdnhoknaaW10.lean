/-
  WHAT THE FUNCTIONS COME TO: each is read by the evaluator,printed,and told as a function of data,part 10 of 14 (no condition).
-/
import Derived.Test.YtbihlgcdnhoknaaW9
namespace Go.Proofs.Ytbihlgcdnhoknaa.W
open Go.Proofs.Ytbihlgcdnhoknaa.Ev Go.RowKit
set_option maxRecDepth 100000
section
variable {S U:St} {rb:Nat} {vL vE:V} {R:RT}
theorem rd70 {n:Nat} {args:List V} {s:St} {r:En×St} (e:qb6 E0 (ev E0 KD n) qa4 Try.f70 B70 args s=some r):(ev E0 KD (n+1)).f 70 args s=some r:=qaa (c:=C70) (d:=B70) (by kernel_rfl) (by kernel_rfl) (qa5 C70 _ (by kernel_rfl)) rfl e
theorem rd49 {n:Nat} {args:List V} {s:St} {r:En×St} (e:qb6 E0 (ev E0 KD n) qa4 Try.f49 B49 args s=some r):(ev E0 KD (n+1)).f 49 args s=some r:=qaa (c:=C49) (d:=B49) (by kernel_rfl) (by kernel_rfl) (qa5 C49 _ (by kernel_rfl)) rfl e
def RT.roomB (R:RT) (n k:Int):Bool:=decide (R.used.1+n<=R.qi)&&decide (R.used.2+k<=R.qb)
theorem used_bound (hf:Fw R) (hs:qkm R.L):0<=R.used.1/\R.used.1<=1000/\0<=R.used.2/\R.used.2<=1000000:=by
 have:=qkk R.L (0,0) hs (by simp) (by simp);have hl:=hf.l;unfold RT.used;dsimp only at this;omega
theorem roomV_run (h:RAt S rb vL vE R) (hf:Fw R) (hs:qkm R.L) (m:Nat) (n k:Int) (hn:-1000000<=n/\n<=1000000) (hk:-1000000<=k/\k<=1000000):∃U,(ev E0 KD (m+2)).f 70 [.ptr rb 0,.int .i64 n,.int .i64 k] S=some (.ret (.bool (R.roomB n k)),U)/\Grew (fun _=>False) S U:=by
 obtain⟨U,a1,a2⟩:=usedV_run h hf hs m;have hU:=h.grew0 a2;obtain⟨S1,b1,b2,b3,b4⟩:=qf2 hU.on 26 2 (Tr.ofListFrom .nil [(.int .i64 0),(.int .i64 0)] 0) [.int .i64 R.used.1,.int .i64 R.used.2] rfl (by omega) qcp;have h1:=hU.grew0 b3;have on1:=h1.on;have ub:=used_bound hf hs;have f0:=qh4 on1 (Bx6.ld on1 b2 qcp (i:=0) rfl) [];have f1:=qh4 on1 (Bx6.ld on1 b2 qcp (i:=1) rfl) [];have fq:=qh4 on1 (h1.ld (i:=0) rfl) [];have fb:=qh4 on1 (h1.ld (i:=1) rfl) [];refine⟨S1,rd70 ?_,a2.trans b3⟩;show F70 (ev E0 KD (m+1)) qa4 (.ptr rb 0) (.int .i64 n) (.int .i64 k) S=_;rw[F70_eq,a1,callP_ret,oB,qdz,b1,oB];dsimp only;rw[qax,oB,Nat.zero_add,show onS S1=S1.lg []from rfl,f0,oB];dsimp only;rw[qlt _ _ _ _ _ (by unfold qaj; omega) (by unfold qaj; omega),oB,qc5,oB,qax,oB,Nat.zero_add,qax,oB,Nat.zero_add,show onS (S1.lg [⟨U.next,0,0+1,false⟩])=S1.lg []from rfl,fq,oB];dsimp only;rw[leqI,oB];unfold RT.roomB;by_cases hc:R.used.1+n<=R.qi
 . rw[dT hc]
   simp only[gTT,oB,cT,qax,Nat.zero_add];rw[show onS (S1.lg [⟨rb,0,0+1,false⟩])=S1.lg []from rfl,f1,oB];dsimp only;rw[qlt _ _ _ _ _ (by unfold qaj; omega) (by unfold qaj; omega)];simp only[oB,qc5,qax,Nat.zero_add];rw[show onS (S1.lg [⟨U.next,1,1+1,false⟩])=S1.lg []from rfl,fb,oB];dsimp only
   rw[leqI,oB,pickV_bool,cT,oB,qca (by
    show(bif (bif qd5 [⟨U.next,0,0+1,false⟩] [⟨rb,0,0+1,false⟩]then true else false)then false else(bif (bif qd5 [⟨U.next,1,1+1,false⟩] [⟨rb,1,1+1,false⟩]then true else false)then false else true))=true
    simp only[qd5,qem,qh6,cF,cT]),show onS (S1.lg [⟨rb,1,1+1,false⟩])=S1.lg []from rfl,qee on1 on1 rfl,Bool.true_and]
 . rw[dF hc]
   simp only[gTF,oB,cF,pickV_bool]
   rw[qca (by
    show(bif (bif qd5 [⟨U.next,0,0+1,false⟩] [⟨rb,0,0+1,false⟩]then true else false)then false else true)=true
    simp only[qd5,qem,qh6,cF,cT]),show onS (onS (onS (S1.lg [⟨rb,0,0+1,false⟩])))=S1.lg []from rfl,qee on1 on1 rfl,Bool.false_and]
def cntE (i:Int) (l:List REnt):Nat:=(l.filter fun e=>decide (e.ino=i)).length
theorem qgu (i:Int) (e:REnt) (l:List REnt):cntE i (e::l)=(if e.ino=i then 1 else 0)+cntE i l:=by
 unfold cntE;rw[List.filter_cons];by_cases h:e.ino=i
 . rw[iP (by simpa using h),iP h,List.length_cons]; omega
 . rw[iN (by simpa using h),iN h]; omega
theorem cntE_le (i:Int) (l:List REnt):cntE i l<=l.length:=List.length_filter_le _ _
noncomputable def inoV (k m:Int) (d:Bs) (l:Int):V:=qbz [.int .i64 k,.int .i64 m,sv d,.int .i64 l]
noncomputable def RT.node (R:RT) (i:Int):V×Bool:=if R.kind i=0 then(inoV 0 0 [] 0,false)else match R.L[(i-1).toNat]? with
 | some x=>(inoV x.kind x.mode x.data (if i=1 then 1 else(cntE i R.E:Int)),true)
 | none=>(inoV 0 0 [] 0,false)
theorem L49_spec {self:EV} {N:Nat} (nk:Ac->St->Rs) (ek:Nat->Ac->St->Rs) {q6:Nat} {v4:V} (hf:Fw R) (i1 k m:Int) (d:Bs) (hq:rb<q6) (hqL:∀r,qel vL=some r->r<q6) (hqE:∀r,qel vE=some r->r<q6) :
 ∀(r:List REnt) (i q c:Nat) (S:St),R.E.drop i=r->r.length<q->RAt S rb vL vE R->q6<S.next->Bx S q6 35 [.int .i64 k,.int .i64 m,sv d,.int .i64 (c:Int)]->c<=i->
 ∃U,qmh self N nk ek q (.ptr rb 0) (.int .i64 i1) v4 (.ptr q6 0) (.int .i64 (i:Int)) S=ek 0 (fr 48 [(1,.int .i64 i1),(4,v4),(6,.ptr q6 0)]) U/\Bx U q6 35 [.int .i64 k,.int .i64 m,sv d,.int .i64 ((c+cntE i1 r:Nat):Int)]/\Grew (fun x=>x=q6) S U
 | _,_,0,_,_,_,hq,_,_,_,_=>by omega
 | [],i,q+1,c,S,hi,_,h,hlt,hb,_=>by
  have hge:R.E.length<=i:=List.drop_eq_nil_iff.1 hi;refine⟨S,?_,hb,Grew.refl _ _⟩;rw[L49_34_eq,qc5,oB,qax,oB,Nat.zero_add,h.ldE,oB];dsimp only;rw[h.lenE,oB];dsimp only;rw[qjc,dF (by omega),oB,ifK_bool,cF]
 | e::r,i,q+1,c,S,hi,hql,h,hlt,hb,hc=>by
  obtain⟨hil,he,hr,hmem⟩:=qgl hi;obtain⟨x,q1,q2⟩:=h.ent hil;have f2:=q2 2 (.int .i64 e.ino) (by rw[he]; rfl);have hfe:=hf.e
  have head:∀Q,(ifK (.bool (decide (e.ino=i1))) (
   (faP 3 false 1 (.ptr q6 0)).bind fun t52=>
   (ld1 t52 S).bind fun p53=>
   (qa6 E0 .add 3 false true p53.1 (.int .i64 1)).bind fun t54=>
   (faP 3 false 1 (.ptr q6 0)).bind fun t55=>
   (stP 1 t55 t54 p53.2).bind fun p56=>
   (qa6 E0 .add 3 false true (.int .i64 (i:Int)) (.int .i64 1)).bind fun t58=>
   qmh self N nk ek q (.ptr rb 0) (.int .i64 i1) v4 (.ptr q6 0) t58 p56.2) (
   (qa6 E0 .add 3 false true (.int .i64 (i:Int)) (.int .i64 1)).bind fun t61=>
   qmh self N nk ek q (.ptr rb 0) (.int .i64 i1) v4 (.ptr q6 0) t61 S))=Q->qmh self N nk ek (q+1) (.ptr rb 0) (.int .i64 i1) v4 (.ptr q6 0) (.int .i64 (i:Int)) S=Q:=fun Q hQ=>by
   rw[L49_34_eq,qc5,oB,qax,oB,Nat.zero_add,h.ldE,oB];dsimp only;rw[h.lenE,oB];dsimp only;rw[qjc,dT (by omega),oB,ifK_bool,cT,oB,qax,oB,Nat.zero_add,h.ldE,oB];dsimp only;rw[q1,oB,qax,oB,f2,oB];dsimp only;rw[qbl,oB];exact hQ
  by_cases hk:e.ino=i1
  . have s1:=qof h.on hb rfl (m:=[.int .i64 k,.int .i64 m,sv d,.int .i64 ((c+1:Nat):Int)]) rfl (i:=3) (by show 3<4; omega) (by show 1<4; omega) qi6 (set4_3 _ _ _ _ (.int .i64 ((c+1:Nat):Int))) (qb4 _ _)
    have g1:Grew (fun y=>y=q6) S (S.put q6 (bxO 35 [.int .i64 k,.int .i64 m,sv d,.int .i64 ((c+1:Nat):Int)])):=qan _ _;have b1:Bx (S.put q6 (bxO 35 [.int .i64 k,.int .i64 m,sv d,.int .i64 ((c+1:Nat):Int)])) q6 35 [.int .i64 k,.int .i64 m,sv d,.int .i64 ((c+1:Nat):Int)]:=qi8 _ _ _;have hn1:(S.put q6 (bxO 35 [.int .i64 k,.int .i64 m,sv d,.int .i64 ((c+1:Nat):Int)])).next=S.next:=rfl
    generalize S.put q6 (bxO 35 [.int .i64 k,.int .i64 m,sv d,.int .i64 ((c+1:Nat):Int)])=S1 at s1 g1 b1 hn1;have h1':RAt S1 rb vL vE R:=h.grew g1 (by omega) (fun r hr e=>by have:=hqL r hr; omega) (fun r hr e=>by have:=hqE r hr; omega);obtain⟨U,t1,t2,t3⟩:=L49_spec (self:=self) (N:=N) nk ek hf i1 k m d hq hqL hqE r (i+1) q (c+1) S1 hr (by simpa using hql) h1' (by omega) b1 (by omega);refine⟨U,head _ ?_,by rw[qgu,iP hk,show c+(1+cntE i1 r)=c+1+cntE i1 r by omega]; exact t2,g1.trans t3⟩;rw[dT hk,ifK_bool,cT,qax,oB,Nat.zero_add,Bx6.ld h.on hb qi6 (i:=3) rfl,oB];dsimp only;rw[qlt _ _ _ _ _ (by unfold qaj; omega) (by unfold qaj; omega),oB,oB,show(c:Int)+1=((c+1:Nat):Int) by omega,s1,oB,qlt _ _ _ _ _ (by unfold qaj; omega) (by unfold qaj; omega),oB,show(i:Int)+1=((i+1:Nat):Int) by omega,t1]
  . obtain⟨U,t1,t2,t3⟩:=L49_spec (self:=self) (N:=N) nk ek hf i1 k m d hq hqL hqE r (i+1) q c S hr (by simpa using hql) h hlt hb (by omega)
    refine⟨U,head _ ?_,by rw[qgu,iN hk,Nat.zero_add]; exact t2,t3⟩;rw[dF hk,ifK_bool,cF,qlt _ _ _ _ _ (by unfold qaj; omega) (by unfold qaj; omega),oB,show(i:Int)+1=((i+1:Nat):Int) by omega,t1]
theorem build35e:qb9 E0 35 []=some (inoV 0 0 [] 0):=by kernel_rfl
theorem nodeV_run (h:RAt S rb vL vE R) (hf:Fw R) (m:Nat) (i:Int):∃U,(ev E0 KD (m+2)).f 49 [.ptr rb 0,.int .i64 i] S=some (.ret (.tuple [(R.node i).1,.bool (R.node i).2]),U)/\Grew (fun _=>False) S U:=by
 obtain⟨b0,g0,n0⟩:=nw_bx h.on 35 [.int .i64 0,.int .i64 0,sv [],.int .i64 0];have e0:nwP 35 4 (Tr.ofListFrom .nil [(.int .i64 0),(.int .i64 0),(sv []),(.int .i64 0)] 0) S=(.ptr S.next 0,(nwP 35 4 (Tr.ofListFrom .nil [(.int .i64 0),(.int .i64 0),(sv []),(.int .i64 0)] 0) S).2):=rfl
 change Bx (nwP 35 4 (Tr.ofListFrom .nil [(.int .i64 0),(.int .i64 0),(sv []),(.int .i64 0)] 0) S).2 S.next 35 _ at b0
 change Grew _ S (nwP 35 4 (Tr.ofListFrom .nil [(.int .i64 0),(.int .i64 0),(sv []),(.int .i64 0)] 0) S).2 at g0
 change (nwP 35 4 (Tr.ofListFrom .nil [(.int .i64 0),(.int .i64 0),(sv []),(.int .i64 0)] 0) S).2.next=_ at n0
 generalize (nwP 35 4 (Tr.ofListFrom .nil [(.int .i64 0),(.int .i64 0),(sv []),(.int .i64 0)] 0) S).2=S1 at b0 g0 n0 e0;have h1:=h.grew0 g0;have hfl:=hf.l;have hfe:=hf.e
 have hst:∀(T:St) (v:V) (t:Tr V),v=.agg 4 t->T.on=false->Bx T S.next 35 [.int .i64 0,.int .i64 0,sv [],.int .i64 0]->∃W,stP 4 (.ptr S.next 0) v T=some (.tuple [],W)/\ldrA 4 (.ptr S.next 0) W=some (v,W)/\Grew (fun x=>x=S.next) T W:=fun T v t hv ho hb=>by
  subst hv;obtain⟨W,w1,w2,w3,w4⟩:=(Bx.ag hb).stA ho qi6 t;exact⟨W,w1,w2.ldrA (w3.on.trans ho) qi6,w3⟩
 by_cases hk:R.kind i=0
 . obtain⟨W,w1,w2,w3⟩:=hst S1 (inoV 0 0 [] 0) _ rfl h1.on b0
   refine⟨W,rd49 ?_,g0.own (lR _) w3⟩;show F49 (ev E0 KD (m+1)) qa4 (.ptr rb 0) (.int .i64 i) S=_;rw[F49_eq,e0,oB,qgb h1 hf.l,callP_ret,qbl,dT hk,oB,ifK_bool,cT,build35e,oB];dsimp only;rw[w1,oB];dsimp only;rw[w2,oB];unfold RT.node;rw[iP hk]
 . have h1i:1<=i:=by
    rcases Int.lt_or_le i 1 with q|q
    . exact absurd (RT.kind_lo q) hk
    . exact q
   have hil:(i-1).toNat<R.L.length:=by
    rcases Int.lt_or_le (R.L.length:Int) i with q|q
    . exact absurd (RT.kind_hi q) hk
    . omega
   obtain⟨r,_,q1,q2,q3⟩:=h1.L.at (i:=(i-1).toNat) (by rw[qd1]; exact hil)
   have hld:ldA 4 (.ptr r ((i-1).toNat*4)) S1=some (qbz R.L[(i-1).toNat].cells,S1):=by
    show((ldK S1 r ((i-1).toNat*4) 4).bind fun p=>some (V.agg 4 p.1,p.2))=_;rw[q2.ldK h1.on (qq0 hil)]; rfl
   obtain⟨S2,a1,a2,a3,a4⟩:=qf2 h1.on 35 4 (Tr.ofListFrom .nil [(.int .i64 0),(.int .i64 0),(sv []),(.int .i64 0)] 0) R.L[(i-1).toNat].cells rfl (by omega) qi6;have h2:=h1.grew0 a3;obtain⟨U,t1,t2,t3⟩:=L49_spec (self:=ev E0 KD (m+1)) (N:=qa4) (R49_20 (ev E0 KD (m+1)) qa4 (qc0 E0 (ev E0 KD (m+1)) Try.f49) qbd) (exB 0 (R49_20 (ev E0 KD (m+1)) qa4 (qc0 E0 (ev E0 KD (m+1)) Try.f49) qbd) qbd) (q6:=S1.next) (v4:=.ptr S.next 0) hf i R.L[(i-1).toNat].kind R.L[(i-1).toNat].mode R.L[(i-1).toNat].data (by have:=h1.lt; omega) (fun r hr=>h1.L.blk_lt hr) (fun r hr=>h1.E.blk_lt hr) R.E 0 qa4 0 S2 rfl (by unfold qa4; omega) h2 (by omega) a2 (lR _);rw[Nat.zero_add]at t2;have onU:=t3.on.trans h2.on;have b0':Bx U S.next 35 [.int .i64 0,.int .i64 0,sv [],.int .i64 0]:=(b0.grew (by omega) (fun h=>h) a3).grew (by omega) (by omega) t3
   have gU:Grew (fun _=>False) S U:=(g0.trans a3).own (x:=S1.next) (by omega) t3
   have hnode:R.node i=(inoV R.L[(i-1).toNat].kind R.L[(i-1).toNat].mode R.L[(i-1).toNat].data (if i=1 then 1 else(cntE i R.E:Int)),true):=by
    unfold RT.node;rw[iN hk,List.getElem?_eq_getElem hil]
   have main:∀Q,R49_20 (ev E0 KD (m+1)) qa4 (qc0 E0 (ev E0 KD (m+1)) Try.f49) qbd (fr 48 [(1,.int .i64 i),(4,.ptr S.next 0),(6,.ptr S1.next 0)]) U=Q->F49 (ev E0 KD (m+1)) qa4 (.ptr rb 0) (.int .i64 i) S=Q:=fun Q hQ=>by
    rw[F49_eq,e0,oB,qgb h1 hf.l,callP_ret,qbl,dF hk,oB,ifK_bool,cF,qc5,oB,qax,oB,Nat.zero_add,h1.ldL,oB];dsimp only;rw[sub1 h1i (by omega),oB,q1,oB,hld,oB];dsimp only;rw[oB,qdz,a1,oB];dsimp only;rw[show V.int .i64 0=.int .i64 ((0:Nat):Int)from rfl];refine t1.trans ?_;rw[exB_same];exact hQ
   rw[hnode];by_cases hi1:i=1
   . have s1:=qof onU t2 rfl (m:=[.int .i64 R.L[(i-1).toNat].kind,.int .i64 R.L[(i-1).toNat].mode,sv R.L[(i-1).toNat].data,.int .i64 1]) rfl (i:=3) (by show 3<4; omega) (by show 1<4; omega) qi6 (set4_3 _ _ _ _ (.int .i64 1)) (qb4 _ _)
     have g1:Grew (fun y=>y=S1.next) U (U.put S1.next (bxO 35 [.int .i64 R.L[(i-1).toNat].kind,.int .i64 R.L[(i-1).toNat].mode,sv R.L[(i-1).toNat].data,.int .i64 1])):=qan _ _;have b1:Bx (U.put S1.next (bxO 35 [.int .i64 R.L[(i-1).toNat].kind,.int .i64 R.L[(i-1).toNat].mode,sv R.L[(i-1).toNat].data,.int .i64 1])) S1.next 35 [.int .i64 R.L[(i-1).toNat].kind,.int .i64 R.L[(i-1).toNat].mode,sv R.L[(i-1).toNat].data,.int .i64 1]:=qi8 _ _ _
     generalize U.put S1.next (bxO 35 [.int .i64 R.L[(i-1).toNat].kind,.int .i64 R.L[(i-1).toNat].mode,sv R.L[(i-1).toNat].data,.int .i64 1])=U1 at s1 g1 b1
     have on1:=g1.on.trans onU;obtain⟨W,w1,w2,w3⟩:=hst U1 (qbz [V.int .i64 R.L[(i-1).toNat].kind,.int .i64 R.L[(i-1).toNat].mode,sv R.L[(i-1).toNat].data,.int .i64 1]) (Tr.ofListFrom .nil [V.int .i64 R.L[(i-1).toNat].kind,.int .i64 R.L[(i-1).toNat].mode,sv R.L[(i-1).toNat].data,.int .i64 1] 0) rfl on1 (b0'.grew (by have:=t3.next; omega) (by omega) g1);refine⟨W,rd49 (main _ ?_),(gU.own (x:=S1.next) (by omega) g1).own (x:=S.next) (lR _) w3⟩;rw[R49_20_eq,qbl,dT hi1,oB,ifK_bool,cT,qax,oB,Nat.zero_add,s1,oB];dsimp only;rw[show ldA 4 (.ptr S1.next 0) U1=_ from Bx.ldA on1 b1 rfl qi6,oB];dsimp only;rw[show stP 4 (.ptr S.next 0) (qbz [V.int .i64 R.L[(i-1).toNat].kind,.int .i64 R.L[(i-1).toNat].mode,sv R.L[(i-1).toNat].data,.int .i64 1]) U1=_ from w1,oB];dsimp only;rw[w2,oB,iP hi1];rfl
   . obtain⟨W,w1,w2,w3⟩:=hst U (qbz [V.int .i64 R.L[(i-1).toNat].kind,.int .i64 R.L[(i-1).toNat].mode,sv R.L[(i-1).toNat].data,.int .i64 ((cntE i R.E:Nat):Int)]) (Tr.ofListFrom .nil [V.int .i64 R.L[(i-1).toNat].kind,.int .i64 R.L[(i-1).toNat].mode,sv R.L[(i-1).toNat].data,.int .i64 ((cntE i R.E:Nat):Int)] 0) rfl onU b0'
     refine⟨W,rd49 (main _ ?_),gU.own (x:=S.next) (lR _) w3⟩;rw[R49_20_eq,qbl,dF hi1,oB,ifK_bool,cF,show ldA 4 (.ptr S1.next 0) U=_ from Bx.ldA onU t2 rfl qi6,oB];dsimp only;rw[show stP 4 (.ptr S.next 0) (qbz [V.int .i64 R.L[(i-1).toNat].kind,.int .i64 R.L[(i-1).toNat].mode,sv R.L[(i-1).toNat].data,.int .i64 ((cntE i R.E:Nat):Int)]) U=_ from w1,oB];dsimp only;rw[w2,oB,iN hi1];rfl
end
section
variable {S U:St}
theorem nw_log {s:St} (ho:s.on=false) (o:O):(nw s o).log=s.log:=by
 unfold nw;rw[qb3 ho]; rfl
def PV (S:St) (z:Nat) (y:V) (m:List (Tr V)):Prop:=lenV y=some m.length/\qbv z m.length y S=some (m,S)
theorem RowAt.all (ho:S.on=false) {b e z:Nat} {l:List (Tr V)} (h:RowAt S b e z l) (i n:Nat) (hn:i+n<=l.length):ldN b z n (i*z) S=some ((l.drop i).take n,S):=h.ldN ho n i hn
theorem RowAt.pv (ho:S.on=false) {b e z:Nat} {t:Tr V} (h:RowAt S b e z [t]) (c:Nat):PV S z (.slice b 0 1 c) [t]:=by
 have:=RowAt.all ho h 0 1 (by simp);rw[Nat.zero_mul]at this;exact⟨rfl,this⟩
theorem qoc {n k c:Nat} (h1:k<=c):qce n c none (some (.int .i64 (k:Int))) none=some (0,k,c):=by
 unfold qce;simp only[oB,natOf_cast];rw[ble_true.2 h1]; rfl
theorem qob {n k c:Nat} (h1:k<=n):qce n c (some (.int .i64 (k:Int))) none none=some (k,n,c):=by
 unfold qce;simp only[oB,natOf_cast];rw[ble_true.2 h1]; rfl
theorem qlp (ho:S.on=false) {r e z:Nat} {l:List (Tr V)} (h:RowAt S r e z l):qnb S r=some (z*l.length,S):=by
 obtain⟨c,h1,_⟩:=h.row;unfold qnb;rw[h1];simp only[blt_true.2 h.fit,cT,qb3 ho]
theorem RV.take {v:V} {e z:Nat} {ts:List (Tr V)} (h:RV S v e z ts) (ho:S.on=false) {t el:TypeId} (hu:und E0 t=some (.slice el)) (hz:qav E0 el=some z) (h0:0<z) {k:Nat} (hk:k<=ts.length):∃y,qc6 E0 t v none (some (.int .i64 (k:Int))) none S=some (y,S)/\PV S z y (ts.take k):=by
 have hlt:(ts.take k).length=k:=by rw[List.length_take]; omega
 rcases h with⟨rfl,rfl⟩|⟨r,h1,h2,h3,rfl|rfl⟩
 . have:k=0:=by simpa using hk
   subst this;refine⟨.nilslice,?_,rfl,rfl⟩;unfold qc6;rw[hu,oB];simp only;rw[hz,oB]; rfl
 . have hrow:=RowAt.all ho h1 0 k (by omega)
   rw[Nat.zero_mul,List.drop_zero]at hrow;refine⟨.oslice r (0+0*z) (k-0) z,?_,?_,?_⟩
   . unfold qc6
     rw[hu,oB];simp only;rw[hz,oB,Nat.beq_refl,blt_true.2 h0,Bool.and_self,cT,qlp ho h1,oB];simp only[Nat.sub_zero,Nat.mul_div_cancel_left _ h0];rw[qoc hk,oB];simp only;rw[blt_true.2 h3]; rfl
   . rw[hlt]; rfl
   . rw[hlt]
     show ldN r z k (0+0*z) S=_;rw[Nat.zero_mul]; exact hrow
 . have hrow:=RowAt.all ho h1 0 k (by omega)
   rw[Nat.zero_mul,List.drop_zero]at hrow;refine⟨.slice r (0+0*z) (k-0) (ts.length-0),?_,?_,?_⟩
   . unfold qc6
     rw[hu,oB];simp only;rw[qoc hk,oB,hz,oB]
   . rw[hlt]; rfl
   . rw[hlt]
     show ldN r z k (0+0*z) S=_;rw[Nat.zero_mul]; exact hrow
theorem RV.drop {v:V} {e z:Nat} {ts:List (Tr V)} (h:RV S v e z ts) (ho:S.on=false) {t el:TypeId} (hu:und E0 t=some (.slice el)) (hz:qav E0 el=some z) (h0:0<z) {k:Nat} (hk:k<=ts.length):∃y,qc6 E0 t v (some (.int .i64 (k:Int))) none none S=some (y,S)/\PV S z y (ts.drop k):=by
 have hlt:(ts.drop k).length=ts.length-k:=by rw[List.length_drop]
 rcases h with⟨rfl,rfl⟩|⟨r,h1,h2,h3,rfl|rfl⟩
 . have:k=0:=by simpa using hk
   subst this;refine⟨.nilslice,?_,rfl,rfl⟩;unfold qc6;rw[hu,oB];simp only;rw[hz,oB]; rfl
 . have hrow:=RowAt.all ho h1 k (ts.length-k) (by omega)
   rw[List.take_of_length_le (by rw[hlt]; exact lR _)]at hrow
   have hs:qc6 E0 t (.oslice r 0 ts.length z) (some (.int .i64 (k:Int))) none none S=(bif Nat.blt k ts.length then some (V.oslice r (0+k*z) (ts.length-k) z,S)else bif Nat.beq k ts.length then some (.eslice,S)else none):=by
    unfold qc6;rw[hu,oB];simp only;rw[hz,oB,Nat.beq_refl,blt_true.2 h0,Bool.and_self,cT,qlp ho h1,oB];simp only[Nat.sub_zero,Nat.mul_div_cancel_left _ h0];rw[qob hk,oB]
   rcases Nat.lt_or_ge k ts.length with hlt'|hge
   . refine⟨.oslice r (0+k*z) (ts.length-k) z,by rw[hs,blt_true.2 hlt']; rfl,?_,?_⟩
     . rw[hlt]; rfl
     . rw[hlt]
       show ldN r z (ts.length-k) (0+k*z) S=_;rw[Nat.zero_add]; exact hrow
   . have he:k=ts.length:=by omega
     have hd:ts.drop k=[]:=List.drop_eq_nil_iff.2 hge;refine⟨.eslice,by rw[hs,blt_false.2 hge,he,Nat.beq_refl]; rfl,?_,?_⟩
     . rw[hd]; rfl
     . rw[hd]; rfl
 . have hrow:=RowAt.all ho h1 k (ts.length-k) (by omega)
   rw[List.take_of_length_le (by rw[hlt]; exact lR _)]at hrow;refine⟨.slice r (0+k*z) (ts.length-k) (ts.length-k),?_,?_,?_⟩
   . unfold qc6
     rw[hu,oB];simp only;rw[qob hk,oB,hz,oB]
   . rw[hlt]; rfl
   . rw[hlt]
     show ldN r z (ts.length-k) (0+k*z) S=_;rw[Nat.zero_add]; exact hrow
theorem RV.cat {v y:V} {e z B:Nat} {ts m:List (Tr V)} (h:RV S v e z ts) (ho:S.on=false) (h0:0<z) (hy:PV S z y m) (hl:ts.length+m.length<=3000) (hB:B+z<=1000):∃v' U,apP e z B v y S=some (v',U)/\RV U v' e z (ts++m)/\Grew (fun x=>qel v=some x) S U/\(∀r,qel v'=some r->qel v=some r\/S.next<=r)/\U.log=S.log:=by
 obtain⟨y1,y2⟩:=hy;have hlen:lenV v=some ts.length:=by rcases h with⟨rfl,rfl⟩|⟨r,_,_,_,rfl|rfl⟩<;>rfl
 have hap:apP e z B v y S=qew e z m.length v y S:=by
  have hmx:(ts.length+m.length)*(B+z+1)<qbi:=by
   have:(ts.length+m.length)*(B+z+1)<=3000*1001:=Nat.mul_le_mul hl (by omega);unfold qbi; omega
  unfold apP;rw[y1,oB,hlen,oB,blt_true.2 hmx,cT]
 have hfit:z*(ts++m).length<big:=by
  have:z*(ts.length+m.length)<=1000*3000:=Nat.mul_le_mul (by omega) hl;rw[lAq]; unfold big; omega
 rw[hap];unfold qew;rw[y2,oB];rcases Nat.eq_zero_or_pos m.length with hm|hm
 . have hme:m=[]:=List.eq_nil_of_length_eq_zero hm
   subst hme;refine⟨v,S,?_,by rw[List.append_nil]; exact h,Grew.refl _ _,fun r hr=>.inl hr,rfl⟩;rcases h with⟨rfl,rfl⟩|⟨r,h1,h2,h3,rfl|rfl⟩
   . rfl
   . simp only[List.length_nil,Nat.add_zero,Nat.beq_refl,cT,Nat.zero_add]
     rw[qlp ho h1,oB];simp only;rw[ble_true.2 (show ts.length*z<=z*ts.length by rw[Nat.mul_comm]; exact lR _),cT]; rfl
   . simp only[List.length_nil,Nat.add_zero]
     rw[ble_true.2 (lR _),cT]; rfl
 . rcases h with⟨rfl,rfl⟩|⟨r,h1,h2,h3,rfl|rfl⟩
   . refine⟨.oslice S.next 0 m.length z,qag S e z m,?_,.inr ⟨S.next,by rw[List.nil_append]; exact qgs ho h0 (by simpa using hfit),by show S.next<S.next+1; omega,by simpa using hm,.inl (by rw[List.nil_append])⟩,(qcq ho _ _),fun r hr=>by cases hr; exact .inr (lR _),nw_log ho _⟩
     simp only;rw[show Nat.beq m.length 0=false from beq_false.2 (by omega),cF]
   . obtain⟨c,hc1,hc2⟩:=h1.row
     have hf1:=h1.fit;refine⟨.oslice S.next 0 (ts++m).length z,nw (S.put r .dead) (.cells e z (ts.length+m.length) false (Ev.addL c m ts.length)),?_,.inr ⟨S.next,?_,by show S.next<S.next+1; omega,by rw[lAq]; omega,.inl rfl⟩,?_,fun x hx=>by cases hx; exact .inr (lR _),nw_log (s:=S.put r .dead) ho _⟩
     . simp only[Nat.beq_refl,cT,Nat.zero_add]
       rw[qlp ho h1,oB];simp only
       rw[show Nat.ble ((ts.length+m.length)*z) (z*ts.length)=false from by
        rw[qo9,Nat.add_mul,Nat.mul_comm z];have:0<m.length*z:=Nat.mul_pos hm h0
        omega,cF]
       unfold qk4;rw[hc1];simp only[Nat.beq_refl,Bool.not_true,Bool.or_self,cF,show Nat.beq 0 0=true from rfl,blt_true.2 hf1,Bool.and_self,cT];rw[qdl,lAq];unfold setO;rw[qb3 ho]
     . refine qje (s:=S.put r .dead) ho h0 (by rw[lAq]) (by rw[lAq]at hfit; exact hfit) fun i t hi=>?_
       rw[Ev.addL_get];have hlt:=(List.getElem?_eq_some_iff.1 hi).1;rw[lAq]at hlt;by_cases hc:ts.length<=i
       . rw[iP ⟨hc,hlt⟩]
         rw[List.getElem?_append_right hc]at hi;exact hi
       . rw[iN (fun h=>hc h.1)]
         rw[List.getElem?_append_left (by omega)]at hi;exact hc2 i t hi
     . exact⟨by show S.next<=S.next+1; omega,(qpe (s:=S.put r .dead) ho _).trans ho.symm,fun x hx hw=>by
        rw[qfw,iN (by show x≠S.next; omega),qc4,iN (fun q=>hw (by rw[q]; rfl))]⟩
   . have hld:=RowAt.all ho h1 0 ts.length (by omega)
     rw[Nat.zero_mul,List.drop_zero,List.take_of_length_le (lR _)]at hld;refine⟨.oslice S.next 0 (ts++m).length z,qag S e z (ts++m),?_,.inr ⟨S.next,qgs ho h0 hfit,by show S.next<S.next+1; omega,by rw[lAq]; omega,.inl rfl⟩,(qcq ho _ _),fun r hr=>by cases hr; exact .inr (lR _),nw_log ho _⟩;simp only;rw[show Nat.ble (ts.length+m.length) ts.length=false from by rw[qo9]; omega,cF,show qbv z ts.length (.slice r 0 ts.length ts.length) S=_ from hld,oB];simp only;rw[lAq]
theorem bs_struct (ho:S.on=false) (e z:Nat) (zt:Tr V) (l:List V) (hl:l.length=z) (h0:0<z) (hz:z<1000):∃y T,bsP e z 1 zt [(0,qbz l)] S=some (y,T)/\PV T z y [Tr.ofListFrom .nil l 0]/\Grew (fun _=>False) S T/\T.next=S.next+1/\T.log=S.log:=by
 have hrow:RowAt (nw S (.cells e z 1 false ((Tr.tab 1 1 fun _=>zt).set (Tr.ofListFrom .nil l 0) 0))) S.next e z [Tr.ofListFrom .nil l 0]:=by
  refine qje ho h0 rfl (by unfold big; omega) fun i t h=>?_;rw[Tr.get_set];cases i with
  | zero=>simpa using h
  | succ i=>simp at h
 have hg:Grew (fun _=>False) S (nw S (.cells e z 1 false ((Tr.tab 1 1 fun _=>zt).set (Tr.ofListFrom .nil l 0) 0))):=qcq ho _ _;refine⟨.slice S.next 0 1 1,_,?_,RowAt.pv (hg.on.trans ho) hrow 1,hg,rfl,nw_log ho _⟩;unfold bsP qjl qjl;simp only[qbz,V.size,qai,V.cells,hl,Nat.beq_refl,nF,Bool.and_true,show Nat.blt 0 1=true from rfl,cT,Tr.setC_eq,oB]
end
theorem lg_of {α:Type} {S U:St} {f:St->Option (α×St)} (h:Lg.LocP f) {a:α} (hf:f S=some (a,U)) (l:List LE):∃l',f (S.lg l)=some (a,U.lg l'):=by
 obtain⟨_,h2⟩:=h S (a,U) hf;obtain⟨t',h3,h4,h5⟩:=h2 (S.lg l) ⟨rfl,rfl⟩;refine⟨t'.log,h3.trans ?_⟩;obtain⟨hp,nx,on,lg⟩:=t';obtain⟨k1,k2⟩:=h4;simp only at k1 k2 h5;have h5':on=true:=h5;subst h5'; subst k1; subst k2;rfl
theorem lg_apP (e z B:Nat) (x y:V):Lg.LocP fun s=>apP e z B x y s:=by
 unfold apP;exact Lg.Loc.opt fun n=>Lg.Loc.opt fun m=>Lg.Loc.cond (Lg.loc_appendV _ _ _ _ _) Lg.Loc.none
theorem chain3 (a b c:Int):qcf [a,b,c]=if a=0 then(if b=0 then c else b)else a:=by
 unfold qcf qcf qcf qcf;by_cases ha:a=0
 . rw[iP ha,iP ha]
   by_cases hb:b=0
   . rw[iP hb,iP hb]
     by_cases hc:c=0
     . rw[iP hc,hc]
     . rw[iN hc]
   . rw[iN hb,iN hb]
 . rw[iN ha,iN ha]
section
variable {S U:St} {rb:Nat} {vL vE:V} {R:RT}
theorem row_bx {b e e' z:Nat} {l:List (Tr V)} {m:List V} (h:RowAt S b e z l) (h':Bx S b e' m):e=e':=by
 obtain⟨c,h1,_⟩:=h.row;have h2:S.heap.get b=some _:=h';rw[h1]at h2;simp only[oS,O.cells.injEq]at h2;exact h2.1
theorem RV.blk {v:V} {e z:Nat} {ts:List (Tr V)} (h:RV S v e z ts) {r:Nat} (hr:qel v=some r):RowAt S r e z ts/\r<S.next:=by
 rcases h with⟨_,rfl⟩|⟨r',h1,h2,h3,rfl|rfl⟩
 . cases hr
 . cases hr; exact⟨h1,h2⟩
 . cases hr; exact⟨h1,h2⟩
def ROwn (rb:Nat) (vL vE:V) (x:Nat):Prop:=x=rb\/qel vL=some x\/qel vE=some x
structure RAft (S U:St) (rb:Nat) (vL vE vL' vE':V) (R':RT):Prop where
 at':RAt U rb vL' vE' R'
 gr:Grew (ROwn rb vL vE) S U
 own:∀x,ROwn rb vL' vE' x->ROwn rb vL vE x\/S.next<=x
theorem RAft.none (h:RAt S rb vL vE R) (g:Grew (fun _=>False) S U):RAft S U rb vL vE vL vE R:=⟨h.grew0 g,g.mono fun _ _ h=>h.elim,fun _ h=>.inl h⟩
theorem RAft.pre {A:St} {vL' vE':V} {R':RT} (h:RAft A U rb vL vE vL' vE' R') (g:Grew (fun _=>False) S A):RAft S U rb vL vE vL' vE' R':=
 ⟨h.at',(g.mono fun _ _ h=>h.elim).trans h.gr,fun x hx=>(h.own x hx).imp_right fun q=>Nat.le_trans g.next q⟩
theorem RAft.trans {A:St} {vL' vE' vL2 vE2:V} {R' R2:RT} (h1:RAft S A rb vL vE vL' vE' R') (h2:RAft A U rb vL' vE' vL2 vE2 R2):RAft S U rb vL vE vL2 vE2 R2:=
 ⟨h2.at',Grew.into h1.gr h2.gr (fun x hx q=>(h1.own x q).resolve_right (by omega)),fun x hx=>by
  rcases h2.own x hx with q|q
  . exact h1.own x q
  . exact .inr (Nat.le_trans h1.gr.next q)⟩
theorem RAt.apart (h:RAt S rb vL vE R) {x:Nat} (hL:qel vL=some x):x≠rb/\qel vE≠some x:=by
 have hr:=(h.L.blk hL).1;refine⟨fun e=>?_,fun e=>?_⟩
 . subst e; exact absurd (row_bx hr h.bx) (by decide)
 . exact absurd (row_ne hr (h.E.blk e).1) (by decide)
theorem RAt.apartE (h:RAt S rb vL vE R) {x:Nat} (hE:qel vE=some x):x≠rb/\qel vL≠some x:=by
 have hr:=(h.E.blk hE).1;refine⟨fun e=>?_,fun e=>absurd hE (h.apart e).2⟩;subst e; exact absurd (row_bx hr h.bx) (by decide)
theorem RAt.putE (ho:S.on=false) {qi qb:Int} {v0 v':V} {L:List RIno} {E:List REnt} (hb:Bx S rb 86 [.int .i64 qi,.int .i64 qb,vL,v0]) (hlt:rb<S.next) (hL:RV S vL 35 4 (qg8 L)) (hE:RV S v' 98 3 (qke E)) :
 ∃U,stP 1 (.ptr rb 3) v' S=some (.tuple [],U)/\RAt U rb vL v' ⟨qi,qb,L,E⟩/\Grew (fun x=>x=rb) S U/\U.next=S.next/\U.log=S.log:=by
 have hne:∀{v:V} {e z:Nat} {ts:List (Tr V)},e≠86->RV S v e z ts->∀r,qel v=some r->¬r=rb:=fun{v e z ts} he hv r hr q=>by
  subst q; exact he (row_bx (hv.blk hr).1 hb)
 refine⟨_,qof ho hb rfl (m:=[.int .i64 qi,.int .i64 qb,vL,v']) rfl (i:=3) (by show 3<4; omega) (by show 1<4; omega) qi6 (set4_3 _ _ _ _ v') hE.oneV,⟨ho,qi8 _ _ _,hL.grew (hne (by decide) hL) (qan _ _),hE.grew (hne (by decide) hE) (qan _ _),hlt⟩,qan _ _,rfl,rfl⟩
theorem RAt.putL (ho:S.on=false) {qi qb:Int} {v0 v':V} {L:List RIno} {E:List REnt} (hb:Bx S rb 86 [.int .i64 qi,.int .i64 qb,v0,vE]) (hlt:rb<S.next) (hL:RV S v' 35 4 (qg8 L)) (hE:RV S vE 98 3 (qke E)) :
 ∃U,stP 1 (.ptr rb 2) v' S=some (.tuple [],U)/\RAt U rb v' vE ⟨qi,qb,L,E⟩/\Grew (fun x=>x=rb) S U/\U.next=S.next/\U.log=S.log:=by
 have hne:∀{v:V} {e z:Nat} {ts:List (Tr V)},e≠86->RV S v e z ts->∀r,qel v=some r->¬r=rb:=fun{v e z ts} he hv r hr q=>by
  subst q; exact he (row_bx (hv.blk hr).1 hb)
 refine⟨_,qof ho hb rfl (m:=[.int .i64 qi,.int .i64 qb,v',vE]) rfl (i:=2) (by show 2<4; omega) (by show 1<4; omega) qi6 (set4_2 _ _ _ _ v') hL.oneV,⟨ho,qi8 _ _ _,hL.grew (hne (by decide) hL) (qan _ _),hE.grew (hne (by decide) hE) (qan _ _),hlt⟩,qan _ _,rfl,rfl⟩
theorem rowRE_push (E:List REnt) (e:REnt):qke (E++[e])=qke E++[e.tree]:=by unfold qke; rw[List.map_append]; rfl
theorem rowRI_push (E:List RIno) (e:RIno):qg8 (E++[e])=qg8 E++[e.tree]:=by unfold qg8; rw[List.map_append]; rfl
theorem RAt.pushE (h:RAt S rb vL vE R) (hf:Fw R) (e:REnt) (zt:Tr V):∃y T1 v' T2 U,bsP 98 3 1 zt [(0,qbz e.cells)] S=some (y,T1)/\apP 98 3 32 vE y T1=some (v',T2)/\stP 1 (.ptr rb 3) v' T2=some (.tuple [],U)/\RAft S U rb vL vE vL v' {R with E:=R.E++[e]}/\T1.on=false/\T2.on=false/\U.log=S.log:=by
 obtain⟨y,T1,a1,a2,a3,a4,a5⟩:=bs_struct h.on 98 3 zt e.cells rfl (by omega) (by omega);have h1:=h.grew0 a3;obtain⟨v',T2,b1,b2,b3,b4,b5⟩:=h1.E.cat h1.on (by omega) a2 (by have:=hf.e; rw[qg2]; simp; omega) (B:=32) (by omega);have hb:Bx T2 rb 86 [.int .i64 R.qi,.int .i64 R.qb,vL,vE]:=h1.bx.grew h1.lt (fun q=>(h1.apartE q).1 rfl) b3;have hL:RV T2 vL 35 4 (qg8 R.L):=h1.L.grew (fun r hr q=>(h1.apart hr).2 q) b3;obtain⟨U,c1,c2,c3,c4,c5⟩:=RAt.putE (E:=R.E++[e]) (b3.on.trans h1.on) hb (Nat.lt_of_lt_of_le h1.lt b3.next) hL (by rw[rowRE_push]; exact b2);refine⟨y,T1,v',T2,U,a1,b1,c1,⟨c2,?_,fun x hx=>?_⟩,h1.on,b3.on.trans h1.on,c5.trans (b5.trans a5)⟩
 . exact((a3.mono fun _ _ h=>h.elim).trans (b3.mono fun x _ q=>.inr (.inr q))).trans (c3.mono fun x _ q=>.inl q)
 . rcases hx with q|q|q
   . exact .inl (.inl q)
   . exact .inl (.inr (.inl q))
   . rcases b4 x q with q|q
     . exact .inl (.inr (.inr q))
     . exact .inr (by omega)
theorem build98 (d i:Int) (a:Bs):qb9 E0 98 [(0,.int .i64 d),(1,sv a),(2,.int .i64 i)]=some (qbz (REnt.mk d a i).cells):=by kernel_rfl
theorem rd42 {n:Nat} {args:List V} {s:St} {r:En×St} (e:qb6 E0 (ev E0 KD n) qa4 Try.f42 B42 args s=some r):(ev E0 KD (n+1)).f 42 args s=some r:=qaa (c:=C42) (d:=B42) (by kernel_rfl) (by kernel_rfl) (qa5 C42 _ (by kernel_rfl)) rfl e
theorem rd45 {n:Nat} {args:List V} {s:St} {r:En×St} (e:qb6 E0 (ev E0 KD n) qa4 Try.f45 B45 args s=some r):(ev E0 KD (n+1)).f 45 args s=some r:=qaa (c:=C45) (d:=B45) (by kernel_rfl) (by kernel_rfl) (qa5 C45 _ (by kernel_rfl)) rfl e
theorem rd47 {n:Nat} {args:List V} {s:St} {r:En×St} (e:qb6 E0 (ev E0 KD n) qa4 Try.f47 B47 args s=some r):(ev E0 KD (n+1)).f 47 args s=some r:=qaa (c:=C47) (d:=B47) (by kernel_rfl) (by kernel_rfl) (qa5 C47 _ (by kernel_rfl)) rfl e
def RT.freeE (R:RT) (d:Int) (a:Bs):Int:=if(R.find d a).isSome then 6 else 0
def RT.linkE (R:RT) (d:Int) (a:Bs) (i:Int):Int:=qcf [R.placeE d a,R.fileE i,R.freeE d a]
def RT.link (R:RT) (d:Int) (a:Bs) (i:Int):RT:=if R.linkE d a i=0 then{R with E:=R.E++[⟨d,a,i⟩]}else R
theorem rlink_run (h:RAt S rb vL vE R) (hf:Fw R) (m:Nat) (d i:Int) (a:Bs) (ha:a.length<9223372036854775808):∃U vE',(ev E0 KD (m+4)).f 42 [.ptr rb 0,.int .i64 d,sv a,.int .i64 i] S=some (.ret (.int .i64 (R.linkE d a i)),U)/\RAft S U rb vL vE vL vE' (R.link d a i):=by
 have stop:∀{e:Int},R.linkE d a i=e->e≠0->F42 (ev E0 KD (m+3)) qa4 (.ptr rb 0) (.int .i64 d) (sv a) (.int .i64 i) S=some (.ret (.int .i64 e),S)->∃U vE',(ev E0 KD (m+4)).f 42 [.ptr rb 0,.int .i64 d,sv a,.int .i64 i] S=some (.ret (.int .i64 (R.linkE d a i)),U)/\RAft S U rb vL vE vL vE' (R.link d a i):=fun he h0 hF=>by
  refine⟨S,vE,by rw[he]; exact rd42 hF,?_⟩;unfold RT.link;rw[iN (by rw[he]; exact h0)];exact RAft.none h (Grew.refl _ _)
 have hE:R.linkE d a i=if R.placeE d a=0 then(if R.fileE i=0 then R.freeE d a else R.fileE i)else R.placeE d a:=chain3 _ _ _
 by_cases h1:R.placeE d a=0
 . rw[iP h1]at hE
   by_cases h2:R.fileE i=0
   . rw[iP h2]at hE
     have head:∀Q,(qah ((ev E0 KD (m+3)).f 69 [.ptr rb 0,.int .i64 d,sv a] S) fun t19 S19=>
      (qa6 E0 .geq 3 false true t19 (.int .i64 0)).bind fun t20=>
      ifK t20 (
      some (.ret (.int .i64 6),S19)) (
      (qa2 (.ptr rb 0)).bind fun t24=>
      (faP 3 false 1 t24).bind fun t25=>
      (ld1 t25 S19).bind fun p26=>
      (qb9 E0 98 [(0,.int .i64 d),(1,sv a),(2,.int .i64 i)]).bind fun t30=>
      (bsP 98 3 1 (Tr.ofListFrom .nil [(.int .i64 0),(sv []),(.int .i64 0)] 0) [(0,t30)] p26.2).bind fun p31=>
      (apP 98 3 32 p26.1 p31.1 p31.2).bind fun p32=>
      (qa2 (.ptr rb 0)).bind fun t33=>
      (faP 3 false 1 t33).bind fun t34=>
      (stP 1 t34 p32.1 p32.2).bind fun p35=>
      some (.ret (.int .i64 0),p35.2)))=Q->F42 (ev E0 KD (m+3)) qa4 (.ptr rb 0) (.int .i64 d) (sv a) (.int .i64 i) S=Q:=fun Q hQ=>by
      rw[F42_eq,qed h hf m d a ha,callP_ret,qbl,h1,dT rfl,oB,ifK_bool,cT,ql1 h hf (m+1) i,callP_ret,h2,qna,dT rfl,oB,Bool.not_true,ifK_bool,cF];exact hQ
     cases hg:R.find d a with
     | some j=>
      obtain⟨k,hk,k1,_⟩:=qfr hg;refine stop (e:=6) (by rw[hE]; unfold RT.freeE; rw[hg]; rfl) (by decide) (head _ ?_);rw[qcb h hf.e,callP_ret,k1,geqI,dT (by omega),oB,ifK_bool,cT]
     | none=>
      have h0:R.linkE d a i=0:=by rw[hE]; unfold RT.freeE; rw[hg]; rfl
      obtain⟨y,T1,v',T2,U,a1,a2,a3,a4,_⟩:=h.pushE hf ⟨d,a,i⟩ (Tr.ofListFrom .nil [(.int .i64 0),(sv []),(.int .i64 0)] 0);refine⟨U,v',?_,by unfold RT.link; rw[iP h0]; exact a4⟩;rw[h0];refine rd42 (head _ ?_);rw[qcb h hf.e,callP_ret,qfq hg,geqI,dF (by omega),oB,ifK_bool,cF,qc5,oB,qax,oB,Nat.zero_add,h.ldE,oB];dsimp only;rw[build98,oB,a1,oB];dsimp only;rw[a2,oB,oB,qax,oB,Nat.zero_add];dsimp only;rw[a3,oB]
   . rw[iN h2]at hE
     refine stop hE h2 ?_;rw[F42_eq,qed h hf m d a ha,callP_ret,qbl,h1,dT rfl,oB,ifK_bool,cT,ql1 h hf (m+1) i,callP_ret,qna,dF h2];rfl
 . rw[iN h1]at hE
   refine stop hE h1 ?_;rw[F42_eq,qed h hf m d a ha,callP_ret,qbl,dF h1,oB,ifK_bool,cF,qna,dF h1];rfl
theorem RAt.setI (h:RAt S rb vL vE R) {i:Nat} (hi:i<R.L.length) {k:Nat} (hk:k<4) {v:V} (hv:OneV v) {x:RIno} (hx:R.L[i].tree.set v k=x.tree):∃r U,ixP 4 vL (.int .i64 (i:Int))=some (.ptr r (i*4))/\stP 1 (.ptr r (i*4+k)) v S=some (.tuple [],U)/\RAft S U rb vL vE vL vE {R with L:=R.L.set i x}:=by
 obtain⟨r,q0,q1,q2,q3⟩:=h.L.at (i:=i) (by rw[qd1]; exact hi)
 obtain⟨U,u1,u2,u3,u4⟩:=row_stf h.on q2 (qq0 hi) hk (by omega) hv;have hap:=h.apart q0;refine⟨r,U,q1,u1,⟨u3.on.trans h.on,h.bx.grew h.lt (fun e=>hap.1 e.symm) u3,?_,h.E.grew (fun r' hr' e=>hap.2 (by subst e; exact hr')) u3,by rw[u4]; exact h.lt⟩,u3.mono fun y _ e=>by subst e; exact .inr (.inl q0),fun y hy=>.inl hy⟩;have hrow:qg8 (R.L.set i x)=(qg8 R.L).set i (R.L[i].tree.set v k):=by unfold qg8; rw[List.map_set,hx]
 rw[<- hrow]at u2;rcases h.L with⟨h1,h2⟩|⟨r',h1,h2,h3,h4⟩
 . rw[h2]at q0; cases q0
 . have hrr:r'=r:=by
    rcases h4 with h4|h4<;>(rw[h4]at q0; exact Option.some.inj q0)
   subst hrr;have hlen:(qg8 (R.L.set i x)).length=(qg8 R.L).length:=by rw[qd1,qd1,List.length_set]
   exact .inr ⟨r',u2,by rw[u4]; exact h2,by rw[hlen]; exact h3,by rw[hlen]; exact h4⟩
theorem ino_tset1 (x:RIno) (v:Int):x.tree.set (.int .i64 v) 1=({x with mode:=v}:RIno).tree:=set4_1 _ _ _ _ _
theorem ino_tset2 (x:RIno) (v:Bs):x.tree.set (sv v) 2=({x with data:=v}:RIno).tree:=set4_2 _ _ _ _ _
theorem RT.kind_some {i:Int} (hk:R.kind i≠0):1<=i/\∃hi:(i-1).toNat<R.L.length,R.L[(i-1).toNat].kind=R.kind i:=by
 have h1:1<=i:=by
  rcases Int.lt_or_le i 1 with q|q
  . exact absurd (RT.kind_lo q) hk
  . exact q
 have hil:(i-1).toNat<R.L.length:=by
  rcases Int.lt_or_le (R.L.length:Int) i with q|q
  . exact absurd (RT.kind_hi q) hk
  . omega
 exact⟨h1,hil,(RT.kind_at h1 hil).symm⟩
def RT.chmodE (R:RT) (i mode:Int):Int:=if 0<=mode/\mode<=511 then(if R.kind i=0 then 5 else 0)else 2
def RT.upd (R:RT) (i:Int) (f:RIno->RIno):RT:=match R.L[(i-1).toNat]? with
 | some x=>{R with L:=R.L.set (i-1).toNat (f x)}
 | none=>R
theorem RT.upd_at {i:Int} {f:RIno->RIno} (hi:(i-1).toNat<R.L.length):R.upd i f={R with L:=R.L.set (i-1).toNat (f R.L[(i-1).toNat])}:=by
 unfold RT.upd;rw[List.getElem?_eq_getElem hi]
def RT.chmod (R:RT) (i mode:Int):RT:=if R.chmodE i mode=0 then R.upd i fun x=>{x with mode:=mode}else R
theorem rchmod_run (h:RAt S rb vL vE R) (hf:Fw R) (m:Nat) (i mode:Int):∃U,(ev E0 KD (m+2)).f 47 [.ptr rb 0,.int .i64 i,.int .i64 mode] S=some (.ret (.int .i64 (R.chmodE i mode)),U)/\RAft S U rb vL vE vL vE (R.chmod i mode):=by
 have stop:∀{e:Int},R.chmodE i mode=e->e≠0->F47 (ev E0 KD (m+1)) qa4 (.ptr rb 0) (.int .i64 i) (.int .i64 mode) S=some (.ret (.int .i64 e),S)->∃U,(ev E0 KD (m+2)).f 47 [.ptr rb 0,.int .i64 i,.int .i64 mode] S=some (.ret (.int .i64 (R.chmodE i mode)),U)/\RAft S U rb vL vE vL vE (R.chmod i mode):=fun he h0 hF=>by
  refine⟨S,by rw[he]; exact rd47 hF,?_⟩;unfold RT.chmod;rw[iN (by rw[he]; exact h0)];exact RAft.none h (Grew.refl _ _)
 by_cases hm:0<=mode/\mode<=511
 . have head:∀Q,(qah ((ev E0 KD (m+1)).f 76 [.ptr rb 0,.int .i64 i] S) fun t10 S10=>
    (qa6 E0 .eql 3 false true t10 (.int .i64 0)).bind fun t11=>
    ifK t11 (
    some (.ret (.int .i64 5),S10)) (
    (qa2 (.ptr rb 0)).bind fun t14=>
    (faP 2 false 1 t14).bind fun t15=>
    (ld1 t15 S10).bind fun p16=>
    (qa6 E0 .sub 3 false true (.int .i64 i) (.int .i64 1)).bind fun t18=>
    (ixP 4 p16.1 t18).bind fun t20=>
    (faP 1 false 1 t20).bind fun t21=>
    (stP 1 t21 (.int .i64 mode) p16.2).bind fun p22=>
    some (.ret (.int .i64 0),p22.2)))=Q->F47 (ev E0 KD (m+1)) qa4 (.ptr rb 0) (.int .i64 i) (.int .i64 mode) S=Q:=fun Q hQ=>by
    rw[F47_eq,qjc,dF (by omega),oB];simp only[gFF,oB,cT];rw[qm3,dF (by omega),oB,pickV_bool,cF,oB,ifK_bool,cF];exact hQ
   by_cases hk:R.kind i=0
   . refine stop (e:=5) (by unfold RT.chmodE; rw[iP hm,iP hk]) (by decide) (head _ ?_)
     rw[qgb h hf.l,callP_ret,qbl,dT hk,oB,ifK_bool,cT]
   . obtain⟨h1,hi,hki⟩:=RT.kind_some hk
     have h0:R.chmodE i mode=0:=by unfold RT.chmodE; rw[iP hm,iN hk]
     obtain⟨r,U,q1,q2,q3⟩:=h.setI hi (k:=1) (by omega) (qb4 .i64 mode) (ino_tset1 _ mode);have hfl:=hf.l;refine⟨U,?_,by unfold RT.chmod; rw[iP h0,RT.upd_at hi]; exact q3⟩;rw[h0];refine rd47 (head _ ?_);rw[qgb h hf.l,callP_ret,qbl,dF hk,oB,ifK_bool,cF,qc5,oB,qax,oB,Nat.zero_add,h.ldL,oB];dsimp only;rw[sub1 h1 (by omega),oB,q1,oB,qax,oB,q2,oB]
 . refine stop (e:=2) (by unfold RT.chmodE; rw[iN hm]) (by decide) ?_
   rw[F47_eq,qjc,oB];by_cases hlo:mode<0
   . rw[dT hlo]
     simp only[gFT,oB,cF,pickV_bool,cT,ifK_bool]
   . rw[dF hlo]
     simp only[gFF,oB,cT];rw[qm3,dT (by omega),oB,pickV_bool,cF,oB,ifK_bool,cT]
def RT.dataOf (R:RT) (i:Int):Bs:=match R.L[(i-1).toNat]? with|some x=>x.data|none=>[]
def RT.roomE (R:RT) (n k:Int):Int:=if R.roomB n k then 0 else 10
def RT.writeE (R:RT) (i:Int) (data:Bs):Int:=if R.fileE i=0 then R.roomE 0 ((data.length:Int)-((R.dataOf i).length:Int))else R.fileE i
def RT.write (R:RT) (i:Int) (data:Bs):RT:=if R.writeE i data=0 then R.upd i fun x=>{x with data:=data}else R
theorem fileE_kind {i:Int} (h:R.fileE i=0):R.kind i≠0:=fun e=>by
 unfold RT.fileE at h;rw[iP e]at h; cases h
theorem rwrite_run (h:RAt S rb vL vE R) (hf:Fw R) (hs:qkm R.L) (m:Nat) (i:Int) (data:Bs) (hd:data.length<=1000):∃U,(ev E0 KD (m+3)).f 45 [.ptr rb 0,.int .i64 i,sv data] S=some (.ret (.int .i64 (R.writeE i data)),U)/\RAft S U rb vL vE vL vE (R.write i data):=by
 by_cases h0:R.fileE i=0
 . have hkk:=fileE_kind h0
   obtain⟨h1,hi,_⟩:=RT.kind_some hkk;have hfl:=hf.l;have hdo:R.dataOf i=R.L[(i-1).toNat].data:=by unfold RT.dataOf; rw[List.getElem?_eq_getElem hi]
   have hds:=hs _ (List.getElem_mem hi);obtain⟨r,q1,q2⟩:=h.ino hi;have f2:=q2 2 (sv R.L[(i-1).toNat].data) rfl;have hd1:-1000000<=(data.length:Int)-((R.dataOf i).length:Int)/\(data.length:Int)-((R.dataOf i).length:Int)<=1000000:=by rw[hdo]; omega
   obtain⟨U1,u1,u2⟩:=roomV_run h hf hs m 0 ((data.length:Int)-((R.dataOf i).length:Int)) (by omega) hd1;have hU:=h.grew0 u2;have hw:R.writeE i data=R.roomE 0 ((data.length:Int)-((R.dataOf i).length:Int)):=by unfold RT.writeE; rw[iP h0]
   have head:∀Q,((unV .not (.bool (R.roomB 0 ((data.length:Int)-((R.dataOf i).length:Int))))).bind fun t24=>
    ifK t24 (
    some (.ret (.int .i64 10),U1)) (
    (qa2 (.ptr rb 0)).bind fun t27=>
    (faP 2 false 1 t27).bind fun t28=>
    (ld1 t28 U1).bind fun p29=>
    (qa6 E0 .sub 3 false true (.int .i64 i) (.int .i64 1)).bind fun t31=>
    (ixP 4 p29.1 t31).bind fun t33=>
    (faP 2 false 1 t33).bind fun t34=>
    (stP 1 t34 (sv data) p29.2).bind fun p35=>
    some (.ret (.int .i64 0),p35.2)))=Q->F45 (ev E0 KD (m+2)) qa4 (.ptr rb 0) (.int .i64 i) (sv data) S=Q:=fun Q hQ=>by
    rw[F45_eq,ql1 h hf m i,callP_ret,h0,qna,dT rfl,oB,Bool.not_true,ifK_bool,cF,lnStr_sv,oB];dsimp only;rw[qc5,oB,qax,oB,Nat.zero_add,h.ldL,oB];dsimp only;rw[sub1 h1 (by omega),oB,q1,oB,qax,oB,f2,oB];dsimp only;rw[lnStr_sv,oB];dsimp only;rw[subI _ _ _ _ _ (by unfold qaj; omega) (by unfold qaj; omega),oB,<- hdo,u1,callP_ret];rw[qc5,sub1 h1 (by omega)]at hQ;exact hQ
   cases hb:R.roomB 0 ((data.length:Int)-((R.dataOf i).length:Int))with
   | false=>
    have he:R.writeE i data=10:=by rw[hw]; unfold RT.roomE; rw[hb]; rfl
    refine⟨U1,by rw[he]; exact rd45 (head _ (by rw[hb]; rfl)),?_⟩;unfold RT.write;rw[iN (by rw[he]; decide)];exact RAft.none h u2
   | true=>
    have he:R.writeE i data=0:=by rw[hw]; unfold RT.roomE; rw[hb]; rfl
    obtain⟨r',U,q1',q2',q3'⟩:=hU.setI hi (k:=2) (by omega) (qfx data) (ino_tset2 _ data);refine⟨U,?_,by unfold RT.write; rw[iP he,RT.upd_at hi]; exact q3'.pre u2⟩;rw[he];refine rd45 (head _ ?_);rw[hb,show unV .not (V.bool true)=some (.bool false)from rfl,oB,ifK_bool,cF,qc5,oB,qax,oB,Nat.zero_add,hU.ldL,oB];dsimp only;rw[sub1 h1 (by omega),oB,q1',oB,qax,oB,q2',oB]
 . have he:R.writeE i data=R.fileE i:=by unfold RT.writeE; rw[iN h0]
   refine⟨S,by rw[he]; exact rd45 (by
    show F45 (ev E0 KD (m+2)) qa4 (.ptr rb 0) (.int .i64 i) (sv data) S=_
    rw[F45_eq,ql1 h hf m i,callP_ret,qna,dF h0]; rfl),?_⟩
   unfold RT.write;rw[iN (by rw[he]; exact h0)];exact RAft.none h (Grew.refl _ _)
end
end Go.Proofs.Ytbihlgcdnhoknaa.W
