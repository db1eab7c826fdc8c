/-
  WHAT THE FUNCTIONS COME TO: each is read by the evaluator,printed,and told as a function of data,part 7 of 12 (no condition).
-/
import Derived.Test.YtachpdpmoihjmaaW6
namespace Go.Proofs.Ytachpdpmoihjmaa.W
open Go.Proofs.Ytachpdpmoihjmaa.Ev
noncomputable def WT:V:=match qau E0 37 []with|some t=>t|none=>.nilptr
theorem build_37:qau E0 37 []=some WT:=by kernel_rfl
noncomputable def qec:V:=.iface 37 WT
theorem qim {K:FuncId->Option KF} (h18:K 18=none) (m:Nat) (q:Bool) (S:St):(ev E0 K (m+1)).f 18 [.bool q] S=some (if q=true then .ret (.tuple [])else .pan qec,S):=by
 cases q with
 | true=>exact must_run h18 m S
 | false=>
  refine qax (c:=C18) (d:=B18) (by kernel_rfl) (by kernel_rfl) (qa7 C18 _ (by kernel_rfl)) h18 (?_:F18 (ev E0 K m) qa3 (.bool false) S=_);rw[F18_eq,unV_not,oB,nF,ifK_bool,cT,build_37,oB];rfl
theorem must_no {K:FuncId->Option KF} (h18:K 18=none) (m:Nat) (S:St):(ev E0 K (m+1)).f 18 [.bool false] S=some (.pan qec,S):=qim h18 m false S
theorem pairsOk_rds {logs:List (List LE)} (h:rds logs=true) (prs:List (Nat×List Nat)):qat logs prs=true:=qjh (fun L hL f hf=>by
 have h1:=List.all_eq_true.1 (List.all_eq_true.1 h L hL) f hf
 simpa using h1) prs
theorem callD_pan {pl:Plan} {s0 s:St} {i:Nat} {logs:List (List LE)} {v:V} {k:V->St->Rs} (h:rds (logs++[s.log])=true) (hp:pinOk i (logs++[s.log]) pl.pls=true) (hst:stays [] pl.pls=true):qi6 pl s0 i logs (some (.pan v,s)) k=some (.pan v,qbf s0 s (logs++[s.log])):=by
 have e:qi6 pl s0 i logs (some (.pan v,s)) k=bif qat (logs++[s.log]) pl.prs&&pinOk i (logs++[s.log]) pl.pls&&stays [] pl.pls then some (.pan v,qbf s0 s (logs++[s.log]))else none:=rfl;rw[e,pairsOk_rds h,hp,hst]; rfl
section
variable {S:St}
theorem L158_spec (self:EV) (N:Nat) (nk:Ac->St->Rs) (ek:Nat->Ac->St->Rs) (v0 v4 v6 v7:V) (x:Nat) (c:UInt8) :
 ∀(d n f:Nat) (tr:Tr V) (p:UInt8->Bool) (S:St),S.on=false->AgAt S x 50 258 tr->Stp tr p 0 0->n+d=c.toNat+1->d<f->
 ∃U tr',L25_158 self N nk ek f v0 (.ptr x 0) v4 v6 v7 (.int .u8 (c.toNat:Int)) (.int .i64 (n:Int)) S=ek 2 (fr 151 [(0,v0),(3,.ptr x 0),(4,v4),(6,v6),(7,v7)]) U/\AgAt U x 50 258 tr'/\Stp tr' (fun y=>decide (n<=y.toNat/\y.toNat<=c.toNat)||p y) 0 0/\Grew (fun y=>y=x) S U
 | d,n,0,tr,p,S,_,_,_,_,hf=>by omega
 | 0,n,f+1,tr,p,S,ho,h,hs,hn,hf=>by
  have hc:=c.toNat_lt;have hw:IntKind.i64.wrap (c.toNat:Int)=(c.toNat:Int):=qap (by omega) (by omega);refine⟨S,tr,?_,h,hs.ext fun y=>?_,Grew.refl _ _⟩
  . rw[L25_158_eq,cvI_int,hw,oB]
    dsimp only;rw[binV_ii,intsV_leq,show decide ((n:Int)<=(c.toNat:Int))=false by rw[decide_eq_false_iff_not]; omega,oB,ifK_bool,cF]
  . rw[dF (by omega),Bool.false_or]
 | d+1,n,f+1,tr,p,S,ho,h,hs,hn,hf=>by
  have hc:=c.toNat_lt;have hw:IntKind.i64.wrap (c.toNat:Int)=(c.toNat:Int):=qap (by omega) (by omega);have hb:=nat_u8 (n:=n) (by omega);obtain⟨S1,t1,a1,a2,a3,a4,a5⟩:=set_st ho h hs (UInt8.ofNat n) true;obtain⟨U,t2,b1,b2,b3,b4⟩:=L158_spec self N nk ek v0 v4 v6 v7 x c d (n+1) f t1 _ S1 (a4.on.trans ho) a2 a3 (by omega) (by omega);refine⟨U,t2,?_,b2,b3.ext fun y=>?_,a4.trans b4⟩
  . have hix:=set_ix x (UInt8.ofNat n) .i64
    rw[hb]at hix a1;rw[L25_158_eq,cvI_int,hw,oB];dsimp only;rw[binV_ii,intsV_leq,show decide ((n:Int)<=(c.toNat:Int))=true by rw[decide_eq_true_eq]; omega,oB,ifK_bool,cT,qcn,oB,qcn,oB,Nat.zero_add,hix,oB,a1,oB];dsimp only;rw[binV_ii,intsV_add,qa5 (by omega),oB,b1]
  . by_cases e:y.toNat=n
    . have:y=UInt8.ofNat n:=UInt8.toNat_inj.1 (by rw[hb]; exact e)
      rw[show(y==UInt8.ofNat n)=true by rw[this]; simp,cT,dT (show n<=y.toNat/\y.toNat<=c.toNat by omega)];simp
    . rw[show(y==UInt8.ofNat n)=false from beq_false_of_ne fun e'=>e (by rw[e',hb]),cF]
      by_cases h1:n+1<=y.toNat/\y.toNat<=c.toNat
      . rw[dT h1,dT (show n<=y.toNat/\y.toNat<=c.toNat by omega)]
      . rw[dF h1,dF (show ¬(n<=y.toNat/\y.toNat<=c.toNat) by omega)]
theorem L192_spec (self:EV) (N:Nat) (nk:Ac->St->Rs) (ek:Nat->Ac->St->Rs) (v0 v4 v6 v7:V) (x:Nat) (c:UInt8) :
 ∀(d n f:Nat) (tr:Tr V) (p:UInt8->Bool) (S:St),S.on=false->AgAt S x 50 258 tr->Stp tr p 0 0->n+d=c.toNat+1->d<f->
 ∃U tr',L25_192 self N nk ek f v0 (.ptr x 0) v4 v6 v7 (.int .u8 (c.toNat:Int)) (.int .i64 (n:Int)) S=ek 2 (fr 151 [(0,v0),(3,.ptr x 0),(4,v4),(6,v6),(7,v7)]) U/\AgAt U x 50 258 tr'/\Stp tr' (fun y=>decide (n<=y.toNat/\y.toNat<=c.toNat)||p y) 0 0/\Grew (fun y=>y=x) S U
 | d,n,0,tr,p,S,_,_,_,_,hf=>by omega
 | 0,n,f+1,tr,p,S,ho,h,hs,hn,hf=>by
  have hc:=c.toNat_lt;have hw:IntKind.i64.wrap (c.toNat:Int)=(c.toNat:Int):=qap (by omega) (by omega);refine⟨S,tr,?_,h,hs.ext fun y=>?_,Grew.refl _ _⟩
  . rw[L25_192_eq,cvI_int,hw,oB]
    dsimp only;rw[binV_ii,intsV_leq,show decide ((n:Int)<=(c.toNat:Int))=false by rw[decide_eq_false_iff_not]; omega,oB,ifK_bool,cF]
  . rw[dF (by omega),Bool.false_or]
 | d+1,n,f+1,tr,p,S,ho,h,hs,hn,hf=>by
  have hc:=c.toNat_lt;have hw:IntKind.i64.wrap (c.toNat:Int)=(c.toNat:Int):=qap (by omega) (by omega);have hb:=nat_u8 (n:=n) (by omega);obtain⟨S1,t1,a1,a2,a3,a4,a5⟩:=set_st ho h hs (UInt8.ofNat n) true;obtain⟨U,t2,b1,b2,b3,b4⟩:=L192_spec self N nk ek v0 v4 v6 v7 x c d (n+1) f t1 _ S1 (a4.on.trans ho) a2 a3 (by omega) (by omega);refine⟨U,t2,?_,b2,b3.ext fun y=>?_,a4.trans b4⟩
  . have hix:=set_ix x (UInt8.ofNat n) .i64
    rw[hb]at hix a1;rw[L25_192_eq,cvI_int,hw,oB];dsimp only;rw[binV_ii,intsV_leq,show decide ((n:Int)<=(c.toNat:Int))=true by rw[decide_eq_true_eq]; omega,oB,ifK_bool,cT,qcn,oB,qcn,oB,Nat.zero_add,hix,oB,a1,oB];dsimp only;rw[binV_ii,intsV_add,qa5 (by omega),oB,b1]
  . by_cases e:y.toNat=n
    . have:y=UInt8.ofNat n:=UInt8.toNat_inj.1 (by rw[hb]; exact e)
      rw[show(y==UInt8.ofNat n)=true by rw[this]; simp,cT,dT (show n<=y.toNat/\y.toNat<=c.toNat by omega)];simp
    . rw[show(y==UInt8.ofNat n)=false from beq_false_of_ne fun e'=>e (by rw[e',hb]),cF]
      by_cases h1:n+1<=y.toNat/\y.toNat<=c.toNat
      . rw[dT h1,dT (show n<=y.toNat/\y.toNat<=c.toNat by omega)]
      . rw[dF h1,dF (show ¬(n<=y.toNat/\y.toNat<=c.toNat) by omega)]
def mnB (body:List UInt8) (j:Nat):Bool:=decide (j+2<body.length)&&body.getD (j+1) 0==45
theorem minus {body:List UInt8} {j:Nat} (hj:j<body.length) (hb:body.length<=300) {α:Type} {K:V×St->V->Option α} :
 ((qa4 E0 .add 3 false true (.int .i64 (j:Int)) (.int .i64 2)).bind fun t112=>
(qbu (sv body) S).bind fun p114=>
(qa4 E0 .lss 3 false false t112 p114.1).bind fun t115=>
(qa1 true t115).bind fun g117=>(bif g117 then some (sv body)else some (.tuple [])).bind fun t117=>
(qa1 true t115).bind fun g118=>(bif g118 then some (.int .i64 (j:Int))else some (.tuple [])).bind fun t118=>
(qa1 true t115).bind fun g119=>(bif g119 then qa4 E0 .add 3 false true t118 (.int .i64 1)else some (.tuple [])).bind fun t119=>
(qa1 true t115).bind fun g120=>(bif g120 then ixS t117 t119 else some (.tuple [])).bind fun t120=>
(qa1 true t115).bind fun g121=>(bif g121 then qa4 E0 .eql 5 false true t120 (.int .u8 45)else some (.tuple [])).bind fun t121=>
(qah t115 (some t121) (some (.bool false))).bind fun t122=>K p114 t122)=K (.int .i64 (body.length:Int),S) (.bool (mnB body j)):=by
 unfold mnB;rw[binV_ii,intsV_add,qap (by omega) (by omega),oB,lnStr_sv,oB];dsimp only;rw[binV_ii,intsV_lss,oB];by_cases h2:j+2<body.length
 . have h1:j+1<body.length:=by omega
   have hw:=qa5 (i:=j) (by omega);rw[show decide ((j:Int)+2<(body.length:Int))=true by rw[decide_eq_true_eq]; omega,dT h2,List.getD_eq_getElem?_getD,List.getElem?_eq_getElem h1];simp only[qaa,oB,cT,binV_ii,intsV_add,hw,qh8 body .i64 (j+1) h1,intsV_eql,qg0 _ 45 45 rfl,pickV_bool,Bool.true_and,Option.getD_some]
 . rw[show decide ((j:Int)+2<(body.length:Int))=false by rw[decide_eq_false_iff_not]; omega,dF h2]
   simp only[qaa,oB,cF,pickV_bool,Bool.false_and]
theorem rng_1 (a:UInt8) (p:UInt8->Bool):rng [a] p=rng [] (unR a a p):=by rw[rng.eq_def,rng.eq_def]
theorem rng_2 (a b:UInt8) (p:UInt8->Bool):rng [a,b] p=rng [b] (unR a a p):=by rw[rng.eq_def,rng.eq_def]
theorem planQ:pinOk 8 [[],[],[],[],[],[],[],[],[]] (qao E0 (B25.r.r.r.r.l.r.r.l.r.r.r.l.r.l.l.r.l.l.r.l.r.l.l).ops).pls=true/\stays [] (qao E0 (B25.r.r.r.r.l.r.r.l.r.r.r.l.r.l.l.r.l.l.r.l.r.l.l).ops).pls=true:=⟨by kernel_rfl,by kernel_rfl⟩
theorem L98_spec {K:FuncId->Option KF} (h18:K 18=none) (m N:Nat) (hN:300<=N) (nk:Ac->St->Rs) (ek:Nat->Ac->St->Rs) (v0 v4:V) {body:List UInt8} (hb:body.length<=300) (x:Nat) :
 ∀(e:Nat) (r:List UInt8) (j f:Nat) (tr:Tr V) (p:UInt8->Bool) (S:St),S.on=false->AgAt S x 50 258 tr->Stp tr p 0 0->body.drop j=r->r.length<=e->e<f->
 (match rng r p with
 | some q=>∃U tr',qe1 (ev E0 K (m+1)) N nk ek f v0 (.ptr x 0) v4 (sv body) (.int .i64 (j:Int)) S=ek 0 (fr 151 [(0,v0),(3,.ptr x 0),(4,v4)]) U/\AgAt U x 50 258 tr'/\Stp tr' q 0 0/\Grew (fun y=>y=x) S U
 | none=>∃U,qe1 (ev E0 K (m+1)) N nk ek f v0 (.ptr x 0) v4 (sv body) (.int .i64 (j:Int)) S=some (.pan qec,U)/\Grew (fun y=>y=x) S U)
 | e,r,j,0,tr,p,S,_,_,_,_,_,hf=>by omega
 | e,[],j,f+1,tr,p,S,ho,h,hs,hr,_,hf=>by
  have hge:=drop_end hr;rw[rng];refine⟨S,tr,?_,h,hs,Grew.refl _ _⟩;rw[L25_98_eq,lnStr_sv,oB];dsimp only;rw[binV_ii,intsV_lss,qed hge,oB,ifK_bool,cF]
 | 0,c::r,j,f+1,tr,p,S,ho,h,hs,hr,he,hf=>by simp at he
 | e+1,c::r,j,f+1,tr,p,S,ho,h,hs,hr,he,hf=>by
  obtain⟨hlt,hc,hd,_⟩:=qg1 hr;have hc8:=c.toNat_lt;have hw:IntKind.i64.wrap (c.toNat:Int)=(c.toNat:Int):=qap (by omega) (by omega);have hlr:r.length<=e:=by simpa using he
  have pre:qe1 (ev E0 K (m+1)) N nk ek (f+1) v0 (.ptr x 0) v4 (sv body) (.int .i64 (j:Int)) S=_:=L25_98_eq (ev E0 K (m+1)) N nk ek f v0 (.ptr x 0) v4 (sv body) (.int .i64 (j:Int)) S;rw[lnStr_sv,oB]at pre;dsimp only at pre;rw[binV_ii,intsV_lss,qee hlt,oB,ifK_bool,cT,qh8 body .i64 j hlt,hc,oB,minus hlt hb,ifK_bool]at pre
  have single:mnB body j=false->(match rng r (unR c c p)with
   | some q=>∃U tr',qe1 (ev E0 K (m+1)) N nk ek (f+1) v0 (.ptr x 0) v4 (sv body) (.int .i64 (j:Int)) S=ek 0 (fr 151 [(0,v0),(3,.ptr x 0),(4,v4)]) U/\AgAt U x 50 258 tr'/\Stp tr' q 0 0/\Grew (fun y=>y=x) S U
   | none=>∃U,qe1 (ev E0 K (m+1)) N nk ek (f+1) v0 (.ptr x 0) v4 (sv body) (.int .i64 (j:Int)) S=some (.pan qec,U)/\Grew (fun y=>y=x) S U):=fun hm=>by
   rw[hm,cF]at pre;obtain⟨S1,t1,a1,a2,a3,a4⟩:=L192_spec (ev E0 K (m+1)) N (ql1 (ev E0 K (m+1)) N (fun a s=>qa6 [0,3,4,6,7] a fun a=>(qba (ev E0 K (m+1)) N (qc2 (ev E0 K (m+1)) N nk ek f) ek) a s) (exB 1 (qba (ev E0 K (m+1)) N (qc2 (ev E0 K (m+1)) N nk ek f) ek) ek)) (exB 2 (ql1 (ev E0 K (m+1)) N (fun a s=>qa6 [0,3,4,6,7] a fun a=>(qba (ev E0 K (m+1)) N (qc2 (ev E0 K (m+1)) N nk ek f) ek) a s) (exB 1 (qba (ev E0 K (m+1)) N (qc2 (ev E0 K (m+1)) N nk ek f) ek) ek)) (exB 1 (qba (ev E0 K (m+1)) N (qc2 (ev E0 K (m+1)) N nk ek f) ek) ek)) v0 v4 (sv body) (.int .i64 (j:Int)) x c 1 c.toNat N tr p S ho h hs rfl (by omega);have ih:=L98_spec h18 m N hN nk ek v0 v4 hb x e r (j+1) f t1 _ S1 (a4.on.trans ho) a2 a3 hd hlr (by omega)
   have step:qe1 (ev E0 K (m+1)) N nk ek (f+1) v0 (.ptr x 0) v4 (sv body) (.int .i64 (j:Int)) S=qe1 (ev E0 K (m+1)) N nk ek f v0 (.ptr x 0) v4 (sv body) (.int .i64 ((j+1:Nat):Int)) S1:=by
    rw[pre,oB];dsimp only;rw[cvI_int,hw,oB];dsimp only;rw[a1,exB_same,R25_171_eq];refine(minus hlt hb).trans ?_;rw[hm,ifK_bool,cF];refine(projQ (qba (ev E0 K (m+1)) N (qc2 (ev E0 K (m+1)) N nk ek f) ek) _ _ _ _ _ S1).trans ?_;rw[R25_103_eq,binV_ii,intsV_add,qa5 (by omega),oB,N25_98_eq]
   rw[step];have hq:(fun y=>decide (c.toNat<=y.toNat/\y.toNat<=c.toNat)||p y)=unR c c p:=rfl;rw[hq]at ih;cases hr:rng r (unR c c p)with
   | some q=>
    rw[hr]at ih;obtain⟨U,t2,b1,b2,b3,b4⟩:=ih;exact⟨U,t2,b1,b2,b3,a4.trans b4⟩
   | none=>
    rw[hr]at ih;obtain⟨U,b1,b2⟩:=ih;exact⟨U,b1,a4.trans b2⟩
  have hlen:body.length=j+(r.length+1):=by
   have:=congrArg List.length hr;rw[List.length_drop,List.length_cons]at this;omega
  match r,hd,hlr,hr,single,hlen with
  | [],hd,hlr,hr,single,hlen=>
   have hm:mnB body j=false:=by unfold mnB; rw[dF (by simp at hlen; omega),Bool.false_and]
   rw[rng_1];exact single hm
  | [d1],hd,hlr,hr,single,hlen=>
   have hm:mnB body j=false:=by unfold mnB; rw[dF (by simp at hlen; omega),Bool.false_and]
   rw[rng_2];exact single hm
  | d1::d2::t,hd,hlr,hr,single,hlen=>
   obtain⟨hlt1,hc1,hd1,_⟩:=qg1 hd;obtain⟨hlt2,hc2,hd2,_⟩:=qg1 hd1;have hg1:body.getD (j+1) 0=d1:=by rw[List.getD_eq_getElem?_getD,List.getElem?_eq_getElem hlt1,hc1]; rfl
   have hmn:mnB body j=(d1==45):=by
    unfold mnB;rw[dT (show j+2<body.length from hlt2),Bool.true_and,hg1]
   rw[rng];by_cases h45:d1=45
   . rw[iP h45]
     have hm:mnB body j=true:=by rw[hmn,h45]; rfl
     rw[hm,cT]at pre;have hd28:=d2.toNat_lt;have hw2:IntKind.i64.wrap ((j:Int)+2)=((j+1+1:Nat):Int):=by rw[qap (by omega) (by omega)]; omega
     rw[oB,binV_ii,intsV_add,hw2,oB,qh8 body .i64 (j+1+1) hlt2,oB,hc2,binV_ii,intsV_leq,oB]at pre;dsimp only at pre;rw[qim h18 m]at pre
     have hcmp:decide ((c.toNat:Int)<=(d2.toNat:Int))=decide (c.toNat<=d2.toNat):=by
      by_cases h':c.toNat<=d2.toNat
      . rw[dT h',dT (by omega)]
      . rw[dF h',dF (by omega)]
     rw[hcmp]at pre;by_cases hle:c.toNat<=d2.toNat
     . rw[dT hle,iP rfl,qbh]at pre
       rw[iP hle];rw[oB,qh8 body .i64 (j+1+1) hlt2,hc2,oB,oB,qam ho,cvI_int,hw,oB]at pre;dsimp only at pre;obtain⟨S1,t1,a1,a2,a3,a4⟩:=L158_spec (ev E0 K (m+1)) N (ql0 (ev E0 K (m+1)) N (fun a s=>qa6 [0,3,4,6,7] a fun a=>(qba (ev E0 K (m+1)) N (qc2 (ev E0 K (m+1)) N nk ek f) ek) a s) (exB 1 (qba (ev E0 K (m+1)) N (qc2 (ev E0 K (m+1)) N nk ek f) ek) ek)) (exB 2 (ql0 (ev E0 K (m+1)) N (fun a s=>qa6 [0,3,4,6,7] a fun a=>(qba (ev E0 K (m+1)) N (qc2 (ev E0 K (m+1)) N nk ek f) ek) a s) (exB 1 (qba (ev E0 K (m+1)) N (qc2 (ev E0 K (m+1)) N nk ek f) ek) ek)) (exB 1 (qba (ev E0 K (m+1)) N (qc2 (ev E0 K (m+1)) N nk ek f) ek) ek)) v0 v4 (sv body) (.int .i64 (j:Int)) x d2 (d2.toNat+1-c.toNat) c.toNat N tr p S ho h hs (by omega) (by omega);have ih:=L98_spec h18 m N hN nk ek v0 v4 hb x e t (j+1+1+1) f t1 _ S1 (a4.on.trans ho) a2 a3 hd2 (by simp at hlr; omega) (by omega)
       have step:qe1 (ev E0 K (m+1)) N nk ek (f+1) v0 (.ptr x 0) v4 (sv body) (.int .i64 (j:Int)) S=qe1 (ev E0 K (m+1)) N nk ek f v0 (.ptr x 0) v4 (sv body) (.int .i64 ((j+1+1+1:Nat):Int)) S1:=by
        rw[pre,a1,exB_same,R25_137_eq];refine(minus hlt hb).trans ?_;rw[hm,ifK_bool,cT,binV_ii,intsV_add,hw2,oB];refine(projQ (qba (ev E0 K (m+1)) N (qc2 (ev E0 K (m+1)) N nk ek f) ek) _ _ _ _ _ S1).trans ?_;rw[R25_103_eq,binV_ii,intsV_add,qa5 (by omega),oB,N25_98_eq]
       rw[step];have hq:(fun y=>decide (c.toNat<=y.toNat/\y.toNat<=d2.toNat)||p y)=unR c d2 p:=rfl;rw[hq]at ih;cases hr:rng t (unR c d2 p)with
       | some q=>
        rw[hr]at ih;obtain⟨U,t2,b1,b2,b3,b4⟩:=ih;exact⟨U,t2,b1,b2,b3,a4.trans b4⟩
       | none=>
        rw[hr]at ih;obtain⟨U,b1,b2⟩:=ih;exact⟨U,b1,a4.trans b2⟩
     . rw[dF hle,iN Bool.false_ne_true]at pre
       rw[iN hle];rw[callD_pan rfl planQ.1 planQ.2,qam ho]at pre;exact⟨S,pre,Grew.refl _ _⟩
   . rw[iN h45]
     exact single (by rw[hmn]; exact beq_false_of_ne h45)
end
section
variable {gr dp:Nat} {S:St} {b N0 i:Nat} {s:List UInt8} {f:Bool} {lv:V} {acc:List (Tr V)}
theorem rest25_run {K:FuncId->Option KF} (h13:K 13=none) (h18:K 18=none) (h31:K 31=none) (h33:K 33=none) (m:Nat) (h:Rdr gr dp S b N0 s i f lv acc) (hl:acc.length<=3000) (hs:s.length<=300) {x:Nat} (hx:AgAt S x 50 258 (TK 0)) (hxn:x<S.next) (hx0:N0<=x) (hxb:x≠b) (hxr:∀r n z c,lv=.oslice r n z c->r≠x) (nt:Bool) :
 match sqB s nt i with
 | some r=>∃T lv' tr,qhh (ev E0 K (m+2)) qa3 (.ptr b 0) (.ptr x 0) (.bool nt) S=some (.ret (.bool false),T)/\Stp tr r.2 0 0/\Rdr gr dp T b N0 s r.1 f lv' (acc++[tr])/\Grew (fun x=>N0<=x) S T
 | none=>∃T,qhh (ev E0 K (m+2)) qa3 (.ptr b 0) (.ptr x 0) (.bool nt) S=some (.pan qec,T)/\Grew (fun x=>N0<=x) S T:=by
 have ho:=h.on;unfold sqB;by_cases hlt:i<s.length
 . -- what it comes to,up to the loop
   have hlen1:(s.drop (i+1)).length<=s.length-(i+1):=by rw[List.length_drop]; exact lR _
   have hq0:-1<=ixB (s.drop (i+1)) 93:=by
    unfold ixB;split<;>omega
   have hqn:ixB (s.drop (i+1)) 93<300:=by
    by_cases h0:0<=ixB (s.drop (i+1)) 93
    . have:=ixB_lt h0
      rw[List.length_drop]at this;omega
    . omega
   have pre:∀(R:Rs),R=qhh (ev E0 K (m+2)) qa3 (.ptr b 0) (.ptr x 0) (.bool nt) S->R=qad (some (if decide ((0:Int)<ixB (s.drop (i+1)) 93+1)=true then .ret (.tuple [])else .pan qec,S)) fun t44 S44=>
(qa2 (.ptr b 0)).bind fun t46=>
(faP 2 false 1 t46).bind fun t47=>
(ld1 t47 (onS S44)).bind fun p48=>
(qa2 (.ptr b 0)).bind fun t50=>
(faP 3 false 1 t50).bind fun t51=>
(ld1 t51 (onS p48.2)).bind fun p52=>
(qa2 (.ptr b 0)).bind fun t54=>
(faP 3 false 1 t54).bind fun t55=>
(ld1 t55 (onS p52.2)).bind fun p56=>
(qa4 E0 .add 3 false false p56.1 (.int .i64 (ixB (s.drop (i+1)) 93+1))).bind fun t58=>
(qbj E0 9 p48.1 (some p52.1) (some t58) none (onS p56.2)).bind fun p59=>
qfq [(3,[7,11]),(7,[11])] S44 [[],[],[],p48.2.log,[],[],[],p52.2.log,[],[],[],p56.2.log,[],[],p59.2.log,[]] (onS p59.2) fun S61=>
(qa2 (.ptr b 0)).bind fun t63=>
(faP 3 false 1 t63).bind fun t64=>
(ld1 t64 S61).bind fun p65=>
(qa4 E0 .add 3 false true (.int .i64 (ixB (s.drop (i+1)) 93+1)) (.int .i64 1)).bind fun t67=>
(qa4 E0 .add 3 false false p65.1 t67).bind fun t68=>
(qa2 (.ptr b 0)).bind fun t69=>
(faP 3 false 1 t69).bind fun t70=>
(stP 1 t70 t68 p65.2).bind fun p71=>
qe1 (ev E0 K (m+2)) qa3 (qfw (ev E0 K (m+2)) qa3 (fun a s=>qa6 [2] a fun a=>(fun a s=>qa6 [2] a fun a=>(qbg E0 (ev E0 K (m+2)) Try.f25) a s) a s) qav) (exB 0 (qfw (ev E0 K (m+2)) qa3 (fun a s=>qa6 [2] a fun a=>(fun a s=>qa6 [2] a fun a=>(qbg E0 (ev E0 K (m+2)) Try.f25) a s) a s) qav) qav) qa3 (.ptr b 0) (.ptr x 0) (.bool nt) p59.1 (.int .i64 0) p71.2:=fun R hR=>by
    rw[hR];unfold qhh;simp only[qg8,qcn,Nat.zero_add,oB];rw[h.o3,oB];dsimp only;rw[qb8,h.o2,oB];dsimp only;rw[qb8,lnStr_sv,oB];dsimp only;rw[binV_ii,intsV_lss,qee hlt,oB,qbp (by rfl),qb7,qam ho,ifK_bool,cT,h.o2,oB];dsimp only;rw[qb8,h.o3,oB];dsimp only;rw[binV_ii,intsV_add,qa5 (by omega),oB,qb8,qfj und9 s (qi5 .i64 hlt) (lR _),oB];dsimp only;rw[List.take_of_length_le hlen1,qb7,show(V.int .u8 93)=.int .u8 ((93:UInt8).toNat:Int)from rfl,f31_run h31 h33 m,qbh,binV_ii,intsV_add,qap (by omega) (by omega),oB,qbp (by rfl),qb7,qam ho,binV_ii,intsV_gtr,oB,show ev E0 K (m+2)=ev E0 K (m+1+1)from rfl,qim h18]
   have pre:=pre _ rfl;by_cases hq:0<=ixB (s.drop (i+1)) 93
   . rw[iP ⟨hlt,hq⟩]
     rw[dT (show(0:Int)<ixB (s.drop (i+1)) 93+1 by omega),iP rfl,callP_ret]at pre;have hqb:=ixB_lt hq;rw[List.length_drop]at hqb;have hqN:ixB (s.drop (i+1)) 93+1=(((ixB (s.drop (i+1)) 93).toNat+1:Nat):Int):=by omega
     rw[hqN]at pre;obtain⟨n,hnq⟩:∃n,n=(ixB (s.drop (i+1)) 93).toNat+1:=⟨_,rfl⟩
     rw[<- hnq]at pre ⊢;have hn:i+n+1<=s.length:=by omega
     obtain⟨S1,a1,a2,a3⟩:=h.putI' (i+n+1);have on1:=a2.on;have hx1:=hx.grew hxn hxb a3;have hx1n:=Nat.lt_of_lt_of_le hxn a3.next
     have hbl:((s.drop i).take n).length<=300:=by rw[List.length_take,List.length_drop]; omega
     have step:qhh (ev E0 K (m+2)) qa3 (.ptr b 0) (.ptr x 0) (.bool nt) S=qe1 (ev E0 K (m+1+1)) qa3 (qfw (ev E0 K (m+2)) qa3 (fun a s=>qa6 [2] a fun a=>(fun a s=>qa6 [2] a fun a=>(qbg E0 (ev E0 K (m+2)) Try.f25) a s) a s) qav) (exB 0 (qfw (ev E0 K (m+2)) qa3 (fun a s=>qa6 [2] a fun a=>(fun a s=>qa6 [2] a fun a=>(qbg E0 (ev E0 K (m+2)) Try.f25) a s) a s) qav) qav) qa3 (.ptr b 0) (.ptr x 0) (.bool nt) (sv ((s.drop i).take n)) (.int .i64 ((0:Nat):Int)) S1:=by
      rw[pre];simp only[qg8,qcn,Nat.zero_add,oB];rw[h.o2,oB];dsimp only;rw[qb8,h.o3,oB];dsimp only;rw[qb8,h.o3,oB];dsimp only;rw[binV_ii,intsV_add,qap (by omega) (by omega),show(i:Int)+(n:Int)=((i+n:Nat):Int) by omega,oB,qb8,qfj und9 s (ql6 .i64 .i64 (Nat.le_add_right i n) (by omega)) (by omega),oB];dsimp only;rw[qbp (by rfl),qb7,qam ho,h.l3,oB];dsimp only;rw[binV_ii,intsV_add,qap (by omega) (by omega),oB,binV_ii,intsV_add,qap (by omega) (by omega),show(i:Int)+((n:Int)+1)=((i+n+1:Nat):Int) by omega,oB,a1,oB];dsimp only;rw[show i+n-i=n by omega];rfl
     have hL:=L98_spec h18 (m+1) qa3 (by unfold qa3; omega) (qfw (ev E0 K (m+2)) qa3 (fun a s=>qa6 [2] a fun a=>(fun a s=>qa6 [2] a fun a=>(qbg E0 (ev E0 K (m+2)) Try.f25) a s) a s) qav) (exB 0 (qfw (ev E0 K (m+2)) qa3 (fun a s=>qa6 [2] a fun a=>(fun a s=>qa6 [2] a fun a=>(qbg E0 (ev E0 K (m+2)) Try.f25) a s) a s) qav) qav) (.ptr b 0) (.bool nt) hbl x 300 _ 0 qa3 (TK 0) (fun _=>false) S1 on1 hx1 stp_0 rfl hbl (by unfold qa3; omega);rw[List.drop_zero]at hL;rw[step];cases hr:rng ((s.drop i).take n) (fun _=>false)with
     | none=>
      rw[hr]at hL;obtain⟨U,u1,u2⟩:=hL;exact⟨U,u1,(a3.mono fun y _ hy=>by rw[hy]; exact h.lo).trans (u2.mono fun y _ hy=>by rw[hy]; exact hx0)⟩
     | some p=>
      rw[hr]at hL;obtain⟨S2,t2,b1,b2,b3,b4⟩:=hL;have on2:=b4.on.trans on1;obtain⟨S3,t3,c1,c2,c3,c4⟩:=L79q_spec (ev E0 K (m+2)) qa3 (R25_73 (ev E0 K (m+2)) qa3 (fun a s=>qa6 [2] a fun a=>(fun a s=>qa6 [2] a fun a=>(fun a s=>qa6 [2] a fun a=>(qbg E0 (ev E0 K (m+2)) Try.f25) a s) a s) a s) qav) (exB 4 (R25_73 (ev E0 K (m+2)) qa3 (fun a s=>qa6 [2] a fun a=>(fun a s=>qa6 [2] a fun a=>(fun a s=>qa6 [2] a fun a=>(qbg E0 (ev E0 K (m+2)) Try.f25) a s) a s) a s) qav) qav) (.ptr b 0) x nt 256 0 qa3 t2 _ S2 on2 b2 b3 rfl (by unfold qa3; omega);have on3:=c4.on.trans on2;have r3:Rdr gr dp S3 b N0 s (i+n+1) f lv acc:=(a2.off hxb hxr b4).off hxb hxr c4;obtain⟨T,lv',d1,d2,d3⟩:=qen h13 (m+1) r3 hl t3;refine⟨T,lv',t3,?_,c3.ext fun c=>?_,d2,(((a3.mono fun y _ hy=>by rw[hy]; exact h.lo).trans (b4.mono fun y _ hy=>by rw[hy]; exact hx0)).trans (c4.mono fun y _ hy=>by rw[hy]; exact hx0)).trans d3⟩
      . rw[show((0:Nat):Int)=0 from rfl]at b1 c1 ⊢
        refine b1.trans ?_;rw[exB_same,R25_72_eq];refine c1.trans ?_;rw[exB_same,R25_73_eq,c2.ldA on3 qdb,oB];dsimp only;rw[show ev E0 K (m+2)=ev E0 K (m+1+1)from rfl,d1,callP_ret]
      . rw[dT (Nat.zero_le _),cT]
   . rw[iN (fun hh=>hq hh.2)]
     rw[dF (show ¬(0:Int)<ixB (s.drop (i+1)) 93+1 by omega),iN Bool.false_ne_true,callP_pan]at pre;exact⟨S,pre,Grew.refl _ _⟩
 . rw[iN (fun hh=>hlt hh.1)]
   refine⟨S,?_,Grew.refl _ _⟩;unfold qhh;simp only[qg8,qcn,Nat.zero_add,oB];rw[h.o3,oB];dsimp only;rw[qb8,h.o2,oB];dsimp only;rw[qb8,lnStr_sv,oB];dsimp only;rw[binV_ii,intsV_lss,qed (by omega),oB,qbp (by rfl),qb7,qam ho,ifK_bool,cF,binV_ii,intsV_gtr,show decide ((0:Int) < -1)=false from rfl,oB,show ev E0 K (m+2)=ev E0 K (m+1+1)from rfl,must_no h18,callP_pan]
end
def Says {γ:Type} (enc:γ->V) (x:Rs) (S:St) (b N0:Nat) (s:List UInt8) (d:Nat):Option (PS×γ)->Prop
 | some (st',n)=>∃T,x=some (.ret (enc n),T)/\Rd T b N0 s d st'/\Grew (fun x=>N0<=x) S T
 | none=>∃T,x=some (.pan qec,T)/\Grew (fun x=>N0<=x) S T
theorem Says.pre {γ:Type} {enc:γ->V} {x y:Rs} {S T:St} {b N0:Nat} {s:List UInt8} {d:Nat} {r:Option (PS×γ)} (h:Says enc x T b N0 s d r) (g:Grew (fun x=>N0<=x) S T) (e:y=x):Says enc y S b N0 s d r:=by
 cases r with
 | none=>
  obtain⟨U,h1,h2⟩:=h;exact⟨U,e.trans h1,g.trans h2⟩
 | some q=>
  obtain⟨U,h1,h2,h3⟩:=h;exact⟨U,e.trans h1,h2,g.trans h3⟩
section
variable {gr dp:Nat} {S:St} {b N0 i:Nat} {s:List UInt8} {f:Bool} {lv:V} {acc:List (Tr V)}
theorem set6_1 (a b c d e f v:V):(Tr.ofListFrom .nil [a,b,c,d,e,f] 0).set v 1=Tr.ofListFrom .nil [a,v,c,d,e,f] 0:=by kernel_rfl
theorem set6_4 (a b c d e f v:V):(Tr.ofListFrom .nil [a,b,c,d,e,f] 0).set v 4=Tr.ofListFrom .nil [a,b,c,d,v,f] 0:=by kernel_rfl
theorem Rdr.putG (h:Rdr gr dp S b N0 s i f lv acc) (j:Nat):∃T,stP 1 (.ptr b 1) (.int .i64 (j:Int)) S=some (.tuple [],T)/\Rdr j dp T b N0 s i f lv acc/\Grew (fun x=>N0<=x) S T:=by
 have hst:=bx_st6 (v:=.int .i64 (j:Int)) (m:=r6 j dp lv s i f) h.on h.bx rfl rfl (by omega) (set6_1 _ _ _ _ _ _ _) rfl rfl rfl;have g:Grew (fun x=>x=b) S (S.put b (bxO 44 (r6 j dp lv s i f))):=qbz b _;exact⟨_,hst,⟨h.on,h.lo,h.hi,bx_put b 44 _,h.steps.grew (fun r hr _ _=>ql8 h.bx hr) g⟩,g.mono fun x _ hx=>by rw[hx]; exact h.lo⟩
theorem Rdr.putD (h:Rdr gr dp S b N0 s i f lv acc) (j:Nat):∃T,stP 1 (.ptr b 4) (.int .i64 (j:Int)) S=some (.tuple [],T)/\Rdr gr j T b N0 s i f lv acc/\Grew (fun x=>N0<=x) S T:=by
 have hst:=bx_st6 (v:=.int .i64 (j:Int)) (m:=r6 gr j lv s i f) h.on h.bx rfl rfl (by omega) (set6_4 _ _ _ _ _ _ _) rfl rfl rfl;have g:Grew (fun x=>x=b) S (S.put b (bxO 44 (r6 gr j lv s i f))):=qbz b _;exact⟨_,hst,⟨h.on,h.lo,h.hi,bx_put b 44 _,h.steps.grew (fun r hr _ _=>ql8 h.bx hr) g⟩,g.mono fun x _ hx=>by rw[hx]; exact h.lo⟩
theorem Rdr.l1 (h:Rdr gr dp S b N0 s i f lv acc):ld1 (.ptr b 1) S=some (.int .i64 (gr:Int),S):=Bx.ld1 h.on h.bx 1 (by show 1<6; decide) big6
theorem Rdr.l4 (h:Rdr gr dp S b N0 s i f lv acc):ld1 (.ptr b 4) S=some (.int .i64 (dp:Int),S):=Bx.ld1 h.on h.bx 4 (by show 4<6; decide) big6
theorem square_run {K:FuncId->Option KF} (hK:∀f,f≠9->K f=none) (m:Nat) (h:Rdr gr dp S b N0 s i f lv acc) (hl:acc.length<=3000) (hi:i<=s.length) (hs:s.length<=300) :
 match sqr s i with
 | some r=>∃T lv' tr,(ev E0 K (m+4)).f 25 [.ptr b 0] S=some (.ret (.bool false),T)/\Stp tr r.2 0 0/\Rdr gr dp T b N0 s r.1 f lv' (acc++[tr])/\Grew (fun x=>N0<=x) S T
 | none=>∃T,(ev E0 K (m+4)).f 25 [.ptr b 0] S=some (.pan qec,T)/\Grew (fun x=>N0<=x) S T:=by
 obtain⟨Z,hZ⟩:=F25_z;have ho:=h.on;have hlo:=h.lo;have hhi:=h.hi;obtain⟨a1,a2,a3⟩:=qe2 ho 50 258 Z;have on1:(nwP 50 258 Z S).2.on=false:=qfs ho _;obtain⟨S2,b1,b2,b3,b4⟩:=a1.stA on1 qdb (TK 0);have on2:=b3.on.trans on1;have g2:Grew (fun _=>False) S S2:=a2.own (lR _) b3;have h2:Rdr gr dp S2 b N0 s i f lv acc:=h.grew (fun _ _ _ h=>h) g2
 have hxr:∀r n z c,lv=.oslice r n z c->r≠S.next:=fun r n z c e=>by
  rcases h.steps with⟨_,e2⟩|⟨_,r',e2,_,_,e3⟩
  . rw[e2]at e; cases e
  . rw[e2]at e
    simp only[V.oslice.injEq]at e;omega
 have hread:∀{r},F25 (ev E0 K (m+3)) qa3 (.ptr b 0) S=r->(ev E0 K (m+4)).f 25 [.ptr b 0] S=r\/r=none:=fun{r} e=>by
  cases hr:r with
  | none=>exact .inr rfl
  | some q=>
   rw[hr]at e;exact .inl (qax (c:=C25) (d:=B25) (by kernel_rfl) (by kernel_rfl) (qa7 C25 _ (by kernel_rfl)) (hK 25 (by decide)) e)
 have hF:F25 (ev E0 K (m+3)) qa3 (.ptr b 0) S=ifK (.bool (qae (s.drop i) [94])) (
(qa2 (.ptr b 0)).bind fun t9=>
(faP 3 false 1 t9).bind fun t10=>
(ld1 t10 S2).bind fun p11=>
(qa4 E0 .add 3 false true p11.1 (.int .i64 1)).bind fun t12=>
(qa2 (.ptr b 0)).bind fun t13=>
(faP 3 false 1 t13).bind fun t14=>
(stP 1 t14 t12 p11.2).bind fun p15=>
qhh (ev E0 K (m+3)) qa3 (.ptr b 0) (.ptr S.next 0) (.bool (qae (s.drop i) [94])) p15.2) (
qhh (ev E0 K (m+3)) qa3 (.ptr b 0) (.ptr S.next 0) (.bool (qae (s.drop i) [94])) S2):=by
  rw[hZ,build_0,oB,oB,qde,b1,oB];dsimp only;rw[at_run (hK 16 (by decide)) (hK 23 (by decide)) (hK 30 (by decide)) m h2 hi [94],callP_ret]
 unfold sqr;cases hp:qae (s.drop i) [94]with
 | true=>
  rw[iP rfl];have hlt:i<s.length:=qcu hp (by simp);obtain⟨S3,c1,c2,c3⟩:=h2.putI' (i+1);have hR:=rest25_run (hK 13 (by decide)) (hK 18 (by decide)) (hK 31 (by decide)) (hK 33 (by decide)) (m+1) c2 hl hs (x:=S.next) (b2.grew (by omega) (by omega) c3) (by have:=c3.next; omega) (by omega) (by omega) hxr true;rw[hp,ifK_bool,cT,qg8,oB,qcn,oB,Nat.zero_add,h2.l3,oB]at hF;dsimp only at hF;rw[binV_ii,intsV_add,qa5 (by omega),oB,oB,qcn,oB,Nat.zero_add,c1,oB]at hF;dsimp only at hF;have gg:Grew (fun x=>N0<=x) S S3:=(g2.mono fun _ _ h=>h.elim).trans (c3.mono fun y _ hy=>by rw[hy]; exact hlo);cases hq:sqB s true (i+1)with
  | none=>
   rw[hq]at hR;obtain⟨T,t1,t2⟩:=hR;rcases hread (hF.trans t1)with e|e
   . exact⟨T,e,gg.trans t2⟩
   . cases e
  | some r=>
   rw[hq]at hR;obtain⟨T,lv',tr,t1,t2,t3,t4⟩:=hR;rcases hread (hF.trans t1)with e|e
   . exact⟨T,lv',tr,e,t2,t3,gg.trans t4⟩
   . cases e
 | false=>
  rw[iN Bool.false_ne_true];have hR:=rest25_run (hK 13 (by decide)) (hK 18 (by decide)) (hK 31 (by decide)) (hK 33 (by decide)) (m+1) h2 hl hs (x:=S.next) b2 (by omega) (by omega) (by omega) hxr false;rw[hp,ifK_bool,cF]at hF;have gg:Grew (fun x=>N0<=x) S S2:=g2.mono fun _ _ h=>h.elim;cases hq:sqB s false i with
  | none=>
   rw[hq]at hR;obtain⟨T,t1,t2⟩:=hR;rcases hread (hF.trans t1)with e|e
   . exact⟨T,e,gg.trans t2⟩
   . cases e
  | some r=>
   rw[hq]at hR;obtain⟨T,lv',tr,t1,t2,t3,t4⟩:=hR;rcases hread (hF.trans t1)with e|e
   . exact⟨T,lv',tr,e,t2,t3,gg.trans t4⟩
   . cases e
end
section
variable {S:St} {b N0 d:Nat} {s:List UInt8}
structure GR (K:FuncId->Option KF) (m:Nat) (b N0:Nat) (s:List UInt8) (d g i0:Nat) (grp:PS->Option (PS×Bool)):Prop where
 gp:Gp s grp
 run:g+1<=9->∀(st:PS) (fi:Bool) (S:St),st.g=g+1->st.fi=true->i0<st.i->Rd S b N0 s (d+1) ⟨st.i,st.g,fi,st.acc⟩->st.i<=s.length->st.acc.length<=2*st.i->Says .bool ((ev E0 K (m+1)).f 12 [.ptr b 0] S) S b N0 s (d+1) (grp st)
theorem group_run {K:FuncId->Option KF} (hK:∀f,f≠9->K f=none) (m:Nat) {i0:Nat} {grp:PS->Option (PS×Bool)} {st:PS} (hg:GR K (m+2) b N0 s d st.g i0 grp) (hi0:i0<st.i) (hs:s.length<=300) (hd:d<=1000) (hg9:st.g<=9) (h:Rd S b N0 s d st) (hi:st.i<=s.length) (ha:st.acc.length+1<=2*st.i) :
 Says .bool ((ev E0 K (m+4)).f 32 [.ptr b 0] S) S b N0 s d (if st.g+1<=9 then
  (grp ⟨st.i,st.g+1,true,st.acc++[stA 5 (2*(st.g+1))]⟩).bind fun r=>
   if qae (s.drop r.1.i) [92,41]=true then some (⟨r.1.i+2,r.1.g,r.1.fi,r.1.acc++[stA 5 (2*(st.g+1)+1)]⟩,r.2)else none
  else none):=by
 obtain⟨lv,ts,h0,hR⟩:=h;have hlen:=hR.len;have ho:=h0.on;obtain⟨S1,a1,a2,a3⟩:=h0.putG (st.g+1);have pan:∀{T},F32 (ev E0 K (m+3)) qa3 (.ptr b 0) S=some (.pan qec,T)->(ev E0 K (m+4)).f 32 [.ptr b 0] S=some (.pan qec,T):=fun e=>qax (c:=C32) (d:=B32) (by kernel_rfl) (by kernel_rfl) (qa7 C32 _ (by kernel_rfl)) (hK 32 (by decide)) e;have ret:∀{v T},F32 (ev E0 K (m+3)) qa3 (.ptr b 0) S=some (.ret v,T)->(ev E0 K (m+4)).f 32 [.ptr b 0] S=some (.ret v,T):=fun e=>qax (c:=C32) (d:=B32) (by kernel_rfl) (by kernel_rfl) (qa7 C32 _ (by kernel_rfl)) (hK 32 (by decide)) e;have hF:=F32_eq (ev E0 K (m+3)) qa3 (.ptr b 0) S;simp only[qg8,qcn,Nat.zero_add,oB]at hF;rw[h0.l1,oB]at hF;dsimp only at hF;rw[binV_ii,intsV_add,qa5 (by omega),oB,a1,oB]at hF;dsimp only at hF;rw[a2.l1,oB]at hF;dsimp only at hF;rw[binV_ii,intsV_leq,oB,show ev E0 K (m+3)=ev E0 K (m+2+1)from rfl,qim (hK 18 (by decide))]at hF;by_cases h9:st.g+1<=9
 . rw[iP h9]
   rw[show decide (((st.g+1:Nat):Int)<=9)=true by rw[decide_eq_true_eq]; omega,iP rfl,callP_ret,binV_ii,intsV_mul,qap (by omega) (by omega),show(2:Int)*((st.g+1:Nat):Int)=((2*(st.g+1):Nat):Int) by omega,oB,build_5,oB]at hF;obtain⟨S2,lv2,b1,b2,b3⟩:=qen (hK 13 (by decide)) (m+2) a2 (by omega) ((TK 5).set (.int .i64 ((2*(st.g+1):Nat):Int)) 257);rw[b1,callP_ret,b2.l4,oB]at hF;dsimp only at hF;have hR2:=hR.add (t:=(TK 5).set (.int .i64 ((2*(st.g+1):Nat):Int)) 257) (a:=stA 5 (2*(st.g+1))) (stp_5.to _);obtain⟨S3,c1,c2,c3⟩:=b2.putD (d+1);rw[binV_ii,intsV_add,qa5 (by omega),oB,c1,oB]at hF;dsimp only at hF;have hrun:=hg.run h9 ⟨st.i,st.g+1,true,st.acc++[stA 5 (2*(st.g+1))]⟩ st.fi S3 rfl rfl hi0 ⟨lv2,_,c2,hR2⟩ hi (by rw[lAq,List.length_singleton]; exact ha);have g3:Grew (fun x=>N0<=x) S S3:=(a3.trans b3).trans c3;cases hgr:grp ⟨st.i,st.g+1,true,st.acc++[stA 5 (2*(st.g+1))]⟩with
   | none=>
    rw[hgr]at hrun;obtain⟨T,t1,t2⟩:=hrun;rw[t1,callP_pan]at hF;exact⟨T,pan hF,g3.trans t2⟩
   | some r=>
    obtain⟨st2,n⟩:=r;rw[hgr]at hrun;obtain⟨S4,d1,⟨lv4,ts4,d2,d3⟩,d4⟩:=hrun;obtain⟨dp,p1,_⟩:=hg.gp _ _ _ hgr;have hil:=p1.il hi;have hal:=p1.al;have hlen4:=d3.len;rw[lAq,List.length_singleton]at hal;simp only at hal;rw[d1,callP_ret,show ev E0 K (m+2+1)=ev E0 K (m+3)from rfl,at_run (hK 16 (by decide)) (hK 23 (by decide)) (hK 30 (by decide)) m d2 hil [92,41],callP_ret,show ev E0 K (m+3)=ev E0 K (m+2+1)from rfl,qim (hK 18 (by decide))]at hF;rw[oB];cases hp:qae (s.drop st2.i) [92,41]with
    | false=>
     rw[hp,iN Bool.false_ne_true,callP_pan]at hF;rw[iN Bool.false_ne_true];exact⟨S4,pan hF,g3.trans d4⟩
    | true=>
     have hp2:=qcu hp (by simp);have hp2:st2.i+2<=s.length:=hp2;rw[hp,iP rfl,callP_ret,d2.l3,oB]at hF;dsimp only at hF;obtain⟨S5,e1,e2,e3⟩:=d2.putI (st2.i+2);rw[binV_ii,intsV_add,qap (by omega) (by omega),show(st2.i:Int)+2=((st2.i+2:Nat):Int) by omega,oB,e1,oB]at hF;dsimp only at hF;obtain⟨S6,f1,f2,f3⟩:=e2.putD d;rw[e2.l4,oB]at hF;dsimp only at hF;rw[binV_ii,intsV_sub,qap (by omega) (by omega),show((d+1:Nat):Int)-1=(d:Int) by omega,oB,f1,oB]at hF;dsimp only at hF;obtain⟨T,lv6,q1,q2,q3⟩:=qen (hK 13 (by decide)) (m+2) f2 (by omega) ((TK 5).set (.int .i64 ((2*(st.g+1)+1:Nat):Int)) 257);rw[oB,binV_ii,intsV_add,qa5 (by omega),oB,build_5,oB,q1,callP_ret]at hF;rw[iP rfl];exact⟨T,ret hF,⟨lv6,_,q2,d3.add (stp_5.to _)⟩,(((g3.trans d4).trans e3).trans f3).trans q3⟩
 . rw[iN h9]
   rw[show decide (((st.g+1:Nat):Int)<=9)=false by rw[decide_eq_false_iff_not]; omega,iN Bool.false_ne_true,callP_pan]at hF;exact⟨S1,pan hF,a3⟩
theorem plan26 (b:Nat):pinOk 10 [[],[],[],[⟨b,3,4,false⟩],[],[],[],[⟨b,2,3,false⟩],[],[],[]] (qao E0 (B26.r.l).ops).pls=true/\stays [] (qao E0 (B26.r.l).ops).pls=true:=⟨by kernel_rfl,by kernel_rfl⟩
theorem stroke_says {K:FuncId->Option KF} (hK:∀f,f≠9->K f=none) (m:Nat) {i0:Nat} {grp:PS->Option (PS×Bool)} {st:PS} (hg:GR K (m+2) b N0 s d st.g i0 grp) (hi0:i0<=st.i) (hs:s.length<=300) (hd:d<=1000) (hg9:st.g<=9) (h:Rd S b N0 s d st) (hi:st.i<=s.length) (ha:st.acc.length+1<=2*(st.i+1)) :
 Says .bool ((ev E0 K (m+5)).f 26 [.ptr b 0] S) S b N0 s d (strk s grp st):=by
 obtain⟨lv,ts,h0,hR⟩:=h;have hlen:=hR.len;have ho:=h0.on;have rdF:∀{r},F26 (ev E0 K (m+4)) qa3 (.ptr b 0) S=some r->(ev E0 K (m+5)).f 26 [.ptr b 0] S=some r:=fun e=>qax (c:=C26) (d:=B26) (by kernel_rfl) (by kernel_rfl) (qa7 C26 _ (by kernel_rfl)) (hK 26 (by decide)) e;have hF:=F26_eq (ev E0 K (m+4)) qa3 (.ptr b 0) S;simp only[qg8,qcn,Nat.zero_add,oB]at hF;rw[h0.o3,oB]at hF;dsimp only at hF;rw[qb8,h0.o2,oB]at hF;dsimp only at hF;rw[qb8,lnStr_sv,oB]at hF;dsimp only at hF;rw[binV_ii,intsV_lss,oB,qb7,show ev E0 K (m+4)=ev E0 K (m+3+1)from rfl,qim (hK 18 (by decide))]at hF;unfold strk;by_cases hlt:st.i<s.length
 . rw[iP hlt]
   have hgd:s.getD st.i 0=s[st.i]:=by rw[List.getD_eq_getElem?_getD,List.getElem?_eq_getElem hlt]; rfl
   rw[hgd];rw[qee hlt,iP rfl,qbh,qbp (by rfl),qam ho,h0.o2,oB]at hF;dsimp only at hF;rw[qb8,h0.o3,oB]at hF;dsimp only at hF;rw[qh8 s .i64 st.i hlt,oB,qbp (by rfl),qb8,qam ho,h0.l3,oB]at hF;dsimp only at hF;obtain⟨S1,a1,a2,a3⟩:=h0.putI (st.i+1);rw[binV_ii,intsV_add,qa5 (by omega),oB,a1,oB]at hF;dsimp only at hF;rw[binV_ii,intsV_eql,qg0 _ 40 40 rfl,oB,ifK_bool]at hF;by_cases h40:s[st.i]=40
   . rw[h40,beq_self_eq_true,cT]at hF
     rw[iP h40];have hr:=group_run (S:=S1) hK m (st:=⟨st.i+1,st.g,st.fi,st.acc⟩) hg (Nat.lt_succ_of_le hi0) hs hd hg9 ⟨lv,ts,a2,hR⟩ hlt ha;simp only at hr
     generalize (if st.g+1<=9 then
      (grp ⟨st.i+1,st.g+1,true,st.acc++[stA 5 (2*(st.g+1))]⟩).bind fun r=>
       if qae (s.drop r.1.i) [92,41]=true then some ((⟨r.1.i+2,r.1.g,r.1.fi,r.1.acc++[stA 5 (2*(st.g+1)+1)]⟩:PS),r.2)else none
     else none)=R at hr ⊢
     cases R with
     | none=>
      obtain⟨T,t1,t2⟩:=hr;rw[show ev E0 K (m+3+1)=ev E0 K (m+4)from rfl,t1,callP_pan]at hF;exact⟨T,rdF hF,a3.trans t2⟩
     | some q=>
      obtain⟨T,t1,t2,t3⟩:=hr;rw[show ev E0 K (m+3+1)=ev E0 K (m+4)from rfl,t1,callP_ret]at hF;exact⟨T,rdF hF,t2,a3.trans t3⟩
   . rw[beq_false_of_ne h40,cF,binV_ii,intsV_eql,qg0 _ 110 110 rfl,oB,ifK_bool]at hF
     rw[iN h40];have stp1:∀c:UInt8,Stp (takeT c) (fun x=>x==c) 0 0:=fun c=>stp_take c;by_cases h110:s[st.i]=110
     . rw[h110,beq_self_eq_true,cT]at hF
       rw[iP h110];obtain⟨T,lv',t1,t2,t3⟩:=qjl (hK 13 (by decide)) (hK 27 (by decide)) (m+2) a2 (by omega) 10;rw[show(V.int .u8 10)=.int .u8 ((10:UInt8).toNat:Int)from rfl,show ev E0 K (m+3+1)=ev E0 K (m+2+2)from rfl,t1,callP_ret]at hF;exact⟨T,rdF hF,⟨lv',_,t2,hR.add (stp1 10)⟩,a3.trans t3⟩
     . rw[beq_false_of_ne h110,cF,show ev E0 K (m+3+1)=ev E0 K (m+2+2)from rfl,f31_run (hK 31 (by decide)) (hK 33 (by decide)) (m+2),callP_ret,binV_ii,intsV_geq,oB,show ev E0 K (m+2+2)=ev E0 K (m+3+1)from rfl,qim (hK 18 (by decide))]at hF
       rw[iN h110];by_cases hq:0<=ixB [46,42,91,93,94,36,47,92] s[st.i]
       . rw[iP hq]
         rw[dT hq,iP rfl,callP_ret]at hF;obtain⟨T,lv',t1,t2,t3⟩:=qjl (hK 13 (by decide)) (hK 27 (by decide)) (m+2) a2 (by omega) s[st.i];rw[show ev E0 K (m+3+1)=ev E0 K (m+2+2)from rfl,t1,callP_ret]at hF;exact⟨T,rdF hF,⟨lv',_,t2,hR.add (stp1 _)⟩,a3.trans t3⟩
       . rw[iN hq]
         rw[dF hq,iN Bool.false_ne_true,callP_pan]at hF;exact⟨S1,rdF hF,a3⟩
 . rw[iN hlt]
   rw[qed (by omega),iN Bool.false_ne_true]at hF;have hpan:∀k,qi6 (qao E0 (B26.r.l).ops) S 10 [[],[],[],(rd S b 3 1).log,[],[],[],(rd S b 2 1).log,(onS S).log,[]] (some (.pan qec,onS S)) k=some (.pan qec,qbf S (onS S) ([[],[],[],(rd S b 3 1).log,[],[],[],(rd S b 2 1).log,(onS S).log,[]]++[(onS S).log])):=fun k=>callD_pan rfl (plan26 b).1 (plan26 b).2;rw[hpan,qam ho]at hF;exact⟨S,rdF hF,Grew.refl _ _⟩
end
end Go.Proofs.Ytachpdpmoihjmaa.W
