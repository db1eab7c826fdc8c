/-
  WHAT THE FUNCTIONS COME TO: each is read by the evaluator,printed,and told as a function of data,part 9 of 9 (no condition).
-/
import Derived.Test.YtpgegoeghaplkaaDoorW8
namespace Go.Proofs.YtpgegoeghaplkaaDoor.W
open Go.Proofs.YtpgegoeghaplkaaDoor.Ev Go.RowKit
theorem kfVal_lg (args:List V):Lg.LocP fun s=>kfVal.run args s:=by
 unfold kfVal;dsimp only;split
 . split
   . split
     . exact Lg.LocP.ret _
     . refine Lg.Loc.bind (Lg.loc_ld _ _) fun v=>?_
       dsimp only;split
       . exact Lg.LocP.ret _
       . exact Lg.Loc.none
   . exact Lg.Loc.none
 . exact Lg.Loc.none
theorem lgD:Lg.KnLoc KD:=((((((((Lg.knLoc_nil).add 40 fun _=>kfCopyCheck_lg _ _).add 20 fun _=>kfString_lg _ _).add 22 fun _=>Lg.specKF_lg _).add 23 fun _=>Lg.specKF_lg _).add 52 fun _=>Lg.specKF_lg _).add 19 fun _=>Lg.specKF_lg _).add 5 fun _=>Lg.specKF_lg _).add 26 kfVal_lg
theorem kfVal_fz {F:Fz.Fz} (args:List V):Fz.LocP F fun s=>kfVal.run args s:=by
 unfold kfVal;dsimp only;split
 . split
   . split
     . exact Fz.LocP.ret _
     . refine Fz.Loc.bind (Fz.loc_ld _ _) fun v=>?_
       dsimp only;split
       . exact Fz.LocP.ret _
       . exact Fz.Loc.none
   . exact Fz.Loc.none
 . exact Fz.Loc.none
theorem fzD {F:Fz.Fz}:Fz.KnLoc F KD:=((((((((Fz.knLoc_nil).add 40 fun _=>kfCopyCheck_fz _ _).add 20 fun _=>kfString_fz _ _).add 22 fun _=>Fz.specKF_fz _).add 23 fun _=>Fz.specKF_fz _).add 52 fun _=>Fz.specKF_fz _).add 19 fun _=>Fz.specKF_fz _).add 5 fun _=>Fz.specKF_fz _).add 26 fun a=>kfVal_fz a
theorem body16:E0.ext.get 16=none/\qat E0 16=true:=⟨by kernel_rfl,by kernel_rfl⟩
theorem path_len {s:Bs} (h:qb9 s=true):s.length<=60:=by
 unfold qb9 at h;simp only[bA]at h;have h1:=h.2.2;unfold qfj chkN at h1;split at h1
 . cases h1
 . rename_i h2
   rw[List.length_drop]at h2;omega
theorem var_len {s:Bs} (h:qfz s=true):s.length<=56:=by
 unfold qfz at h;simp only[bA,decide_eq_true_eq]at h;exact h.2.1.1.2
theorem hex_len (v:Bs):(hexD v).length<=2*v.length+1:=by
 unfold hexD;split
 . simp
 . have:∀v:Bs,(v.flatMap fun c=>[hexC (c.toNat/16),hexC (c.toNat%16)]).length=2*v.length:=fun v=>by
    induction v with
    | nil=>rfl
    | cons c v ih=>rw[List.flatMap_cons,lAq,ih]; simp; omega
   rw[this]; omega
section
variable {S T U:St} {b N q0 N1:Nat} {d:DD} {vI vE:V} {Tt:Tr V}
theorem in_line (p:Bs):qhv [wIn,p]++[10]=inL p:=by unfold inL; simp[qhv]
theorem env_line (p:Bs×Bs):qhv [wEnv,p.1,hexD p.2]++[10]=envL p:=by unfold envL; simp[qhv]
theorem L53_spec {m M:Nat} (nk:Ac->St->Rs) (ek:Nat->Ac->St->Rs) (v1:V) {l:List Bs} (hl:l.length<=1000) :
 ∀(q:List Bs) (i n:Nat) (S:St) (bs:Bs),TLo S vI l N1->(∀x,qc5 vI=some x->x<b)->Bd S b bs N->l.drop i=q->q.length<n->(∀p∈l,p.length<=60)->bs.length+100*q.length<=30000->
 ∃U,L6_53 (ev E0 KD (m+4)) M nk ek n v1 (.ptr b 0) (.fn (.func 16) [] [.ptr b 0]) vI (.int .i64 (l.length:Int)) (.int .i64 (i:Int)) S=ek 0 (fr 54 [(1,v1),(4,.ptr b 0),(5,.fn (.func 16) [] [.ptr b 0])]) U/\Bd U b (bs++q.flatMap inL) N/\Grew (fun x=>x=b\/N<=x) S U
 | _,_,0,_,_,_,_,_,_,hn,_,_=>by omega
 | [],i,n+1,S,bs,_,_,hB,hi,_,_,_=>by
  refine⟨S,?_,by simpa using hB,Grew.refl _ _⟩;rw[L6_53_eq,qg5,dF (Nat.not_lt.2 (qbl hi)),oB,ifK_bool,cF]
 | a::q,i,n+1,S,bs,h,hb,hB,hi,hn,hp,hk=>by
  obtain⟨hlt,hc,hr',hm⟩:=qby hi;rw[List.length_cons]at hk;have hbN:=hB.2.1;obtain⟨p,p1,p2⟩:=h.tl.ld hB.on (show l[i]?=some a by rw[List.getElem?_eq_getElem hlt,hc])
  obtain⟨S1,e1,e2,e3,e4⟩:=qel hB.on 9 (Ev.one (sv [])) [sv wIn,sv a] (fun v hv=>by
   simp only[List.mem_cons,List.not_mem_nil,or_false]at hv
   rcases hv with rfl|rfl<;>exact qef _) (by show 2<big; unfold big; decide)
  have hB1:=hB.grew e3 (fun h=>h) (fun _ _ _ h=>h);have hla:=hp a hm;obtain⟨S2,a1,a2,a3⟩:=qkd m (l:=[wIn,a]) hB1 (.inr (.inl rfl)) e2 (by omega) (by simp[sumL,wIn]; omega) (by omega);have g:Grew (fun x=>x=b\/N<=x) S S2:=(e3.mono fun _ _ h=>(h:False).elim).trans a3;rw[in_line]at a2;have hT:=h.grewW g fun x hx hw=>by have:=hb x hx; omega
  obtain⟨U,d1,d2,d3⟩:=L53_spec (m:=m) (M:=M) nk ek v1 hl q (i+1) n S2 _ hT hb a2 hr' (by simpa using hn) hp (by rw[lAq]; simp[inL,wIn]; omega);refine⟨U,?_,by rw[List.flatMap_cons]; simpa using d2,g.trans d3⟩;rw[L6_53_eq,qg5,dT hlt,oB,ifK_bool,cT,p1,oB,p2,oB];dsimp only;rw[show bsP 9 1 2 (Ev.one (sv [])) [(0,(sv [105,110])),(1,sv a)] S=some (.slice S.next 0 2 2,S1)from e1 none,oB];dsimp only;rw[qb5 body16.1 body16.2];show(qaa ((ev E0 KD (m+4)).f 16 [.slice S.next 0 2 2,.ptr b 0] S1) _)=_;rw[show(ev E0 KD (m+4)).f 16 [.slice S.next 0 2 2,.ptr b 0] S1=_ from a1,callP_ret,qf5 (by omega),oB,d1]
theorem pairs6 {x:Nat} (l l2:List LE):qam [[],[],[⟨x,0,0+1,false⟩],[],[⟨x,1,1+1,false⟩],[],l,l2] [(2,[4,5])]=true:=by
 have h1:qbr [⟨x,0,0+1,false⟩] [⟨x,1,1+1,false⟩]=false:=qbx (by simp);have h2:qbr [⟨x,0,0+1,false⟩] []=false:=qbx (by simp);show(bif (bif qbr [⟨x,0,0+1,false⟩] [⟨x,1,1+1,false⟩]then true else(bif qbr [⟨x,0,0+1,false⟩] []then true else false))then false else true)=true;rw[h1,h2];rfl
set_option maxRecDepth 100000 in
theorem L32_spec {m M:Nat} (nk:Ac->St->Rs) (ek:Nat->Ac->St->Rs) (v1:V) {l:List (Bs×Bs)} (hl:l.length<=1000) :
 ∀(q:List (Bs×Bs)) (i n:Nat) (S:St) (bs:Bs),VLo S vE l N1->(∀x,qc5 vE=some x->x<b)->Bd S b bs N->l.drop i=q->q.length<n->(∀p∈l,p.1.length<=56/\p.2.length<=200)->bs.length+1000*q.length<=49000->
 ∃U,L6_32 (ev E0 KD (m+4)) M nk ek n v1 (.ptr b 0) (.fn (.func 16) [] [.ptr b 0]) vE (.int .i64 (l.length:Int)) (.int .i64 (i:Int)) S=ek 2 (fr 54 [(1,v1),(4,.ptr b 0),(5,.fn (.func 16) [] [.ptr b 0])]) U/\Bd U b (bs++q.flatMap envL) N/\Grew (fun x=>x=b\/N<=x) S U
 | _,_,0,_,_,_,_,_,_,hn,_,_=>by omega
 | [],i,n+1,S,bs,_,_,hB,hi,_,_,_=>by
  refine⟨S,?_,by simpa using hB,Grew.refl _ _⟩;rw[L6_32_eq,qg5,dF (Nat.not_lt.2 (qbl hi)),oB,ifK_bool,cF]
 | p::q,i,n+1,S,bs,h,hb,hB,hi,hn,hp,hk=>by
  obtain⟨hlt,hc,hr',hm⟩:=qby hi;rw[List.length_cons]at hk;have hbN:=hB.2.1;have hNS:=hB.2.2.1;have ho:=hB.on;obtain⟨y,y1,y2⟩:=h.ldA ho (show l[i]?=some p by rw[List.getElem?_eq_getElem hlt,hc]);obtain⟨a1,a2,a3⟩:=qcj ho 50 2 (Tr.ofListFrom .nil [(sv []),(sv [])] 0);have on1:=a2.on.trans ho;obtain⟨S2,b1,b2,b3,b4⟩:=a1.stA on1 big2 (qi8 p);have on2:=b3.on.trans on1;have g2:Grew (fun _=>False) S S2:=a2.own (lR _) b3;have hB2:=hB.grew g2 (fun h=>h) (fun _ _ _ h=>h);obtain⟨l1,l2⟩:=hp p hm;have hx:=hex_len p.2;have r1:=qeq on2 (b2.ld1 on2 big2 (show 0<2 by decide) (show(qi8 p).get 0=some (sv p.1) by unfold qi8; rw[Tr.get_ofList]; rfl)) [];have r2:=qeq on2 (b2.ld1 on2 big2 (show 1<2 by decide) (show(qi8 p).get 1=some (sv p.2) by unfold qi8; rw[Tr.get_ofList]; rfl)) []
  obtain⟨S3,e1,e2,e3,e4⟩:=qel on2 9 (Ev.one (sv [])) [sv wEnv,sv p.1,sv (hexD p.2)] (fun v hv=>by
   simp only[List.mem_cons,List.not_mem_nil,or_false]at hv
   rcases hv with rfl|rfl|rfl<;>exact qef _) (by show 3<big; unfold big; decide)
  have hB3:=hB2.grew e3 (fun h=>h) (fun _ _ _ h=>h);obtain⟨S4,c1,c2,c3⟩:=qkd m (l:=[wEnv,p.1,hexD p.2]) hB3 (.inr (.inr rfl)) e2 (by omega) (by simp[sumL,wEnv]; omega) (by omega);have on4:=c2.on
  have hcall:qch E0 (ev E0 KD (m+4)) (.fn (.func 16) [] [.ptr b 0]) [.slice S2.next 0 3 3] S3=some (.ret (.tuple []),S4):=by
   rw[qb5 body16.1 body16.2];exact c1
  obtain⟨l',hcall'⟩:=Lg.callK_lg lgD body16.1 hcall [];obtain⟨S5,z1,z2,z3,z4⟩:=qeh on2 S4 l' [[],[],[⟨S.next,0,0+1,false⟩],[],[⟨S.next,1,1+1,false⟩],[],[⟨S2.next,0,big,true⟩],l'];have g5:=Grew.of_eq z2 z3 (z4.trans on4.symm);have hB5:=c2.grew g5 (fun h=>h) (fun _ _ _ h=>h);rw[env_line]at hB5;have g:Grew (fun x=>x=b\/N<=x) S S5:=(g2.mono fun _ _ h=>(h:False).elim).trans ((e3.mono fun _ _ h=>(h:False).elim).trans (c3.trans (g5.mono fun _ _ h=>(h:False).elim)));have hE5:=h.grew g fun x hx hw=>by have:=hb x hx; omega
  obtain⟨U,d1,d2,d3⟩:=L32_spec (m:=m) (M:=M) nk ek v1 hl q (i+1) n S5 _ hE5 hb hB5 hr' (by simpa using hn) hp (by rw[lAq]; simp[envL,wEnv]; omega);refine⟨U,?_,by rw[List.flatMap_cons]; simpa using d2,g.trans d3⟩;rw[L6_32_eq,qg5,dT hlt,oB,ifK_bool,cT,y1,oB,y2,oB];dsimp only;rw[oB,qcu,b1,oB];dsimp only;rw[show faP 0 false 1 (.ptr S.next 0)=some (.ptr S.next 0)from rfl,oB,qax,r1,oB];dsimp only;rw[show faP 1 false 1 (.ptr S.next 0)=some (.ptr S.next 1)from rfl,oB,qab,qax,r2,oB];dsimp only;rw[qab,qax,show ev E0 KD (m+4)=ev E0 KD (m+3+1)from rfl,hex_k (m+3) p.2 (by omega),qcl];have e1':bsP 9 1 3 (Ev.one (sv [])) [(0,sv [101,110,118]),(1,sv p.1),(2,sv (hexD p.2))] (S2.lg [])=some (.slice S2.next 0 3 3,S3.lg [⟨S2.next,0,big,true⟩]):=e1 (some []);rw[qab,qax,e1',oB];dsimp only;rw[qab,qax,show ev E0 KD (m+3+1)=ev E0 KD (m+4)from rfl,hcall',qcl];rw[show(S2.lg [⟨S.next,0,0+1,false⟩]).log=[⟨S.next,0,0+1,false⟩]from rfl,show(S2.lg [⟨S.next,1,1+1,false⟩]).log=[⟨S.next,1,1+1,false⟩]from rfl,show(S2.lg []).log=[]from rfl,show(S3.lg [⟨S2.next,0,big,true⟩]).log=[⟨S2.next,0,big,true⟩]from rfl,show(S4.lg l').log=l' from rfl,qfk (pairs6 _ _),z1,qf5 (by omega),oB,d1]
end
section
variable {S T U:St} {b N q0 N1:Nat} {d:DD} {vI vE:V} {Tt:Tr V}
theorem told_on (m:Nat) {bs:Bs} (h:Bd S b bs N) (h0:bs≠[]) {q:Nat} (hq:AgAt S q 25 4 Tt) (hqb:q<b):∃U L,(ev E0 KD (m+1)).f 20 [.ptr b 0] (S.lg [])=some (.ret (sv bs),U.lg L)/\(∀e∈L,e.w=false\/e.b≠q)/\Grew (fun x=>N<=x) S U:=by
 obtain⟨U,a1,a2⟩:=qkn (K:=KD) rfl m h h0;obtain⟨c,c1,c2⟩:=hq;have hbN:=h.2.1; have hNS:=h.2.2.1;have gi:Grew (fun x=>x=q) S (icy S q 25 4 1 c):=qep _ _;have hI:Bd (icy S q 25 4 1 c) b bs N:=h.grew gi (by omega) (fun x h1 h2 e=>by omega);obtain⟨U',k1,k2⟩:=qkn (K:=KD) rfl m hI h0;obtain⟨L,q1,q2⟩:=Fz.ev_log fzD lgD (icy_same c1 (by omega)) k1 a1;exact⟨U,L,q1,q2,a2⟩
theorem may_all (h:mayD qfj qb9 qfz d=true):d.ins.length<=8/\d.env.length<=16/\d.nm.length<=20/\(∀p∈d.ins,p.length<=60)/\(∀p∈d.env,p.1.length<=56/\p.2.length<=200)/\d.scr.length<=4000:=by
 unfold mayD at h;simp only[bA,decide_eq_true_eq,List.all_eq_true]at h;obtain⟨⟨⟨⟨⟨h1,h2⟩,h3⟩,h4⟩,h5⟩,h6⟩:=h;refine⟨h2.1,h2.2,?_,fun p hp=>path_len (h3 p hp),fun p hp=>⟨var_len (h5 p hp).1,(h5 p hp).2⟩,h6⟩;unfold qfj chkN at h1;split at h1
 . cases h1
 . omega
set_option maxRecDepth 100000 in
theorem print_run (h:Dx S N Tt d vI vE) (m:Nat):∃U,(ev E0 KD (m+12)).f 6 [.agg 4 Tt] S=some (.ret (.tuple (if mayD qfj qb9 qfz d=true then [sv (prtD d),.int .i64 0]else [sv [],.int .i64 2])),U)/\Grew (fun _=>False) S U:=by
 have ho:=h.on;obtain⟨a1,a2,a3⟩:=qcj ho 25 4 Tt;have on1:=a2.on.trans ho;have hF:=F6_eq (ev E0 KD (m+11)) qa1 (.agg 4 Tt) S;rw[show boxK 25 (.agg 4 Tt) S=some (.ptr S.next 0,(nwP 25 4 Tt S).2)from rfl,oB]at hF;dsimp only at hF;generalize (nwP 25 4 Tt S).2=S1 at a1 a2 a3 on1 hF;rw[a1.ldA on1 qi9,oB]at hF;dsimp only at hF;have h1:Dx S1 N Tt d vI vE:=⟨on1,h.t,h.ins.grew a2,h.env.grew a2 fun _ _ h=>h,h.li,h.le,h.ln,h.lp,h.lv,h.lw,h.ls⟩
 obtain⟨S2,b1,b2⟩:=f15_run h1 m;have on2:=b2.on.trans on1;rw[b1,callP_ret,unV_not,oB,ifK_bool]at hF;cases hm:mayD qfj qb9 qfz d with
 | false=>
  rw[hm]at hF;exact⟨S2,rq6 hF,a2.trans b2⟩
 | true=>
  rw[hm,Bool.not_true,cF]at hF;obtain⟨m1,m2,m3,m4,m5,m6⟩:=may_all hm;have n2:=b2.next
  have hB3:=bd_new on2;obtain⟨_,g3,n3⟩:=qcj on2 55 2 (Tr.ofListFrom .nil [.nilptr,.nilslice] 0);rw[oB,qcu]at hF;generalize (nwP 55 2 (Tr.ofListFrom .nil [.nilptr,.nilslice] 0) S2).2=S3 at hB3 g3 n3 hF;have ag3:AgAt S3 S.next 25 4 Tt:=(a1.grew (by omega) (fun h=>h) b2).grew (by omega) (fun h=>h) g3
  rw[show faP 0 false 1 (.ptr S.next 0)=some (.ptr S.next 0)from rfl,oB,ag3.ld1 hB3.on qi9 (by decide) h.t.nm,oB]at hF;dsimp only at hF
  obtain⟨S4,e1,e2,e3,e4⟩:=qel hB3.on 9 (Ev.one (sv [])) [sv wDrv,sv d.nm] (fun v hv=>by
   simp only[List.mem_cons,List.not_mem_nil,or_false]at hv
   rcases hv with rfl|rfl<;>exact qef _) (by show 2<big; unfold big; decide)
  have hB4:=hB3.grew e3 (fun h=>h) (fun _ _ _ h=>h);obtain⟨S5,c1,c2,c3⟩:=qkd (m+7) (l:=[wDrv,d.nm]) hB4 (.inr (.inl rfl)) e2 (by omega) (by simp[sumL,wDrv]; omega) (by simp);rw[show bsP 9 1 2 (Ev.one (sv [])) [(0,(sv [100,114,118])),(1,sv d.nm)] S3=some (.slice S3.next 0 2 2,S4)from e1 none,oB]at hF;dsimp only at hF
  have hc1:qch E0 (ev E0 KD (m+11)) (.fn (.func 16) [] [.ptr S2.next 0]) [.slice S3.next 0 2 2] S4=some (.ret (.tuple []),S5):=by
   rw[qb5 body16.1 body16.2];exact c1
  have gb:Grew (fun x=>S2.next<=x) S3 S5:=(e3.mono fun _ _ h=>(h:False).elim).trans (c3.mono fun x _ hx=>by omega);have n5:=gb.next
  have g05:Grew (fun _=>False) S S5:=Grew.fresh ((a2.trans b2).trans g3) (N:=S2.next) (by omega) gb;have ag5:AgAt S5 S.next 25 4 Tt:=ag3.grew (by omega) (by omega) gb
  rw[hc1,callP_ret,show faP 1 false 1 (.ptr S.next 0)=some (.ptr S.next 1)from rfl,oB,ag5.ld1 c2.on qi9 (by decide) h.t.ins,oB]at hF;dsimp only at hF;have hI5:=h.ins.grew g05;have hE5:=h.env.grew g05 fun _ _ h=>h;rw[hI5.tl.len,oB]at hF;dsimp only at hF
  have hIb:∀x,qc5 vI=some x->x<S2.next:=fun x hx=>by
   rcases h.ins with⟨_,rfl⟩|⟨r,rfl,_,h3,_⟩
   . cases hx
   . cases hx; omega
  have hEb:∀x,qc5 vE=some x->x<S2.next:=fun x hx=>by have:=h.env_lt x hx; omega
  obtain⟨S6,d1,d2,d3⟩:=L53_spec (m:=m+7) (M:=qa1) (N:=S2.next+1) (b:=S2.next) (R6_16 (ev E0 KD (m+11)) qa1 (qbw E0 (ev E0 KD (m+11)) Tryd.f6) qb2) (exB 0 (R6_16 (ev E0 KD (m+11)) qa1 (qbw E0 (ev E0 KD (m+11)) Tryd.f6) qb2) qb2) (.ptr S.next 0) h.li d.ins 0 qa1 S5 _ hI5 hIb c2 rfl (by have:=h.li; unfold qa1; omega) m4 (by simp[qhv,wDrv]; omega);rw[show V.int .i64 0=.int .i64 ((0:Nat):Int)from rfl,show ev E0 KD (m+11)=ev E0 KD (m+7+4)from rfl,d1,exB_same,R6_16_eq]at hF;have gb6:Grew (fun x=>S2.next<=x) S5 S6:=d3.mono fun x _ hx=>by omega
  have n6:=gb6.next
  have ag6:AgAt S6 S.next 25 4 Tt:=ag5.grew (by omega) (by omega) gb6
  have hE6:=hE5.grew gb6 fun x hx hw=>by have:=hEb x hx; omega
  rw[show faP 2 false 1 (.ptr S.next 0)=some (.ptr S.next 2)from rfl,oB,ag6.ld1 d2.on qi9 (by decide) h.t.env,oB]at hF;dsimp only at hF;rw[hE6.len,oB]at hF;dsimp only at hF
  have hfl:(d.ins.flatMap inL).length<=70*d.ins.length:=by
   have:∀l:List Bs,(∀p∈l,p.length<=60)->(l.flatMap inL).length<=70*l.length:=fun l hl=>by
    induction l with
    | nil=>simp
    | cons a l ih=>
     have h1:=ih fun p hp=>hl p (mO _ hp);have h2:=hl a (List.mem_cons_self ..);rw[List.flatMap_cons,lAq,List.length_cons];have:(inL a).length=a.length+4:=by simp[inL,wIn]
     omega
   exact this d.ins m4
  have hfe:(d.env.flatMap envL).length<=700*d.env.length:=by
   have:∀l:List (Bs×Bs),(∀p∈l,p.1.length<=56/\p.2.length<=200)->(l.flatMap envL).length<=700*l.length:=fun l hl=>by
    induction l with
    | nil=>simp
    | cons a l ih=>
     have h1:=ih fun p hp=>hl p (mO _ hp);have h2:=hl a (List.mem_cons_self ..);have h3:=hex_len a.2;rw[List.flatMap_cons,lAq,List.length_cons];have:(envL a).length=a.1.length+(hexD a.2).length+6:=by simp[envL,wEnv]; omega
     omega
   exact this d.env m5
  have hjd:(qhv [wDrv,d.nm]).length<=30:=by simp[qhv,wDrv]; omega
  obtain⟨S7,f1,f2,f3⟩:=L32_spec (m:=m+7) (M:=qa1) (N:=S2.next+1) (b:=S2.next) (R6_17 (ev E0 KD (m+7+4)) qa1 (fun a s=>qba [2,3] a fun a=>qbw E0 (ev E0 KD (m+7+4)) Tryd.f6 a s) qb2) (exB 2 (R6_17 (ev E0 KD (m+7+4)) qa1 (fun a s=>qba [2,3] a fun a=>qbw E0 (ev E0 KD (m+7+4)) Tryd.f6 a s) qb2) qb2) (.ptr S.next 0) h.le d.env 0 qa1 S6 _ hE6 hEb d2 rfl (by have:=h.le; unfold qa1; omega) m5 (by simp only[lAq,List.nil_append,List.length_singleton]; omega);rw[show V.int .i64 0=.int .i64 ((0:Nat):Int)from rfl,f1,exB_same,R6_17_eq]at hF;have gb7:Grew (fun x=>S2.next<=x) S6 S7:=f3.mono fun x _ hx=>by omega
  have n7:=gb7.next
  have ag7:AgAt S7 S.next 25 4 Tt:=ag6.grew (by omega) (by omega) gb7
  obtain⟨S8,k1,k2,k3,k4⟩:=qel f2.on 9 (Ev.one (sv [])) [sv wRun] (fun v hv=>by rw[List.mem_singleton.1 hv]; exact qef _) (by show 1<big; unfold big; decide);have hB8:=f2.grew k3 (fun h=>h) (fun _ _ _ h=>h);obtain⟨S9,o1,o2,o3⟩:=qkd (m+7) (l:=[wRun]) hB8 (.inl rfl) k2 (by omega) (by simp[sumL,wRun]) (by simp only[lAq,List.nil_append,List.length_singleton]; omega);rw[show bsP 9 1 1 (Ev.one (sv [])) [(0,(sv [114,117,110]))] S7=some (.slice S7.next 0 1 1,S8)from k1 none,oB]at hF;dsimp only at hF
  have ho1:qch E0 (ev E0 KD (m+7+4)) (.fn (.func 16) [] [.ptr S2.next 0]) [.slice S7.next 0 1 1] S8=some (.ret (.tuple []),S9):=by
   rw[qb5 body16.1 body16.2];exact o1
  have gb9:Grew (fun x=>S2.next<=x) S7 S9:=(k3.mono fun _ _ h=>(h:False).elim).trans (o3.mono fun x _ hx=>by omega);have n9:=gb9.next
  have on9:=o2.on;have ag9:AgAt S9 S.next 25 4 Tt:=ag7.grew (by omega) (by omega) gb9
  obtain⟨X,L,x1,x2,x3⟩:=told_on (m+10) o2 (by simp) ag9 (by omega);have onX:=x3.on.trans on9;have agX:AgAt X S.next 25 4 Tt:=ag9.grew (by omega) (by omega) x3
  have hscr:=qeq onX (agX.ld1 onX qi9 (show 3<4 by decide) h.t.scr) [];obtain⟨Y,y1,y2,y3,y4⟩:=qeh on9 X [] [L,[],[⟨S.next,3,3+1,false⟩],[],[],[]];have hjr:(qhv [wRun]).length=3:=rfl
  have hpair:qam [L,[],[⟨S.next,3,3+1,false⟩],[],[],[]] [(0,[2])]=true:=by
   refine pairs_one (b:=S.next) ?_ ?_ rfl
   . exact x2
   . intro f hf
     have:f=⟨S.next,3,3+1,false⟩:=List.mem_singleton.1 hf;subst this;exact⟨rfl,rfl⟩
  rw[ho1,callP_ret,qax,show ev E0 KD (m+7+4)=ev E0 KD (m+10+1)from rfl,x1,qcl,show faP 3 false 1 (.ptr S.next 0)=some (.ptr S.next 3)from rfl,oB,qab,qax,hscr,oB]at hF;dsimp only at hF;rw[addStr _ _ (by simp only[lAq,List.nil_append,List.length_singleton]; omega),oB,qab,qax,show(X.lg L).log=L from rfl,show(X.lg [⟨S.next,3,3+1,false⟩]).log=[⟨S.next,3,3+1,false⟩]from rfl,qfk hpair,y1]at hF;have gAll:Grew (fun x=>S2.next<=x) S5 Y:=(gb6.trans (gb7.trans gb9)).trans ((x3.mono fun x _ hx=>by omega).trans ((Grew.of_eq y2 y3 (y4.trans onX.symm)).mono fun _ _ h=>(h:False).elim));refine⟨Y,rq6 (hF.trans ?_),Grew.fresh g05 (N:=S2.next) (by omega) gAll⟩;rw[iP rfl]
  have:([]++(qhv [wDrv,d.nm]++[10])++d.ins.flatMap inL++d.env.flatMap envL++(qhv [wRun]++[10])++d.scr)=prtD d:=by
   unfold prtD preD;simp[qhv]
  rw[this]
end
abbrev D0:DD:=⟨[],[],[],[]⟩
theorem iv0:Iv qfj qb9 qfz 0 D0:=⟨by omega,fun h=>by omega,rfl,rfl,by simp,rfl,rfl,by simp,fun _=>rfl,fun _=>rfl⟩
theorem prs_one {s:Bs} {d:DD} (h:prsD qfj qb9 qfz s=some d) (m:Bs):mayD qfj qb9 qfz d=true/\prtD d=s/\prsD qfj qb9 qfz (s++m)=if d.scr.length+m.length<=4000 then some {d with scr:=d.scr++m}else none:=by
 have h1:prsL qfj qb9 qfz ((s++m).length+2) 0 D0 s=some d:=prs_more _ _ _ _ _ h _ (by rw[lAq]; omega);obtain⟨a,b,c⟩:=prs_ok _ _ _ _ _ iv0 h1;exact⟨a,by simpa [preD]using b,c m⟩
section
variable {S T U:St} {N:Nat} {d:DD} {vI vE:V} {Tt:Tr V}
theorem dx_of {U:St} (ho:U.on=false) (h:DrvT Tt d.nm vI vE d.scr) (hI:TLo U vI d.ins N) (hE:VLo U vE d.env N) (hm:mayD qfj qb9 qfz d=true):Dx U N Tt d vI vE:=by
 obtain⟨m1,m2,m3,m4,m5,m6⟩:=may_all hm;exact⟨ho,h,hI,hE,by omega,by omega,by omega,fun p hp=>by have:=m4 p hp; omega,fun p hp=>by have:=m5 p hp; omega,fun p hp=>by have:=m5 p hp; omega,by omega⟩
theorem take_min (l:List UInt8) (n:Nat):List.take (min l.length n) l=l.take n:=by
 rcases Nat.le_total l.length n with h|h
 . rw[Nat.min_eq_left h,List.take_length,List.take_of_length_le h]
 . rw[Nat.min_eq_right h]
theorem cutN (s:List UInt8) (n:Nat) (S:St):qbf E0 9 (sv s) none (some (.int .i64 ((min s.length n:Nat):Int))) none S=some (sv (s.take n),S):=by
 rw[qe4 und9 s (qeb .i64 (Nat.min_le_left ..)) (Nat.min_le_left ..),List.drop_zero,Nat.sub_zero,take_min]
theorem err_neq (x:Nat):qa8 E0 .neq 27 false true (.iface 38 (.ptr x 0)) .niliface=some (.bool true):=by kernel_rfl
theorem nil_neq:qa8 E0 .neq 27 false true .niliface .niliface=some (.bool false):=by kernel_rfl
theorem nil_eql:qa8 E0 .eql 27 false true .niliface .niliface=some (.bool true):=by kernel_rfl
set_option maxRecDepth 100000 in
theorem one_run (ho:S.on=false) (m:Nat) (s0 r0:Bs) (h0:s0.length<9223372036854775808) (h1:r0.length<9223372036854775808):∃U,(ev E0 KD (m+13)).f 3 [sv s0,sv r0] S=some (.ret (.bool true),U):=by
 suffices hmain:∃U,F3 (ev E0 KD (m+12)) qa1 (sv s0) (sv r0) S=some (.ret (.bool true),U) by
  obtain⟨U,h⟩:=hmain;exact⟨U,rq3 h⟩
 have ls:(s0.take 9000).length<=9000:=by rw[List.length_take]; exact Nat.min_le_left ..
 have lr:(r0.take 100).length<=100:=by rw[List.length_take]; exact Nat.min_le_left ..
 rw[F3_eq,qa9,oB];dsimp only;rw[qlb,show min (s0.length:Int) 9000=((min s0.length 9000:Nat):Int) by omega,oB];dsimp only;rw[cutN,oB];dsimp only;rw[qa9,oB];dsimp only;rw[qlb,show min (r0.length:Int) 100=((min r0.length 100:Nat):Int) by omega,oB];dsimp only;rw[cutN,oB];dsimp only;generalize s0.take 9000=s at ls;generalize r0.take 100=r at lr;obtain⟨N0,hN0,hP⟩:=parse_run ho (m+6) s (by omega);cases hp:prsD qfj qb9 qfz s with
 | none=>
  rw[hp]at hP;obtain⟨U,x,u1,u2⟩:=hP;have onU:=u2.on.trans ho;obtain⟨a1,a2,a3⟩:=qcj onU 25 4 ZD;have on1:=a2.on.trans onU;obtain⟨S2,b1,b2,b3,b4⟩:=a1.stA on1 qi9 ZD;have on2:=b3.on.trans on1;rw[show ev E0 KD (m+12)=ev E0 KD (m+6+6)from rfl,u1,callP_ret,ex0,oB,ex1,oB,oB,show nwP 25 4 (Tr.ofListFrom .nil [(sv []),.nilslice,.nilslice,(sv [])] 0) U=nwP 25 4 ZD U from rfl,qcu,b1,oB];dsimp only;have z0:=b2.ld1 on2 qi9 (show 0<4 by decide) (show ZD.get 0=some (sv []) by unfold ZD; rw[Tr.get_ofList]; rfl);have z1:=b2.ld1 on2 qi9 (show 1<4 by decide) (show ZD.get 1=some .nilslice by unfold ZD; rw[Tr.get_ofList]; rfl);have z2:=b2.ld1 on2 qi9 (show 2<4 by decide) (show ZD.get 2=some .nilslice by unfold ZD; rw[Tr.get_ofList]; rfl);have z3:=b2.ld1 on2 qi9 (show 3<4 by decide) (show ZD.get 3=some (sv []) by unfold ZD; rw[Tr.get_ofList]; rfl);have l0:lnS .nilslice S2=some (.int .i64 0,S2):=rfl;have q0:qa8 E0 .eql 3 false true (.int .i64 0) (.int .i64 0)=some (.bool true):=rfl;rw[err_neq,oB,ifK_bool,cT,show faP 0 false 1 (.ptr U.next 0)=some (.ptr U.next 0)from rfl,oB,z0,oB];dsimp only;rw[eqStr,oB];simp only[beq_self_eq_true,qah,oB,cT,pickV_bool,show faP 3 false 1 (.ptr U.next 0)=some (.ptr U.next 3)from rfl,z3,eqStr,show faP 1 false 1 (.ptr U.next 0)=some (.ptr U.next 1)from rfl,z1,l0,q0,show faP 2 false 1 (.ptr U.next 0)=some (.ptr U.next 2)from rfl,z2]
  rw[show ev E0 KD (m+6+6)=ev E0 KD (m+11+1)from rfl,f5_run,callP_ret];exact⟨S2,rfl⟩
 | some d=>
  rw[hp]at hP;obtain⟨U,T1,vI,vE,u1,u2,u3,u4,onU,u5⟩:=hP;obtain⟨may,prt,again⟩:=prs_one hp r;obtain⟨a1,a2,a3⟩:=qcj onU 25 4 ZD;have on1:=a2.on.trans onU;obtain⟨S2,b1,b2,b3,b4⟩:=a1.stA on1 qi9 T1;have on2:=b3.on.trans on1;have g2:Grew (fun _=>False) U S2:=a2.own (lR _) b3;have hDx:Dx S2 N0 T1 d vI vE:=dx_of on2 u2 (u3.grew g2) (u4.grew g2 fun _ _ h=>h) may;obtain⟨S3,c1,c2⟩:=print_run hDx m;have on3:=c2.on.trans on2;rw[may,iP rfl,prt]at c1;have n2:U.next<S2.next:=by omega
  have b23:AgAt S3 U.next 25 4 T1:=b2.grew n2 (fun h=>h) c2
  rw[show ev E0 KD (m+12)=ev E0 KD (m+6+6)from rfl,u1,callP_ret,ex0,oB,ex1,oB,oB,show nwP 25 4 (Tr.ofListFrom .nil [(sv []),.nilslice,.nilslice,(sv [])] 0) U=nwP 25 4 ZD U from rfl,qcu,b1,oB];dsimp only;rw[nil_neq,oB,ifK_bool,cF,b2.ldA on2 qi9,oB];dsimp only;rw[show ev E0 KD (m+6+6)=ev E0 KD (m+12)from rfl,c1,callP_ret,ex0,oB,ex1,oB,show qa8 E0 .neq 31 false true (.int .i64 0) (.int .i64 0)=some (.bool false) by kernel_rfl,oB];rw[qb0,nF,oB,cT,oB,oB,cT,oB,oB,cT,neStr,oB,pickV_bool,cF,oB,ifK_bool,beq_self_eq_true,Bool.not_true,cF];rw[addStr _ _ (by omega),oB];obtain⟨N1,hN1,hQ⟩:=parse_run on3 (m+6) (s++r) (by rw[lAq]; omega);rw[again]at hQ;have m6:=(may_all may).2.2.2.2.2;have e1:qa8 E0 .add 3 false false (.int .i64 (d.scr.length:Int)) (.int .i64 (r.length:Int))=some (.int .i64 ((d.scr.length+r.length:Nat):Int)):=addN _ _ (by omega)
  have e2:qa8 E0 .gtr 3 false true (.int .i64 ((d.scr.length+r.length:Nat):Int)) (.int .i64 4000)=some (.bool (decide (4000<d.scr.length+r.length))):=by
   rw[binV_ii,intsV_gtr]
   congr 2
   simp;omega
  by_cases hl:d.scr.length+r.length<=4000
  . rw[iP hl]at hQ
    obtain⟨V1,T2,vI',vE',v1,v2,v3,v4,onV,v5⟩:=hQ;obtain⟨d1,d2,d3⟩:=qcj onV 25 4 ZD;have on4:=d2.on.trans onV;obtain⟨S5,f1,f2,f3,f4⟩:=d1.stA on4 qi9 T2;have on5:=f3.on.trans on4;have n3:=c2.next
    have b5:AgAt S5 U.next 25 4 T1:=((b23.grew (by omega) (by omega) v5).grew (by have:=v5.next; omega) (fun h=>h) d2).grew (by have:=v5.next; omega) (by have:=v5.next; omega) f3
    rw[show ev E0 KD (m+12)=ev E0 KD (m+6+6)from rfl,v1,callP_ret,ex0,oB,ex1,oB,show nwP 25 4 (Tr.ofListFrom .nil [(sv []),.nilslice,.nilslice,(sv [])] 0) V1=nwP 25 4 ZD V1 from rfl,oB,qcu,f1,oB];dsimp only;have y3:=b5.ld1 on5 qi9 (show 3<4 by decide) u2.scr;have y0:=b5.ld1 on5 qi9 (show 0<4 by decide) u2.nm;have x3:=f2.ld1 on5 qi9 (show 3<4 by decide) v2.scr;have x0:=f2.ld1 on5 qi9 (show 0<4 by decide) v2.nm;rw[show faP 3 false 1 (.ptr U.next 0)=some (.ptr U.next 3)from rfl,oB,y3,oB];dsimp only;rw[qa9,oB];dsimp only;rw[qa9,oB];dsimp only;rw[e1,oB,e2,dF (by omega),oB,ifK_bool,cF,nil_eql,oB];simp only[qah,oB,cT,pickV_bool,show faP 3 false 1 (.ptr V1.next 0)=some (.ptr V1.next 3)from rfl,x3,show faP 3 false 1 (.ptr U.next 0)=some (.ptr U.next 3)from rfl,y3,addStr _ _ (show d.scr.length+r.length<4611686018427387904 by omega),eqStr,beq_self_eq_true,show faP 0 false 1 (.ptr V1.next 0)=some (.ptr V1.next 0)from rfl,x0,show faP 0 false 1 (.ptr U.next 0)=some (.ptr U.next 0)from rfl,y0];rw[show ev E0 KD (m+6+6)=ev E0 KD (m+11+1)from rfl,f5_run,callP_ret];exact⟨S5,rfl⟩
  . rw[iN hl]at hQ
    obtain⟨V1,x,v1,v5⟩:=hQ;have onV:=v5.on.trans on3;obtain⟨d1,d2,d3⟩:=qcj onV 25 4 ZD;have on4:=d2.on.trans onV;obtain⟨S5,f1,f2,f3,f4⟩:=d1.stA on4 qi9 ZD;have on5:=f3.on.trans on4;have n3:=c2.next
    have b5:AgAt S5 U.next 25 4 T1:=((b23.grew (by omega) (by omega) v5).grew (by have:=v5.next; omega) (fun h=>h) d2).grew (by have:=v5.next; omega) (by have:=v5.next; omega) f3
    rw[show ev E0 KD (m+12)=ev E0 KD (m+6+6)from rfl,v1,callP_ret,ex0,oB,ex1,oB,show nwP 25 4 (Tr.ofListFrom .nil [(sv []),.nilslice,.nilslice,(sv [])] 0) V1=nwP 25 4 ZD V1 from rfl,oB,qcu,f1,oB];dsimp only;have y3:=b5.ld1 on5 qi9 (show 3<4 by decide) u2.scr;rw[show faP 3 false 1 (.ptr U.next 0)=some (.ptr U.next 3)from rfl,oB,y3,oB];dsimp only;rw[qa9,oB];dsimp only;rw[qa9,oB];dsimp only;rw[e1,oB,e2,dT (by omega),oB,ifK_bool,cT,err_neq,oB];simp only[qah,oB,cT,pickV_bool];rw[show ev E0 KD (m+6+6)=ev E0 KD (m+11+1)from rfl,f5_run,callP_ret];exact⟨S5,rfl⟩
end
end Go.Proofs.YtpgegoeghaplkaaDoor.W
