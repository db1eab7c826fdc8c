/-
  WHAT THE FUNCTIONS COME TO: each is read by the evaluator,printed,and told as a function of data,part 10 of 15 (no condition).
-/
import Derived.Test.YtpgegoeghaplkaaGreatDoorW9
import Derived.Test.YtpgegoeghaplkaaGreatDoorProg
import Derived.KernelRfl
noncomputable section
namespace Go.Proofs.YtpgegoeghaplkaaGreatDoor.W
open Go.Proofs.YtpgegoeghaplkaaGreatDoor.Ev Go.RowKit
theorem kfVal_lg (args:List V):Lg.LocP fun s=>kfVal.run args s:=by
 unfold kfVal;dsimp only;split
 . split
   . split
     . exact Lg.LocP.ret _
     . refine Lg.Loc.bind (Lg.loc_ld _ _) fun v=>?_
       dsimp only;split
       . exact Lg.LocP.ret _
       . exact Lg.Loc.none
   . exact Lg.Loc.none
 . exact Lg.Loc.none
theorem lgD:Lg.KnLoc KD:=(((((((((((Lg.knLoc_nil).add 52 fun _=>kfCopyCheck_lg _ _).add 20 fun _=>kfString_lg _ _).add 35 fun _=>Lg.specKF_lg _).add 44 fun _=>Lg.specKF_lg _).add 90 fun _=>Lg.specKF_lg _).add 19 fun _=>Lg.specKF_lg _).add 10 fun _=>Lg.specKF_lg _).add 14 fun _=>Lg.specKF_lg _).add 12 fun _=>Lg.specKF_lg _).add 23 fun _=>Lg.specKF_lg _).add 62 kfVal_lg
theorem kfVal_fz {F:Fz.Fz} (args:List V):Fz.LocP F fun s=>kfVal.run args s:=by
 unfold kfVal;dsimp only;split
 . split
   . split
     . exact Fz.LocP.ret _
     . refine Fz.Loc.bind (Fz.loc_ld _ _) fun v=>?_
       dsimp only;split
       . exact Fz.LocP.ret _
       . exact Fz.Loc.none
   . exact Fz.Loc.none
 . exact Fz.Loc.none
theorem fzD {F:Fz.Fz}:Fz.KnLoc F KD:=(((((((((((Fz.knLoc_nil).add 52 fun _=>kfCopyCheck_fz _ _).add 20 fun _=>kfString_fz _ _).add 35 fun _=>Fz.specKF_fz _).add 44 fun _=>Fz.specKF_fz _).add 90 fun _=>Fz.specKF_fz _).add 19 fun _=>Fz.specKF_fz _).add 10 fun _=>Fz.specKF_fz _).add 14 fun _=>Fz.specKF_fz _).add 12 fun _=>Fz.specKF_fz _).add 23 fun _=>Fz.specKF_fz _).add 62 fun a=>kfVal_fz a
theorem body16:E0.ext.get 16=none/\qb5 E0 16=true:=⟨by kernel_rfl,by kernel_rfl⟩
theorem path_len {s:Bs} (h:qb1 s=true):s.length<=60:=by
 unfold qb1 at h;simp only[bA]at h;have h1:=h.2.2;unfold qf0 chkN at h1;split at h1
 . cases h1
 . rename_i h2
   rw[List.length_drop]at h2;omega
theorem var_len {s:Bs} (h:qhb s=true):s.length<=56:=by
 unfold qhb at h;simp only[bA,decide_eq_true_eq]at h;exact h.2.1.1.2
theorem qmt (v:Bs):(hexD v).length<=2*v.length+1:=by
 unfold hexD;split
 . simp
 . have:∀v:Bs,(v.flatMap fun c=>[hexC (c.toNat/16),hexC (c.toNat%16)]).length=2*v.length:=fun v=>by
    induction v with
    | nil=>rfl
    | cons c v ih=>rw[List.flatMap_cons,lAq,ih]; simp; omega
   rw[this]; omega
section
variable {S T U:St} {b N q0 N1:Nat} {d:DD} {vI vE:V} {Tt:Tr V}
theorem in_line (p:Bs):qmv [wIn,p]++[10]=inL p:=by unfold inL; simp[qmv]
theorem env_line (p:Bs×Bs):qmv [wEnv,p.1,hexD p.2]++[10]=envL p:=by unfold envL; simp[qmv]
theorem L53_spec {m M:Nat} (nk:Ac->St->Rs) (ek:Nat->Ac->St->Rs) (v1:V) {l:List Bs} (hl:l.length<=1000) :
 ∀(q:List Bs) (i n:Nat) (S:St) (bs:Bs),TLo S vI l N1->(∀x,qk4 vI=some x->x<b)->Bd S b bs N->l.drop i=q->q.length<n->(∀p∈l,p.length<=60)->bs.length+100*q.length<=30000->
 ∃U,L6_53 (ev E0 KD (m+4)) M nk ek n v1 (.ptr b 0) (.fn (.func 16) [] [.ptr b 0]) vI (.int .i64 (l.length:Int)) (.int .i64 (i:Int)) S=ek 0 (fr 54 [(1,v1),(4,.ptr b 0),(5,.fn (.func 16) [] [.ptr b 0])]) U/\Bd U b (bs++q.flatMap inL) N/\Grew (fun x=>x=b\/N<=x) S U
 | _,_,0,_,_,_,_,_,_,hn,_,_=>by omega
 | [],i,n+1,S,bs,_,_,hB,hi,_,_,_=>by
  refine⟨S,?_,by simpa using hB,Grew.refl _ _⟩;rw[L6_53_eq,qds,dF (Nat.not_lt.2 (qau hi)),oB,ifK_bool,cF]
 | a::q,i,n+1,S,bs,h,hb,hB,hi,hn,hp,hk=>by
  obtain⟨hlt,hc,hr',hm⟩:=qba hi;rw[List.length_cons]at hk;have hbN:=hB.2.1;obtain⟨p,p1,p2⟩:=h.tl.ld hB.on (show l[i]?=some a by rw[List.getElem?_eq_getElem hlt,hc])
  obtain⟨S1,e1,e2,e3,e4⟩:=qe5 hB.on 9 (Ev.one (sv [])) [sv wIn,sv a] (fun v hv=>by
   simp only[List.mem_cons,List.not_mem_nil,or_false]at hv
   rcases hv with rfl|rfl<;>exact qkg _) (by show 2<big; unfold big; decide)
  have hB1:=hB.grew e3 (fun h=>h) (fun _ _ _ h=>h);have hla:=hp a hm;obtain⟨S2,a1,a2,a3⟩:=qll m (l:=[wIn,a]) hB1 (.inr (.inl rfl)) e2 (by omega) (by simp[sumL,wIn]; omega) (by omega);have g:Grew (fun x=>x=b\/N<=x) S S2:=(e3.mono fun _ _ h=>(h:False).elim).trans a3;rw[in_line]at a2;have hT:=h.grewW g fun x hx hw=>by have:=hb x hx; omega
  obtain⟨U,d1,d2,d3⟩:=L53_spec (m:=m) (M:=M) nk ek v1 hl q (i+1) n S2 _ hT hb a2 hr' (by simpa using hn) hp (by rw[lAq]; simp[inL,wIn]; omega);refine⟨U,?_,by rw[List.flatMap_cons]; simpa using d2,g.trans d3⟩;rw[L6_53_eq,qds,dT hlt,oB,ifK_bool,cT,p1,oB,p2,oB];dsimp only;rw[show bsP 9 1 2 (Ev.one (sv [])) [(0,(sv [105,110])),(1,sv a)] S=some (.slice S.next 0 2 2,S1)from e1 none,oB];dsimp only;rw[qbm body16.1 body16.2];show(qaf ((ev E0 KD (m+4)).f 16 [.slice S.next 0 2 2,.ptr b 0] S1) _)=_;rw[show(ev E0 KD (m+4)).f 16 [.slice S.next 0 2 2,.ptr b 0] S1=_ from a1,callP_ret,qc1 (by omega),oB,d1]
theorem pairs6 {x:Nat} (l l2:List LE):qaw [[],[],[⟨x,0,0+1,false⟩],[],[⟨x,1,1+1,false⟩],[],l,l2] [(2,[4,5])]=true:=by
 have h1:qdt [⟨x,0,0+1,false⟩] [⟨x,1,1+1,false⟩]=false:=qei (by simp);have h2:qdt [⟨x,0,0+1,false⟩] []=false:=qei (by simp);show(bif (bif qdt [⟨x,0,0+1,false⟩] [⟨x,1,1+1,false⟩]then true else(bif qdt [⟨x,0,0+1,false⟩] []then true else false))then false else true)=true;rw[h1,h2];rfl
set_option maxRecDepth 100000 in
theorem L32_spec {m M:Nat} (nk:Ac->St->Rs) (ek:Nat->Ac->St->Rs) (v1:V) {l:List (Bs×Bs)} (hl:l.length<=1000) :
 ∀(q:List (Bs×Bs)) (i n:Nat) (S:St) (bs:Bs),VLo S vE l N1->(∀x,qk4 vE=some x->x<b)->Bd S b bs N->l.drop i=q->q.length<n->(∀p∈l,p.1.length<=56/\p.2.length<=200)->bs.length+1000*q.length<=49000->
 ∃U,L6_32 (ev E0 KD (m+4)) M nk ek n v1 (.ptr b 0) (.fn (.func 16) [] [.ptr b 0]) vE (.int .i64 (l.length:Int)) (.int .i64 (i:Int)) S=ek 2 (fr 54 [(1,v1),(4,.ptr b 0),(5,.fn (.func 16) [] [.ptr b 0])]) U/\Bd U b (bs++q.flatMap envL) N/\Grew (fun x=>x=b\/N<=x) S U
 | _,_,0,_,_,_,_,_,_,hn,_,_=>by omega
 | [],i,n+1,S,bs,_,_,hB,hi,_,_,_=>by
  refine⟨S,?_,by simpa using hB,Grew.refl _ _⟩;rw[L6_32_eq,qds,dF (Nat.not_lt.2 (qau hi)),oB,ifK_bool,cF]
 | p::q,i,n+1,S,bs,h,hb,hB,hi,hn,hp,hk=>by
  obtain⟨hlt,hc,hr',hm⟩:=qba hi;rw[List.length_cons]at hk;have hbN:=hB.2.1;have hNS:=hB.2.2.1;have ho:=hB.on;obtain⟨y,y1,y2⟩:=h.ldA ho (show l[i]?=some p by rw[List.getElem?_eq_getElem hlt,hc]);obtain⟨a1,a2,a3⟩:=qc7 ho 41 2 (Tr.ofListFrom .nil [(sv []),(sv [])] 0);have on1:=a2.on.trans ho;obtain⟨S2,b1,b2,b3,b4⟩:=a1.stA on1 big2 (qip p);have on2:=b3.on.trans on1;have g2:Grew (fun _=>False) S S2:=a2.own (lR _) b3;have hB2:=hB.grew g2 (fun h=>h) (fun _ _ _ h=>h);obtain⟨l1,l2⟩:=hp p hm;have hx:=qmt p.2;have r1:=qbx on2 (b2.ld1 on2 big2 (show 0<2 by decide) (show(qip p).get 0=some (sv p.1) by unfold qip; rw[Tr.get_ofList]; rfl)) [];have r2:=qbx on2 (b2.ld1 on2 big2 (show 1<2 by decide) (show(qip p).get 1=some (sv p.2) by unfold qip; rw[Tr.get_ofList]; rfl)) []
  obtain⟨S3,e1,e2,e3,e4⟩:=qe5 on2 9 (Ev.one (sv [])) [sv wEnv,sv p.1,sv (hexD p.2)] (fun v hv=>by
   simp only[List.mem_cons,List.not_mem_nil,or_false]at hv
   rcases hv with rfl|rfl|rfl<;>exact qkg _) (by show 3<big; unfold big; decide)
  have hB3:=hB2.grew e3 (fun h=>h) (fun _ _ _ h=>h);obtain⟨S4,c1,c2,c3⟩:=qll m (l:=[wEnv,p.1,hexD p.2]) hB3 (.inr (.inr rfl)) e2 (by omega) (by simp[sumL,wEnv]; omega) (by omega);have on4:=c2.on
  have hcall:qc8 E0 (ev E0 KD (m+4)) (.fn (.func 16) [] [.ptr b 0]) [.slice S2.next 0 3 3] S3=some (.ret (.tuple []),S4):=by
   rw[qbm body16.1 body16.2];exact c1
  obtain⟨l',hcall'⟩:=Lg.callK_lg lgD body16.1 hcall [];obtain⟨S5,z1,z2,z3,z4⟩:=qjp on2 S4 l' [[],[],[⟨S.next,0,0+1,false⟩],[],[⟨S.next,1,1+1,false⟩],[],[⟨S2.next,0,big,true⟩],l'];have g5:=Grew.of_eq z2 z3 (z4.trans on4.symm);have hB5:=c2.grew g5 (fun h=>h) (fun _ _ _ h=>h);rw[env_line]at hB5;have g:Grew (fun x=>x=b\/N<=x) S S5:=(g2.mono fun _ _ h=>(h:False).elim).trans ((e3.mono fun _ _ h=>(h:False).elim).trans (c3.trans (g5.mono fun _ _ h=>(h:False).elim)));have hE5:=h.grew g fun x hx hw=>by have:=hb x hx; omega
  obtain⟨U,d1,d2,d3⟩:=L32_spec (m:=m) (M:=M) nk ek v1 hl q (i+1) n S5 _ hE5 hb hB5 hr' (by simpa using hn) hp (by rw[lAq]; simp[envL,wEnv]; omega);refine⟨U,?_,by rw[List.flatMap_cons]; simpa using d2,g.trans d3⟩;rw[L6_32_eq,qds,dT hlt,oB,ifK_bool,cT,y1,oB,y2,oB];dsimp only;rw[oB,qet,b1,oB];dsimp only;rw[show faP 0 false 1 (.ptr S.next 0)=some (.ptr S.next 0)from rfl,oB,qdw,r1,oB];dsimp only;rw[show faP 1 false 1 (.ptr S.next 0)=some (.ptr S.next 1)from rfl,oB,qby,qdw,r2,oB];dsimp only;rw[qby,qdw,show ev E0 KD (m+4)=ev E0 KD (m+3+1)from rfl,hex_k (m+3) p.2 (by omega),qal];have e1':bsP 9 1 3 (Ev.one (sv [])) [(0,sv [101,110,118]),(1,sv p.1),(2,sv (hexD p.2))] (S2.lg [])=some (.slice S2.next 0 3 3,S3.lg [⟨S2.next,0,big,true⟩]):=e1 (some []);rw[qby,qdw,e1',oB];dsimp only;rw[qby,qdw,show ev E0 KD (m+3+1)=ev E0 KD (m+4)from rfl,hcall',qal];rw[show(S2.lg [⟨S.next,0,0+1,false⟩]).log=[⟨S.next,0,0+1,false⟩]from rfl,show(S2.lg [⟨S.next,1,1+1,false⟩]).log=[⟨S.next,1,1+1,false⟩]from rfl,show(S2.lg []).log=[]from rfl,show(S3.lg [⟨S2.next,0,big,true⟩]).log=[⟨S2.next,0,big,true⟩]from rfl,show(S4.lg l').log=l' from rfl,qb3 (pairs6 _ _),z1,qc1 (by omega),oB,d1]
end
section
variable {S T U:St} {b N q0 N1:Nat} {d:DD} {vI vE:V} {Tt:Tr V}
theorem told_on (m:Nat) {bs:Bs} (h:Bd S b bs N) (h0:bs≠[]) {q:Nat} (hq:AgAt S q 25 4 Tt) (hqb:q<b):∃U L,(ev E0 KD (m+1)).f 20 [.ptr b 0] (S.lg [])=some (.ret (sv bs),U.lg L)/\(∀e∈L,e.w=false\/e.b≠q)/\Grew (fun x=>N<=x) S U:=by
 obtain⟨U,a1,a2⟩:=qjv (K:=KD) rfl m h h0;obtain⟨c,c1,c2⟩:=hq;have hbN:=h.2.1; have hNS:=h.2.2.1;have gi:Grew (fun x=>x=q) S (icy S q 25 4 1 c):=qd8 _ _;have hI:Bd (icy S q 25 4 1 c) b bs N:=h.grew gi (by omega) (fun x h1 h2 e=>by omega);obtain⟨U',k1,k2⟩:=qjv (K:=KD) rfl m hI h0;obtain⟨L,q1,q2⟩:=Fz.ev_log fzD lgD (icy_same c1 (by omega)) k1 a1;exact⟨U,L,q1,q2,a2⟩
theorem may_all (h:qje qf0 qb1 qhb d=true):d.ins.length<=8/\d.env.length<=16/\d.nm.length<=20/\(∀p∈d.ins,p.length<=60)/\(∀p∈d.env,p.1.length<=56/\p.2.length<=200)/\d.scr.length<=4000:=by
 unfold qje at h;simp only[bA,decide_eq_true_eq,List.all_eq_true]at h;obtain⟨⟨⟨⟨⟨h1,h2⟩,h3⟩,h4⟩,h5⟩,h6⟩:=h;refine⟨h2.1,h2.2,?_,fun p hp=>path_len (h3 p hp),fun p hp=>⟨var_len (h5 p hp).1,(h5 p hp).2⟩,h6⟩;unfold qf0 chkN at h1;split at h1
 . cases h1
 . omega
set_option maxRecDepth 100000 in
theorem print_run (h:Dx S N Tt d vI vE) (m:Nat):∃U,(ev E0 KD (m+12)).f 6 [.agg 4 Tt] S=some (.ret (.tuple (if qje qf0 qb1 qhb d=true then [sv (prtD d),.int .i64 0]else [sv [],.int .i64 2])),U)/\Grew (fun _=>False) S U:=by
 have ho:=h.on;obtain⟨a1,a2,a3⟩:=qc7 ho 25 4 Tt;have on1:=a2.on.trans ho;have hF:=F6_eq (ev E0 KD (m+11)) qa1 (.agg 4 Tt) S;rw[show qjy 25 (.agg 4 Tt) S=some (.ptr S.next 0,(nwP 25 4 Tt S).2)from rfl,oB]at hF;dsimp only at hF;generalize (nwP 25 4 Tt S).2=S1 at a1 a2 a3 on1 hF;rw[a1.ldA on1 qdc,oB]at hF;dsimp only at hF;have h1:Dx S1 N Tt d vI vE:=⟨on1,h.t,h.ins.grew a2,h.env.grew a2 fun _ _ h=>h,h.li,h.le,h.ln,h.lp,h.lv,h.lw,h.ls⟩
 obtain⟨S2,b1,b2⟩:=f15_run h1 m;have on2:=b2.on.trans on1;rw[b1,callP_ret,unV_not,oB,ifK_bool]at hF;cases hm:qje qf0 qb1 qhb d with
 | false=>
  rw[hm]at hF;exact⟨S2,rq6 hF,a2.trans b2⟩
 | true=>
  rw[hm,Bool.not_true,cF]at hF;obtain⟨m1,m2,m3,m4,m5,m6⟩:=may_all hm;have n2:=b2.next
  have hB3:=bd_new on2;obtain⟨_,g3,n3⟩:=qc7 on2 45 2 (Tr.ofListFrom .nil [.nilptr,.nilslice] 0);rw[oB,qet]at hF;generalize (nwP 45 2 (Tr.ofListFrom .nil [.nilptr,.nilslice] 0) S2).2=S3 at hB3 g3 n3 hF;have ag3:AgAt S3 S.next 25 4 Tt:=(a1.grew (by omega) (fun h=>h) b2).grew (by omega) (fun h=>h) g3
  rw[show faP 0 false 1 (.ptr S.next 0)=some (.ptr S.next 0)from rfl,oB,ag3.ld1 hB3.on qdc (by decide) h.t.nm,oB]at hF;dsimp only at hF
  obtain⟨S4,e1,e2,e3,e4⟩:=qe5 hB3.on 9 (Ev.one (sv [])) [sv wDrv,sv d.nm] (fun v hv=>by
   simp only[List.mem_cons,List.not_mem_nil,or_false]at hv
   rcases hv with rfl|rfl<;>exact qkg _) (by show 2<big; unfold big; decide)
  have hB4:=hB3.grew e3 (fun h=>h) (fun _ _ _ h=>h);obtain⟨S5,c1,c2,c3⟩:=qll (m+7) (l:=[wDrv,d.nm]) hB4 (.inr (.inl rfl)) e2 (by omega) (by simp[sumL,wDrv]; omega) (by simp);rw[show bsP 9 1 2 (Ev.one (sv [])) [(0,(sv [100,114,118])),(1,sv d.nm)] S3=some (.slice S3.next 0 2 2,S4)from e1 none,oB]at hF;dsimp only at hF
  have hc1:qc8 E0 (ev E0 KD (m+11)) (.fn (.func 16) [] [.ptr S2.next 0]) [.slice S3.next 0 2 2] S4=some (.ret (.tuple []),S5):=by
   rw[qbm body16.1 body16.2];exact c1
  have gb:Grew (fun x=>S2.next<=x) S3 S5:=(e3.mono fun _ _ h=>(h:False).elim).trans (c3.mono fun x _ hx=>by omega);have n5:=gb.next
  have g05:Grew (fun _=>False) S S5:=Grew.fresh ((a2.trans b2).trans g3) (N:=S2.next) (by omega) gb;have ag5:AgAt S5 S.next 25 4 Tt:=ag3.grew (by omega) (by omega) gb
  rw[hc1,callP_ret,show faP 1 false 1 (.ptr S.next 0)=some (.ptr S.next 1)from rfl,oB,ag5.ld1 c2.on qdc (by decide) h.t.ins,oB]at hF;dsimp only at hF;have hI5:=h.ins.grew g05;have hE5:=h.env.grew g05 fun _ _ h=>h;rw[hI5.tl.len,oB]at hF;dsimp only at hF
  have hIb:∀x,qk4 vI=some x->x<S2.next:=fun x hx=>by
   rcases h.ins with⟨_,rfl⟩|⟨r,rfl,_,h3,_⟩
   . cases hx
   . cases hx; omega
  have hEb:∀x,qk4 vE=some x->x<S2.next:=fun x hx=>by have:=h.env_lt x hx; omega
  obtain⟨S6,d1,d2,d3⟩:=L53_spec (m:=m+7) (M:=qa1) (N:=S2.next+1) (b:=S2.next) (R6_16 (ev E0 KD (m+11)) qa1 (qat E0 (ev E0 KD (m+11)) Tryz.f6) qad) (exB 0 (R6_16 (ev E0 KD (m+11)) qa1 (qat E0 (ev E0 KD (m+11)) Tryz.f6) qad) qad) (.ptr S.next 0) h.li d.ins 0 qa1 S5 _ hI5 hIb c2 rfl (by have:=h.li; unfold qa1; omega) m4 (by simp[qmv,wDrv]; omega);rw[show V.int .i64 0=.int .i64 ((0:Nat):Int)from rfl,show ev E0 KD (m+11)=ev E0 KD (m+7+4)from rfl,d1,exB_same,R6_16_eq]at hF;have gb6:Grew (fun x=>S2.next<=x) S5 S6:=d3.mono fun x _ hx=>by omega
  have n6:=gb6.next
  have ag6:AgAt S6 S.next 25 4 Tt:=ag5.grew (by omega) (by omega) gb6
  have hE6:=hE5.grew gb6 fun x hx hw=>by have:=hEb x hx; omega
  rw[show faP 2 false 1 (.ptr S.next 0)=some (.ptr S.next 2)from rfl,oB,ag6.ld1 d2.on qdc (by decide) h.t.env,oB]at hF;dsimp only at hF;rw[hE6.len,oB]at hF;dsimp only at hF
  have hfl:(d.ins.flatMap inL).length<=70*d.ins.length:=by
   have:∀l:List Bs,(∀p∈l,p.length<=60)->(l.flatMap inL).length<=70*l.length:=fun l hl=>by
    induction l with
    | nil=>simp
    | cons a l ih=>
     have h1:=ih fun p hp=>hl p (mO _ hp);have h2:=hl a (List.mem_cons_self ..);rw[List.flatMap_cons,lAq,List.length_cons];have:(inL a).length=a.length+4:=by simp[inL,wIn]
     omega
   exact this d.ins m4
  have hfe:(d.env.flatMap envL).length<=700*d.env.length:=by
   have:∀l:List (Bs×Bs),(∀p∈l,p.1.length<=56/\p.2.length<=200)->(l.flatMap envL).length<=700*l.length:=fun l hl=>by
    induction l with
    | nil=>simp
    | cons a l ih=>
     have h1:=ih fun p hp=>hl p (mO _ hp);have h2:=hl a (List.mem_cons_self ..);have h3:=qmt a.2;rw[List.flatMap_cons,lAq,List.length_cons];have:(envL a).length=a.1.length+(hexD a.2).length+6:=by simp[envL,wEnv]; omega
     omega
   exact this d.env m5
  have hjd:(qmv [wDrv,d.nm]).length<=30:=by simp[qmv,wDrv]; omega
  obtain⟨S7,f1,f2,f3⟩:=L32_spec (m:=m+7) (M:=qa1) (N:=S2.next+1) (b:=S2.next) (R6_17 (ev E0 KD (m+7+4)) qa1 (fun a s=>qa7 [2,3] a fun a=>qat E0 (ev E0 KD (m+7+4)) Tryz.f6 a s) qad) (exB 2 (R6_17 (ev E0 KD (m+7+4)) qa1 (fun a s=>qa7 [2,3] a fun a=>qat E0 (ev E0 KD (m+7+4)) Tryz.f6 a s) qad) qad) (.ptr S.next 0) h.le d.env 0 qa1 S6 _ hE6 hEb d2 rfl (by have:=h.le; unfold qa1; omega) m5 (by simp only[lAq,List.nil_append,List.length_singleton]; omega);rw[show V.int .i64 0=.int .i64 ((0:Nat):Int)from rfl,f1,exB_same,R6_17_eq]at hF;have gb7:Grew (fun x=>S2.next<=x) S6 S7:=f3.mono fun x _ hx=>by omega
  have n7:=gb7.next
  have ag7:AgAt S7 S.next 25 4 Tt:=ag6.grew (by omega) (by omega) gb7
  obtain⟨S8,k1,k2,k3,k4⟩:=qe5 f2.on 9 (Ev.one (sv [])) [sv wRun] (fun v hv=>by rw[List.mem_singleton.1 hv]; exact qkg _) (by show 1<big; unfold big; decide);have hB8:=f2.grew k3 (fun h=>h) (fun _ _ _ h=>h);obtain⟨S9,o1,o2,o3⟩:=qll (m+7) (l:=[wRun]) hB8 (.inl rfl) k2 (by omega) (by simp[sumL,wRun]) (by simp only[lAq,List.nil_append,List.length_singleton]; omega);rw[show bsP 9 1 1 (Ev.one (sv [])) [(0,(sv [114,117,110]))] S7=some (.slice S7.next 0 1 1,S8)from k1 none,oB]at hF;dsimp only at hF
  have ho1:qc8 E0 (ev E0 KD (m+7+4)) (.fn (.func 16) [] [.ptr S2.next 0]) [.slice S7.next 0 1 1] S8=some (.ret (.tuple []),S9):=by
   rw[qbm body16.1 body16.2];exact o1
  have gb9:Grew (fun x=>S2.next<=x) S7 S9:=(k3.mono fun _ _ h=>(h:False).elim).trans (o3.mono fun x _ hx=>by omega);have n9:=gb9.next
  have on9:=o2.on;have ag9:AgAt S9 S.next 25 4 Tt:=ag7.grew (by omega) (by omega) gb9
  obtain⟨X,L,x1,x2,x3⟩:=told_on (m+10) o2 (by simp) ag9 (by omega);have onX:=x3.on.trans on9;have agX:AgAt X S.next 25 4 Tt:=ag9.grew (by omega) (by omega) x3
  have hscr:=qbx onX (agX.ld1 onX qdc (show 3<4 by decide) h.t.scr) [];obtain⟨Y,y1,y2,y3,y4⟩:=qjp on9 X [] [L,[],[⟨S.next,3,3+1,false⟩],[],[],[]];have hjr:(qmv [wRun]).length=3:=rfl
  have hpair:qaw [L,[],[⟨S.next,3,3+1,false⟩],[],[],[]] [(0,[2])]=true:=by
   refine pairs_one (b:=S.next) ?_ ?_ rfl
   . exact x2
   . intro f hf
     have:f=⟨S.next,3,3+1,false⟩:=List.mem_singleton.1 hf;subst this;exact⟨rfl,rfl⟩
  rw[ho1,callP_ret,qdw,show ev E0 KD (m+7+4)=ev E0 KD (m+10+1)from rfl,x1,qal,show faP 3 false 1 (.ptr S.next 0)=some (.ptr S.next 3)from rfl,oB,qby,qdw,hscr,oB]at hF;dsimp only at hF;rw[qc6 _ _ (by simp only[lAq,List.nil_append,List.length_singleton]; omega),oB,qby,qdw,show(X.lg L).log=L from rfl,show(X.lg [⟨S.next,3,3+1,false⟩]).log=[⟨S.next,3,3+1,false⟩]from rfl,qb3 hpair,y1]at hF;have gAll:Grew (fun x=>S2.next<=x) S5 Y:=(gb6.trans (gb7.trans gb9)).trans ((x3.mono fun x _ hx=>by omega).trans ((Grew.of_eq y2 y3 (y4.trans onX.symm)).mono fun _ _ h=>(h:False).elim));refine⟨Y,rq6 (hF.trans ?_),Grew.fresh g05 (N:=S2.next) (by omega) gAll⟩;rw[iP rfl]
  have:([]++(qmv [wDrv,d.nm]++[10])++d.ins.flatMap inL++d.env.flatMap envL++(qmv [wRun]++[10])++d.scr)=prtD d:=by
   unfold prtD preD;simp[qmv]
  rw[this]
end
end Go.Proofs.YtpgegoeghaplkaaGreatDoor.W
namespace Go.Proofs.YtpgegoeghaplkaaGreatDoor.W
open Go.Proofs.YtpgegoeghaplkaaGreatDoor.Ev
def Cl (s:Bs):Prop:=∀c∈s,c≠10/\c≠32
theorem Cl.cons {c:UInt8} {s:Bs} (h:Cl (c::s)):(c≠10/\c≠32)/\Cl s:=⟨h c (List.mem_cons_self ..),fun x hx=>h x (mO _ hx)⟩
def digs (c:UInt8):Bs:=[hexC (c.toNat/16),hexC (c.toNat%16)]
section
variable {chk isPath variable_:Bs->Bool}
end
open Go.RowKit
theorem all256c {p:UInt8->Bool} (h:(List.range 256).all (fun n=>p (UInt8.ofNat n))=true) (c:UInt8):p c=true:=by
 have:=List.all_eq_true.1 h c.toNat (List.mem_range.2 c.toNat_lt)
 rwa [UInt8.ofNat_toNat]at this
theorem qmo {α:Type} (f:α->Bs) (k:Nat):∀l:List α,(∀a∈l,(f a).length<=k)->(l.flatMap f).length<=k*l.length
 | [],_=>Nat.zero_le _
 | a::l,h=>by
  have h1:=h a (List.mem_cons_self ..);have h2:=qmo f k l fun x hx=>h x (mO _ hx);rw[List.flatMap_cons,lAq,List.length_cons,Nat.mul_succ]; omega
theorem prt_len {d:DD} (h:qje qf0 qb1 qhb d=true):(prtD d).length<=15000:=by
 obtain⟨m1,m2,m3,m4,m5,m6⟩:=may_all h
 have h1:=qmo inL 64 d.ins fun p hp=>by
  have:=m4 p hp;unfold inL wIn;simp; omega
 have h2:=qmo envL 463 d.env fun p hp=>by
  have:=m5 p hp;have h3:=qmt p.2;unfold envL wEnv;simp; omega
 have h3:64*d.ins.length<=64*8:=Nat.mul_le_mul_left _ m1;have h4:463*d.env.length<=463*16:=Nat.mul_le_mul_left _ m2;unfold prtD preD;rw[iN (by decide),iP rfl];simp only[lAq,List.length_cons,List.length_nil];unfold wDrv wRun;simp only[List.length_cons,List.length_nil];omega
def pathD (d:DD):Bs:=ql6 ([100,114,118,58]++prtD d)++[45]++d.nm
section
variable {S T U:St} {N:Nat} {d:DD} {vI vE:V} {Tt:Tr V}
theorem rq8' {n:Nat} {args:List V} {s:St} {r:En×St} (e:qaq E0 (ev E0 KD n) qa1 Tryz.f8 B8 args s=some r):(ev E0 KD (n+1)).f 8 args s=some r:=qa6 (c:=C8) (d:=B8) (by kernel_rfl) (by kernel_rfl) (qa3 C8 _ (by kernel_rfl)) rfl e
theorem hash_k (m:Nat) (s:Bs) (hs:s.length<80000) (S:St):(ev E0 KD (m+1)).f 14 [sv s] S=some (.ret (sv (ql6 s)),S):=by
 rw[qc9 (show KD 14=some kfHash from rfl)];exact kfHash_run s hs S
theorem npath_k (m:Nat) (a b:Bs) (ha:a.length<1000000) (hb:b.length<1000000) (S:St):(ev E0 KD (m+1)).f 23 [sv a,sv b] S=some (.ret (qkx a b),S):=by
 rw[qc9 (show KD 23=some kfNPath from rfl)];exact kfNPath_run a b ha hb S
theorem works_k (m:Nat) (S:St):(ev E0 KD (m+1)).f 10 [] S=some (.ret (.bool true),S):=by
 rw[qc9 (show KD 10=some kfTrue from rfl)];exact kfTrue_run S
theorem npath_of {d:DD} (hm:qje qf0 qb1 qhb d=true):qkx (ql6 ([100,114,118,58]++prtD d)) d.nm=.tuple [sv (pathD d),.int .i64 0]:=by
 unfold qje at hm;simp only[bA]at hm;have hn:=hm.1.1.1.1.1;have h0:chkN d.nm=0:=by unfold qf0 at hn; simpa using hn
 unfold qkx npB npE pathD;rw[hashB_is,hn,Bool.and_self,iP rfl,iP rfl,h0]
theorem path_run (h:Dx S N Tt d vI vE) (m:Nat):∃U,(ev E0 KD (m+13)).f 8 [.agg 4 Tt] S=some (.ret (.tuple (if qje qf0 qb1 qhb d=true then [sv (pathD d),.int .i64 0]else [sv [],.int .i64 2])),U)/\Grew (fun _=>False) S U:=by
 have ho:=h.on;obtain⟨a1,a2,a3⟩:=qc7 ho 25 4 Tt;have on1:=a2.on.trans ho;have hF:=F8_eq (ev E0 KD (m+12)) qa1 (.agg 4 Tt) S;rw[show qjy 25 (.agg 4 Tt) S=some (.ptr S.next 0,(nwP 25 4 Tt S).2)from rfl,oB]at hF;dsimp only at hF;generalize (nwP 25 4 Tt S).2=S1 at a1 a2 a3 on1 hF;rw[a1.ldA on1 qdc,oB]at hF;dsimp only at hF;have h1:Dx S1 N Tt d vI vE:=⟨on1,h.t,h.ins.grew a2,h.env.grew a2 fun _ _ h=>h,h.li,h.le,h.ln,h.lp,h.lv,h.lw,h.ls⟩
 obtain⟨S2,b1,b2⟩:=print_run h1 m;have on2:=b2.on.trans on1;rw[b1,callP_ret]at hF;cases hm:qje qf0 qb1 qhb d with
 | false=>
  rw[hm,iN Bool.false_ne_true,ex0,oB,ex1,oB,show qa4 E0 .neq 27 false true (.int .i64 2) (.int .i64 0)=some (.bool true) by kernel_rfl,oB,ifK_bool,cT]at hF;exact⟨S2,rq8' hF,a2.trans b2⟩
 | true=>
  have hl:=prt_len hm;have hlh:=qj4 ([100,114,118,58]++prtD d);have ag2:AgAt S2 S.next 25 4 Tt:=a1.grew (by omega) (fun h=>h) b2
  rw[hm,iP rfl,ex0,oB,ex1,oB,show qa4 E0 .neq 27 false true (.int .i64 0) (.int .i64 0)=some (.bool false) by kernel_rfl,oB,ifK_bool,cF]at hF;rw[show(sv [100,114,118,58]:V)=sv ([100,114,118,58]:Bs)from rfl,qc6 _ _ (by simp; omega),oB]at hF;simp only[ons,qar]at hF;rw[hash_k (m+11) _ (by rw[lAq]; simp; omega),qal,show faP 0 false 1 (.ptr S.next 0)=some (.ptr S.next 0)from rfl,oB]at hF;simp only[ons,qar]at hF;rw[qbx on2 (ag2.ld1 on2 qdc (by decide) h.t.nm) [],oB]at hF;simp only[ons,qar]at hF;rw[npath_k (m+11) _ _ (by omega) (by have:=h.ln; omega),qal,npath_of hm,ex0,oB,ex1,oB]at hF;simp only[ons,qar]at hF;rw[qb3 (by rfl),qao on2]at hF;exact⟨_,rq8' hF,a2.trans (b2.trans (qcu on2 on2))⟩
end
end Go.Proofs.YtpgegoeghaplkaaGreatDoor.W
namespace Go.Proofs.YtpgegoeghaplkaaGreatDoor.W
open Go.Proofs.YtpgegoeghaplkaaGreatDoor.Ev
set_option maxRecDepth 100000
noncomputable section
def C3:Code:=Tryz.f3.body.getD .skip
def B3:D:=(qak C3 [[],[],[],[],[],[],[]]).1
def F3 (self:EV) (N:Nat) (x0:V) (S:St):Rs:=qaq E0 self N Tryz.f3 B3 [x0] S
theorem F3_eq (self:EV) (N:Nat) (x0:V) (S:St):F3 self N x0 S =
(qjy 25 x0 S).bind fun p0=>
(ldA 4 p0.1 p0.2).bind fun p2=>
qaf (self.f 5 [p2.1] p2.2) fun t3 S3=>
(stP 4 p0.1 t3 S3).bind fun p4=>
(ldA 4 p0.1 p4.2).bind fun p5=>
qaf (self.f 6 [p5.1] p5.2) fun t6 S6=>
(qab t6 0).bind fun t8=>
(qab t6 1).bind fun t9=>
(ldA 4 p0.1 S6).bind fun p12=>
qaf (self.f 7 [p12.1] p12.2) fun t13 S13=>
(qab t13 0).bind fun t15=>
(qab t13 1).bind fun t16=>
(ldA 4 p0.1 S13).bind fun p19=>
qaf (self.f 8 [p19.1] p19.2) fun t20 S20=>
(qab t20 0).bind fun t22=>
(qab t20 1).bind fun t23=>
(ldA 4 p0.1 S20).bind fun p26=>
qaf (self.f 9 [p26.1] p26.2) fun t27 S27=>
(qab t27 0).bind fun t29=>
(qab t27 1).bind fun t30=>
(qa4 E0 .eql 9 false false t8 t15).bind fun t35=>
(qa2 true t35).bind fun g37=>(bif g37 then some t9 else some (.tuple [])).bind fun t37=>
(qa2 true t35).bind fun g38=>(bif g38 then some t16 else some (.tuple [])).bind fun t38=>
(qa2 true t35).bind fun g39=>(bif g39 then qa4 E0 .eql 27 false false t37 t38 else some (.tuple [])).bind fun t39=>
(qay t35 (some t39) (some (.bool false))).bind fun t40=>
(qa2 true t40).bind fun g42=>(bif g42 then some t22 else some (.tuple [])).bind fun t42=>
(qa2 true t40).bind fun g43=>(bif g43 then some t29 else some (.tuple [])).bind fun t43=>
(qa2 true t40).bind fun g44=>(bif g44 then qa4 E0 .eql 9 false false t42 t43 else some (.tuple [])).bind fun t44=>
(qay t40 (some t44) (some (.bool false))).bind fun t45=>
(qa2 true t45).bind fun g47=>(bif g47 then some t23 else some (.tuple [])).bind fun t47=>
(qa2 true t45).bind fun g48=>(bif g48 then some t30 else some (.tuple [])).bind fun t48=>
(qa2 true t45).bind fun g49=>(bif g49 then qa4 E0 .eql 27 false false t47 t48 else some (.tuple [])).bind fun t49=>
(qay t45 (some t49) (some (.bool false))).bind fun t50=>
(qa2 true t50).bind fun g52=>qaf (bif g52 then self.f 10 [] S27 else some (.ret (.tuple []),S27)) fun t52 S52=>
(qay t50 (some t52) (some (.bool false))).bind fun t53=>
some (.ret t53,S52):=by kernel_rfl
def C7:Code:=Tryz.f7.body.getD .skip
def B7:D:=(qak C7 [[],[],[],[],[],[],[1,4,5],[],[1,4],[],[],[0,1,4],[2,3],[],[1,4,6],[],[1,4],[],[],[0,1,4],[2,3],[]]).1
def RL7:List Nat:=cellsOf Tryz.f7.results.toList
def R7_13 (self:EV) (N:Nat) (nk:Ac->St->Rs) (ek:Nat->Ac->St->Rs) (a:Ac) (S:St):Rs:=qa7 [1,4] a fun a=>dr E0 self RL7 N (B7.r.r.r).r (mkK E0 self Tryz.f7 nk ek) a S
def R7_14 (self:EV) (N:Nat) (nk:Ac->St->Rs) (ek:Nat->Ac->St->Rs) (a:Ac) (S:St):Rs:=qa7 [1,4] a fun a=>dr E0 self RL7 N (B7.r.r.r.r.l).r (mkK E0 self Tryz.f7 nk ek) a S
theorem R7_14_eq (self:EV) (N:Nat) (nk:Ac->St->Rs) (ek:Nat->Ac->St->Rs) ( v1 v4:V) (S:St):R7_14 self N nk ek (fr 61 [(1,v1),(4,v4)]) S =
(qa4 E0 .add 9 false true v4 (sv [114,117,110,10])).bind fun t16=>
(faP 3 false 1 v1).bind fun t17=>
(ld1 t17 S).bind fun p18=>
(qa4 E0 .add 9 false false t16 p18.1).bind fun t19=>
some (.ret (.tuple [t19,(.int .i64 0)]),p18.2):=by kernel_rfl
def L7_23 (self:EV) (N:Nat) (nk:Ac->St->Rs) (ek:Nat->Ac->St->Rs) (n:Nat) ( v1 v4 v6:V) (S:St):Rs:=qb8 [1,4,6] (dr E0 self RL7 N (B7.r.r.r.r.l.l.r.l.l)) (mkK E0 self Tryz.f7 nk ek) n (fr 61 [(1,v1),(4,v4),(6,v6)]) S
theorem L7_23_eq (self:EV) (N:Nat) (nk:Ac->St->Rs) (ek:Nat->Ac->St->Rs) (n:Nat) ( v1 v4 v6:V) (S:St):L7_23 self N nk ek (n+1) v1 v4 v6 S =
(faP 2 false 1 v1).bind fun t25=>
(ld1 t25 S).bind fun p26=>
(lnS p26.1 p26.2).bind fun p27=>
(qa4 E0 .lss 3 false false v6 p27.1).bind fun t28=>
ifK t28 (
(qa4 E0 .add 9 false true v4 (sv [101,110,118,32])).bind fun t30=>
(faP 2 false 1 v1).bind fun t31=>
(ld1 t31 (onS p27.2)).bind fun p32=>
(ixP 2 p32.1 v6).bind fun t34=>
(faP 0 false 1 t34).bind fun t35=>
(ld1 t35 (onS p32.2)).bind fun p36=>
(qa4 E0 .add 9 false false t30 p36.1).bind fun t37=>
(qa4 E0 .add 9 false true t37 (sv [32])).bind fun t38=>
(faP 2 false 1 v1).bind fun t39=>
(ld1 t39 (onS p36.2)).bind fun p40=>
(ixP 2 p40.1 v6).bind fun t42=>
(faP 1 false 1 t42).bind fun t43=>
(ld1 t43 (onS p40.2)).bind fun p44=>
qcy (qaj E0 (B7.r.r.r.r.l.l.r.l.l.r.l.l).ops) p27.2 16 [[],[],[],p32.2.log,[],[],[],p36.2.log,[],[],[],p40.2.log,[],[],[],p44.2.log] (self.f 22 [p44.1] (onS p44.2)) fun t45 S45=>
(qa4 E0 .add 9 false false t38 t45).bind fun t46=>
(qa4 E0 .add 9 false true t46 (sv [10])).bind fun t47=>
qgb [(3,[11,15,16]),(7,[11,15,16])] p27.2 [[],[],[],p32.2.log,[],[],[],p36.2.log,[],[],[],p40.2.log,[],[],[],p44.2.log,S45.log,[],[],[]] (onS S45) fun S49=>
(qa4 E0 .add 3 false true v6 (.int .i64 1)).bind fun t51=>
L7_23 self N nk ek n v1 t47 t51 S49) (
ek 2 (fr 61 [(1,v1),(4,v4)]) p27.2):=by kernel_rfl
theorem R7_13_eq (self:EV) (N:Nat) (nk:Ac->St->Rs) (ek:Nat->Ac->St->Rs) ( v1 v4:V) (S:St):R7_13 self N nk ek (fr 61 [(1,v1),(4,v4)]) S =
L7_23 self N (R7_14 self N (fun a s=>qa7 [2,3] a fun a=>nk a s) ek) (exB 2 (R7_14 self N (fun a s=>qa7 [2,3] a fun a=>nk a s) ek) ek) N v1 v4 (.int .i64 0) S:=by kernel_rfl
def L7_54 (self:EV) (N:Nat) (nk:Ac->St->Rs) (ek:Nat->Ac->St->Rs) (n:Nat) ( v1 v4 v5:V) (S:St):Rs:=qb8 [1,4,5] (dr E0 self RL7 N (B7.r.r.r.l.r.l.l)) (mkK E0 self Tryz.f7 nk ek) n (fr 61 [(1,v1),(4,v4),(5,v5)]) S
theorem L7_54_eq (self:EV) (N:Nat) (nk:Ac->St->Rs) (ek:Nat->Ac->St->Rs) (n:Nat) ( v1 v4 v5:V) (S:St):L7_54 self N nk ek (n+1) v1 v4 v5 S =
(faP 1 false 1 v1).bind fun t56=>
(ld1 t56 S).bind fun p57=>
(lnS p57.1 p57.2).bind fun p58=>
(qa4 E0 .lss 3 false false v5 p58.1).bind fun t59=>
ifK t59 (
(qa4 E0 .add 9 false true v4 (sv [105,110,32])).bind fun t61=>
(faP 1 false 1 v1).bind fun t62=>
(ld1 t62 p58.2).bind fun p63=>
(ixP 1 p63.1 v5).bind fun t65=>
(ld1 t65 p63.2).bind fun p66=>
(qa4 E0 .add 9 false false t61 p66.1).bind fun t67=>
(qa4 E0 .add 9 false true t67 (sv [10])).bind fun t68=>
(qa4 E0 .add 3 false true v5 (.int .i64 1)).bind fun t71=>
L7_54 self N nk ek n v1 t68 t71 p66.2) (
ek 0 (fr 61 [(1,v1),(4,v4)]) p58.2):=by kernel_rfl
def F7 (self:EV) (N:Nat) (x0:V) (S:St):Rs:=qaq E0 self N Tryz.f7 B7 [x0] S
theorem F7_eq (self:EV) (N:Nat) (x0:V) (S:St):F7 self N x0 S =
(qjy 25 x0 S).bind fun p0=>
(ldA 4 p0.1 p0.2).bind fun p3=>
qaf (self.f 21 [p3.1] p3.2) fun t4 S4=>
(unV .not t4).bind fun t5=>
ifK t5 (
some (.ret (.tuple [(sv []),(.int .i64 2)]),S4)) (
(faP 0 false 1 p0.1).bind fun t8=>
(ld1 t8 S4).bind fun p9=>
(qa4 E0 .add 9 true false (sv [100,114,118,32]) p9.1).bind fun t10=>
(qa4 E0 .add 9 false true t10 (sv [10])).bind fun t11=>
L7_54 self N (R7_13 self N (qat E0 self Tryz.f7) qad) (exB 0 (R7_13 self N (qat E0 self Tryz.f7) qad) qad) N p0.1 t11 (.int .i64 0) p9.2):=by kernel_rfl
def C9:Code:=Tryz.f9.body.getD .skip
def B9:D:=(qak C9 [[],[],[],[],[],[]]).1
def F9 (self:EV) (N:Nat) (x0:V) (S:St):Rs:=qaq E0 self N Tryz.f9 B9 [x0] S
theorem F9_eq (self:EV) (N:Nat) (x0:V) (S:St):F9 self N x0 S =
(qjy 25 x0 S).bind fun p0=>
(ldA 4 p0.1 p0.2).bind fun p3=>
qaf (self.f 7 [p3.1] p3.2) fun t4 S4=>
(qab t4 0).bind fun t6=>
(qab t4 1).bind fun t7=>
(qa4 E0 .neq 27 false true t7 (.int .i64 0)).bind fun t11=>
ifK t11 (
some (.ret (.tuple [(sv []),t7]),S4)) (
(qa4 E0 .add 9 true false (sv [100,114,118,58]) t6).bind fun t16=>
qcy (qaj E0 (B9.r.r.r.l).ops) S4 2 [[],[]] (self.f 25 [t16] (onS S4)) fun t17 S17=>
(faP 0 false 1 p0.1).bind fun t18=>
(ld1 t18 (onS S17)).bind fun p19=>
qcy (qaj E0 (B9.r.r.r.l).ops) S4 5 [[],[],S17.log,[],p19.2.log] (self.f 24 [t17,p19.1] (onS p19.2)) fun t20 S20=>
(qab t20 0).bind fun t21=>
(qab t20 1).bind fun t22=>
qgb [(2,[4])] S4 [[],[],S17.log,[],p19.2.log,S20.log,[],[],[],[]] (onS S20) fun S25=>
some (.ret (.tuple [t21,t22]),S25)):=by kernel_rfl
def C21:Code:=Tryz.f21.body.getD .skip
def B21:D:=(qak C21 [[],[],[],[],[],[1,3],[],[1],[],[],[],[],[0,1],[2],[],[1,4],[],[],[],[],[],[],[0],[2],[]]).1
def RL21:List Nat:=cellsOf Tryz.f21.results.toList
def R21_25 (self:EV) (N:Nat) (nk:Ac->St->Rs) (ek:Nat->Ac->St->Rs) (a:Ac) (S:St):Rs:=qa7 [1] a fun a=>dr E0 self RL21 N (B21.r.r).r (mkK E0 self Tryz.f21 nk ek) a S
def R21_26 (self:EV) (N:Nat) (nk:Ac->St->Rs) (ek:Nat->Ac->St->Rs) (a:Ac) (S:St):Rs:=qa7 [] a fun a=>dr E0 self RL21 N (B21.r.r.r.l).r (mkK E0 self Tryz.f21 nk ek) a S
theorem R21_26_eq (self:EV) (N:Nat) (nk:Ac->St->Rs) (ek:Nat->Ac->St->Rs) (S:St):R21_26 self N nk ek (fr 104 []) S =
some (.ret (.bool true),S):=by kernel_rfl
def L21_29 (self:EV) (N:Nat) (nk:Ac->St->Rs) (ek:Nat->Ac->St->Rs) (n:Nat) ( v1 v4:V) (S:St):Rs:=qb8 [1,4] (dr E0 self RL21 N (B21.r.r.r.l.l.r.l.l)) (mkK E0 self Tryz.f21 nk ek) n (fr 104 [(1,v1),(4,v4)]) S
theorem L21_29_eq (self:EV) (N:Nat) (nk:Ac->St->Rs) (ek:Nat->Ac->St->Rs) (n:Nat) ( v1 v4:V) (S:St):L21_29 self N nk ek (n+1) v1 v4 S =
(faP 2 false 1 v1).bind fun t31=>
(ld1 t31 S).bind fun p32=>
(lnS p32.1 p32.2).bind fun p33=>
(qa4 E0 .lss 3 false false v4 p33.1).bind fun t34=>
ifK t34 (
(faP 2 false 1 v1).bind fun t35=>
(ld1 t35 (onS p33.2)).bind fun p36=>
(ixP 2 p36.1 v4).bind fun t38=>
(faP 0 false 1 t38).bind fun t39=>
(ld1 t39 (onS p36.2)).bind fun p40=>
qcy (qaj E0 (B21.r.r.r.l.l.r.l.l.r.l.l.l).ops) p33.2 6 [[],p36.2.log,[],[],[],p40.2.log] (self.f 56 [p40.1] (onS p40.2)) fun t41 S41=>
(unV .not t41).bind fun t42=>
(qa2 false t42).bind fun g44=>(bif g44 then faP 2 false 1 v1 else some (.tuple [])).bind fun t44=>
(qa2 false t42).bind fun g45=>(bif g45 then ld1 t44 (onS S41)else some (.tuple [],(onS S41))).bind fun p45=>
(qa2 false t42).bind fun g46=>(bif g46 then some v4 else some (.tuple [])).bind fun t46=>
(qa2 false t42).bind fun g47=>(bif g47 then ixP 2 p45.1 t46 else some (.tuple [])).bind fun t47=>
(qa2 false t42).bind fun g48=>(bif g48 then faP 1 false 1 t47 else some (.tuple [])).bind fun t48=>
(qa2 false t42).bind fun g49=>(bif g49 then ld1 t48 (onS p45.2)else some (.tuple [],(onS p45.2))).bind fun p49=>
(qa2 false t42).bind fun g50=>(bif g50 then qbr p49.1 (onS p49.2)else some (.tuple [],(onS p49.2))).bind fun p50=>
(qa2 false t42).bind fun g51=>(bif g51 then qa4 E0 .gtr 3 false true p50.1 (.int .i64 200)else some (.tuple [])).bind fun t51=>
(qay t42 (some (.bool true)) (some t51)).bind fun t52=>
(qa2 false t52).bind fun g54=>(bif g54 then some v4 else some (.tuple [])).bind fun t54=>
(qa2 false t52).bind fun g55=>(bif g55 then qa4 E0 .gtr 3 false true t54 (.int .i64 0)else some (.tuple [])).bind fun t55=>
(qa2 false t52).bind fun g56=>(bif g56 then some t55 else some (.tuple [])).bind fun t56=>
(qa2 true t56).bind fun g57=>(bif g57 then faP 2 false 1 v1 else some (.tuple [])).bind fun t57=>
(qa2 true t56).bind fun g58=>(bif g58 then ld1 t57 (onS p50.2)else some (.tuple [],(onS p50.2))).bind fun p58=>
(qa2 true t56).bind fun g59=>(bif g59 then some v4 else some (.tuple [])).bind fun t59=>
(qa2 true t56).bind fun g60=>(bif g60 then qa4 E0 .sub 3 false true t59 (.int .i64 1)else some (.tuple [])).bind fun t60=>
(qa2 true t56).bind fun g61=>(bif g61 then ixP 2 p58.1 t60 else some (.tuple [])).bind fun t61=>
(qa2 true t56).bind fun g62=>(bif g62 then faP 0 false 1 t61 else some (.tuple [])).bind fun t62=>
(qa2 true t56).bind fun g63=>(bif g63 then ld1 t62 (onS p58.2)else some (.tuple [],(onS p58.2))).bind fun p63=>
(qa2 true t56).bind fun g64=>(bif g64 then faP 2 false 1 v1 else some (.tuple [])).bind fun t64=>
(qa2 true t56).bind fun g65=>(bif g65 then ld1 t64 (onS p63.2)else some (.tuple [],(onS p63.2))).bind fun p65=>
(qa2 true t56).bind fun g66=>(bif g66 then some v4 else some (.tuple [])).bind fun t66=>
(qa2 true t56).bind fun g67=>(bif g67 then ixP 2 p65.1 t66 else some (.tuple [])).bind fun t67=>
(qa2 true t56).bind fun g68=>(bif g68 then faP 0 false 1 t67 else some (.tuple [])).bind fun t68=>
(qa2 true t56).bind fun g69=>(bif g69 then ld1 t68 (onS p65.2)else some (.tuple [],(onS p65.2))).bind fun p69=>
(qa2 true t56).bind fun g70=>(bif g70 then qa4 E0 .geq 9 false false p63.1 p69.1 else some (.tuple [])).bind fun t70=>
(qa2 false t52).bind fun g71=>(bif g71 then qay t56 (some t70) (some (.bool false))else some (.tuple [])).bind fun t71=>
(qay t52 (some (.bool true)) (some t71)).bind fun t72=>
qgb [(23,[30,34]),(28,[30,34])] p33.2 [[],p36.2.log,[],[],[],p40.2.log,S41.log,[],[],[],p45.2.log,[],[],[],p49.2.log,p50.2.log,[],[],[],[],[],[],[],p58.2.log,[],[],[],[],p63.2.log,[],p65.2.log,[],[],[],p69.2.log,[],[],[]] (onS p69.2) fun S73=>
ifK t72 (
some (.ret (.bool false),S73)) (
(qa4 E0 .add 3 false true v4 (.int .i64 1)).bind fun t76=>
L21_29 self N nk ek n v1 t76 S73)) (
ek 2 (fr 104 []) p33.2):=by kernel_rfl
theorem R21_25_eq (self:EV) (N:Nat) (nk:Ac->St->Rs) (ek:Nat->Ac->St->Rs) ( v1:V) (S:St):R21_25 self N nk ek (fr 104 [(1,v1)]) S =
L21_29 self N (R21_26 self N (fun a s=>qa7 [2] a fun a=>nk a s) ek) (exB 2 (R21_26 self N (fun a s=>qa7 [2] a fun a=>nk a s) ek) ek) N v1 (.int .i64 0) S:=by kernel_rfl
def L21_79 (self:EV) (N:Nat) (nk:Ac->St->Rs) (ek:Nat->Ac->St->Rs) (n:Nat) ( v1 v3:V) (S:St):Rs:=qb8 [1,3] (dr E0 self RL21 N (B21.r.r.l.r.l.l)) (mkK E0 self Tryz.f21 nk ek) n (fr 104 [(1,v1),(3,v3)]) S
theorem L21_79_eq (self:EV) (N:Nat) (nk:Ac->St->Rs) (ek:Nat->Ac->St->Rs) (n:Nat) ( v1 v3:V) (S:St):L21_79 self N nk ek (n+1) v1 v3 S =
(faP 1 false 1 v1).bind fun t81=>
(ld1 t81 S).bind fun p82=>
(lnS p82.1 p82.2).bind fun p83=>
(qa4 E0 .lss 3 false false v3 p83.1).bind fun t84=>
ifK t84 (
(faP 1 false 1 v1).bind fun t85=>
(ld1 t85 (onS p83.2)).bind fun p86=>
(ixP 1 p86.1 v3).bind fun t88=>
(ld1 t88 (onS p86.2)).bind fun p89=>
qcy (qaj E0 (B21.r.r.l.r.l.l.r.l.l.l).ops) p83.2 5 [[],p86.2.log,[],[],p89.2.log] (self.f 55 [p89.1] (onS p89.2)) fun t90 S90=>
(unV .not t90).bind fun t91=>
(qa2 false t91).bind fun g93=>(bif g93 then some v3 else some (.tuple [])).bind fun t93=>
(qa2 false t91).bind fun g94=>(bif g94 then qa4 E0 .gtr 3 false true t93 (.int .i64 0)else some (.tuple [])).bind fun t94=>
(qa2 false t91).bind fun g95=>(bif g95 then some t94 else some (.tuple [])).bind fun t95=>
(qa2 true t95).bind fun g96=>(bif g96 then faP 1 false 1 v1 else some (.tuple [])).bind fun t96=>
(qa2 true t95).bind fun g97=>(bif g97 then ld1 t96 (onS S90)else some (.tuple [],(onS S90))).bind fun p97=>
(qa2 true t95).bind fun g98=>(bif g98 then some v3 else some (.tuple [])).bind fun t98=>
(qa2 true t95).bind fun g99=>(bif g99 then qa4 E0 .sub 3 false true t98 (.int .i64 1)else some (.tuple [])).bind fun t99=>
(qa2 true t95).bind fun g100=>(bif g100 then ixP 1 p97.1 t99 else some (.tuple [])).bind fun t100=>
(qa2 true t95).bind fun g101=>(bif g101 then ld1 t100 (onS p97.2)else some (.tuple [],(onS p97.2))).bind fun p101=>
(qa2 true t95).bind fun g102=>(bif g102 then faP 1 false 1 v1 else some (.tuple [])).bind fun t102=>
(qa2 true t95).bind fun g103=>(bif g103 then ld1 t102 (onS p101.2)else some (.tuple [],(onS p101.2))).bind fun p103=>
(qa2 true t95).bind fun g104=>(bif g104 then some v3 else some (.tuple [])).bind fun t104=>
(qa2 true t95).bind fun g105=>(bif g105 then ixP 1 p103.1 t104 else some (.tuple [])).bind fun t105=>
(qa2 true t95).bind fun g106=>(bif g106 then ld1 t105 (onS p103.2)else some (.tuple [],(onS p103.2))).bind fun p106=>
(qa2 true t95).bind fun g107=>(bif g107 then qa4 E0 .geq 9 false false p101.1 p106.1 else some (.tuple [])).bind fun t107=>
(qa2 false t91).bind fun g108=>(bif g108 then qay t95 (some t107) (some (.bool false))else some (.tuple [])).bind fun t108=>
(qay t91 (some (.bool true)) (some t108)).bind fun t109=>
qgb [(12,[18,21]),(16,[18,21])] p83.2 [[],p86.2.log,[],[],p89.2.log,S90.log,[],[],[],[],[],[],p97.2.log,[],[],[],p101.2.log,[],p103.2.log,[],[],p106.2.log,[],[],[]] (onS p106.2) fun S110=>
ifK t109 (
some (.ret (.bool false),S110)) (
(qa4 E0 .add 3 false true v3 (.int .i64 1)).bind fun t113=>
L21_79 self N nk ek n v1 t113 S110)) (
ek 0 (fr 104 [(1,v1)]) p83.2):=by kernel_rfl
def F21 (self:EV) (N:Nat) (x0:V) (S:St):Rs:=qaq E0 self N Tryz.f21 B21 [x0] S
theorem F21_eq (self:EV) (N:Nat) (x0:V) (S:St):F21 self N x0 S =
(qjy 25 x0 S).bind fun p0=>
(faP 0 false 1 p0.1).bind fun t2=>
(ld1 t2 p0.2).bind fun p3=>
qaf (self.f 54 [p3.1] p3.2) fun t4 S4=>
(qa4 E0 .neq 27 false true t4 (.int .i64 0)).bind fun t5=>
(qa2 false t5).bind fun g7=>(bif g7 then faP 1 false 1 p0.1 else some (.tuple [])).bind fun t7=>
(qa2 false t5).bind fun g8=>(bif g8 then ld1 t7 S4 else some (.tuple [],S4)).bind fun p8=>
(qa2 false t5).bind fun g9=>(bif g9 then lnS p8.1 p8.2 else some (.tuple [],p8.2)).bind fun p9=>
(qa2 false t5).bind fun g10=>(bif g10 then qa4 E0 .gtr 3 false true p9.1 (.int .i64 8)else some (.tuple [])).bind fun t10=>
(qay t5 (some (.bool true)) (some t10)).bind fun t11=>
(qa2 false t11).bind fun g13=>(bif g13 then faP 2 false 1 p0.1 else some (.tuple [])).bind fun t13=>
(qa2 false t11).bind fun g14=>(bif g14 then ld1 t13 p9.2 else some (.tuple [],p9.2)).bind fun p14=>
(qa2 false t11).bind fun g15=>(bif g15 then lnS p14.1 p14.2 else some (.tuple [],p14.2)).bind fun p15=>
(qa2 false t11).bind fun g16=>(bif g16 then qa4 E0 .gtr 3 false true p15.1 (.int .i64 16)else some (.tuple [])).bind fun t16=>
(qay t11 (some (.bool true)) (some t16)).bind fun t17=>
(qa2 false t17).bind fun g19=>(bif g19 then faP 3 false 1 p0.1 else some (.tuple [])).bind fun t19=>
(qa2 false t17).bind fun g20=>(bif g20 then ld1 t19 p15.2 else some (.tuple [],p15.2)).bind fun p20=>
(qa2 false t17).bind fun g21=>(bif g21 then qbr p20.1 p20.2 else some (.tuple [],p20.2)).bind fun p21=>
(qa2 false t17).bind fun g22=>(bif g22 then qa4 E0 .gtr 3 false true p21.1 (.int .i64 4000)else some (.tuple [])).bind fun t22=>
(qay t17 (some (.bool true)) (some t22)).bind fun t23=>
ifK t23 (
some (.ret (.bool false),p21.2)) (
L21_79 self N (R21_25 self N (qat E0 self Tryz.f21) qad) (exB 0 (R21_25 self N (qat E0 self Tryz.f21) qad) qad) N p0.1 (.int .i64 0) p21.2):=by kernel_rfl
def C22:Code:=Tryz.f22.body.getD .skip
def B22:D:=(qak C22 [[],[],[],[0,3,4],[],[3],[],[],[],[0,3],[2],[],[],[],[]]).1
def RL22:List Nat:=cellsOf Tryz.f22.results.toList
def R22_2 (self:EV) (N:Nat) (nk:Ac->St->Rs) (ek:Nat->Ac->St->Rs) (a:Ac) (S:St):Rs:=qa7 [3] a fun a=>dr E0 self RL22 N (B22.r.r).r (mkK E0 self Tryz.f22 nk ek) a S
theorem R22_2_eq (self:EV) (N:Nat) (nk:Ac->St->Rs) (ek:Nat->Ac->St->Rs) ( v3:V) (S:St):R22_2 self N nk ek (fr 37 [(3,v3)]) S =
(qa4 E0 .eql 9 false true v3 (sv [])).bind fun t4=>
ifK t4 (
some (.ret (sv [45]),S)) (
some (.ret v3,S)):=by kernel_rfl
def L22_9 (self:EV) (N:Nat) (nk:Ac->St->Rs) (ek:Nat->Ac->St->Rs) (n:Nat) ( v0 v3 v4:V) (S:St):Rs:=qb8 [0,3,4] (dr E0 self RL22 N (B22.r.r.l.r.l.l)) (mkK E0 self Tryz.f22 nk ek) n (fr 37 [(0,v0),(3,v3),(4,v4)]) S
theorem L22_9_eq (self:EV) (N:Nat) (nk:Ac->St->Rs) (ek:Nat->Ac->St->Rs) (n:Nat) ( v0 v3 v4:V) (S:St):L22_9 self N nk ek (n+1) v0 v3 v4 S =
(qbr v0 S).bind fun p12=>
(qa4 E0 .lss 3 false false v4 p12.1).bind fun t13=>
ifK t13 (
(ixS v0 v4).bind fun t16=>
(cvI .i64 t16 (onS p12.2)).bind fun p17=>
(qa4 E0 .quo 3 false true p17.1 (.int .i64 16)).bind fun t18=>
(ixS v0 v4).bind fun t21=>
(cvI .i64 t21 (onS p17.2)).bind fun p22=>
(qa4 E0 .rem 3 false true p22.1 (.int .i64 16)).bind fun t23=>
qgb [(3,[8])] p12.2 [[],[],[],p17.2.log,[],[],[],[],p22.2.log,[],[],[]] (onS p22.2) fun S26=>
(qa4 E0 .add 3 false true t18 (.int .i64 1)).bind fun t30=>
(qb6 E0 9 (sv [48,49,50,51,52,53,54,55,56,57,97,98,99,100,101,102]) (some t18) (some t30) none (onS S26)).bind fun p31=>
(qa4 E0 .add 9 false false v3 p31.1).bind fun t32=>
(qa4 E0 .add 3 false true t23 (.int .i64 1)).bind fun t35=>
(qb6 E0 9 (sv [48,49,50,51,52,53,54,55,56,57,97,98,99,100,101,102]) (some t23) (some t35) none (onS p31.2)).bind fun p36=>
(qa4 E0 .add 9 false false t32 p36.1).bind fun t37=>
qgb [(4,[9])] S26 [[],[],[],[],p31.2.log,[],[],[],[],p36.2.log,[],[]] (onS p36.2) fun S39=>
(qa4 E0 .add 3 false true v4 (.int .i64 1)).bind fun t41=>
L22_9 self N nk ek n v0 t37 t41 S39) (
ek 0 (fr 37 [(3,v3)]) p12.2):=by kernel_rfl
def F22 (self:EV) (N:Nat) (x0:V) (S:St):Rs:=qaq E0 self N Tryz.f22 B22 [x0] S
theorem F22_eq (self:EV) (N:Nat) (x0:V) (S:St):F22 self N x0 S =
L22_9 self N (R22_2 self N (qat E0 self Tryz.f22) qad) (exB 0 (R22_2 self N (qat E0 self Tryz.f22) qad) qad) N x0 (sv []) (.int .i64 0) S:=by kernel_rfl
def C24:Code:=Tryz.f24.body.getD .skip
def B24:D:=(qak C24 [[],[],[],[],[],[],[],[],[]]).1
def F24 (self:EV) (N:Nat) (x0 x1:V) (S:St):Rs:=qaq E0 self N Tryz.f24 B24 [x0,x1] S
theorem F24_eq (self:EV) (N:Nat) (x0 x1:V) (S:St):F24 self N x0 x1 S =
qaf (self.f 57 [x0] S) fun t3 S3=>
(unV .not t3).bind fun t4=>
ifK t4 (
some (.ret (.tuple [(sv []),(.int .i64 2)]),S3)) (
qaf (self.f 54 [x1] S3) fun t8 S8=>
(qa4 E0 .neq 27 false true t8 (.int .i64 0)).bind fun t11=>
ifK t11 (
some (.ret (.tuple [(sv []),t8]),S8)) (
(qa4 E0 .add 9 false true x0 (sv [45])).bind fun t16=>
(qa4 E0 .add 9 false false t16 x1).bind fun t18=>
some (.ret (.tuple [t18,(.int .i64 0)]),S8))):=by kernel_rfl
end
end Go.Proofs.YtpgegoeghaplkaaGreatDoor.W
end
