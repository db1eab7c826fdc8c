/-
  WHAT THE FUNCTIONS COME TO: each is read by the evaluator,printed,and told as a function of data,part 8 of 9 (no condition).
-/
import Derived.Test.YtpgegoeghaplkaaDoorW7
namespace Go.Proofs.YtpgegoeghaplkaaDoor.W
open Go.Proofs.YtpgegoeghaplkaaDoor.Ev Go.RowKit
theorem build_41:qdz E0 41 []=some (vAgg [sv [],.nilslice,.nilslice,sv [],.int .i64 0,sv []]):=by kernel_rfl
section
variable {S:St}
theorem qko (ho:S.on=false) {r clock:Nat} {es:List ME} {k:Bs} {v:V} (h:S.heap.get r=some (.map es clock)) (hf:qg2 (sv k) es 0=some none):∃U,vu (qb3 E0 43 (.map r) (sv k) v S)=some (.tuple [],U)/\U.heap.get r=some (.map (es++[{k:=sv k,v:=v,born:=clock}]) (clock+1))/\Grew (fun x=>x=r) S U/\U.next=S.next:=
 ⟨_,by rw[upd_w ho h hf]; rfl,by rw[qca,iP rfl],qep _ _,rfl⟩
set_option maxRecDepth 100000 in
theorem parse_run (ho:S.on=false) (m:Nat) (s:Bs) (hs:s.length<=10000):∃N0,S.next<N0/\Out ((ev E0 KD (m+6)).f 4 [sv s] S) S S.next N0 (prsD qfj qb9 qfz s):=by
 obtain⟨a1,a2,a3⟩:=qcj ho 25 4 ZD;have on1:=a2.on.trans ho;have hF:=F4_eq (ev E0 KD (m+5)) qa1 (sv s) S;rw[oB,qcu,show nwP 25 4 (Tr.ofListFrom .nil [(sv []),.nilslice,.nilslice,(sv [])] 0) S=nwP 25 4 ZD S from rfl]at hF;generalize (nwP 25 4 ZD S).2=S1 at a1 a2 a3 on1 hF;obtain⟨b1,b2,b3⟩:=qcj on1 27 1 (Ev.one .niliface);have on2:=b2.on.trans on1;rw[oB,qcu]at hF;generalize (nwP 27 1 (Ev.one .niliface) S1).2=S2 at b1 b2 b3 on2 hF;rw[build_41,oB]at hF;obtain⟨S3,c1,c2,c3,c4⟩:=box_new on2 41 [sv [],.nilslice,.nilslice,sv [],.int .i64 0,sv []];have on3:=c3.on.trans on2;rw[c1,oB]at hF;dsimp only at hF;rw[show qh3 E0 43 none S3=some (.map S3.next,nw S3 (.map [] 0))from rfl,oB]at hF;dsimp only at hF;have g4:=qd6 on3 (fun _=>False) (.map [] 0);have h4:(nw S3 (.map [] 0)).heap.get S3.next=some (.map [] 0):=by rw[qes,iP rfl]
 have on4:(nw S3 (.map [] 0)).on=false:=nw_on on3 _;have n4:(nw S3 (.map [] 0)).next=S3.next+1:=rfl
 generalize nw S3 (.map [] 0)=S4 at g4 h4 on4 n4 hF;obtain⟨S5,u5,h5,g5,n5⟩:=qko (k:=wDrv) (v:=.fn (.func 8) [.ptr S2.next 0] []) on4 h4 rfl;have on5:=g5.on.trans on4;rw[show vu (qb3 E0 43 (.map S3.next) (sv [100,114,118]) (.fn (.func 8) [.ptr S2.next 0] []) S4)=_ from u5,oB]at hF;dsimp only at hF;obtain⟨S6,u6,h6,g6,n6⟩:=qko (k:=wIn) (v:=.fn (.func 9) [.ptr S2.next 0] []) on5 h5 rfl;have on6:=g6.on.trans on5;rw[show vu (qb3 E0 43 (.map S3.next) (sv [105,110]) (.fn (.func 9) [.ptr S2.next 0] []) S5)=_ from u6,oB]at hF;dsimp only at hF;obtain⟨S7,u7,h7,g7,n7⟩:=qko (k:=wEnv) (v:=.fn (.func 10) [.ptr S2.next 0] []) on6 h6 rfl;have on7:=g7.on.trans on6;rw[show vu (qb3 E0 43 (.map S3.next) (sv [101,110,118]) (.fn (.func 10) [.ptr S2.next 0] []) S6)=_ from u7,oB]at hF;dsimp only at hF;obtain⟨S8,u8,h8,g8,n8⟩:=qko (k:=wRun) (v:=.fn (.func 11) [.ptr S2.next 0] []) on7 h7 rfl;have on8:=g8.on.trans on7;rw[show vu (qb3 E0 43 (.map S3.next) (sv [114,117,110]) (.fn (.func 11) [.ptr S2.next 0] []) S7)=_ from u8,oB]at hF;dsimp only at hF;have gm:Grew (fun x=>x=S3.next) S3 S8:=(((g4.mono fun _ _ h=>(h:False).elim).trans (g5.trans (g6.trans (g7.trans g8)))))
 have hag:AgAt S8 S2.next 41 6 (Tr.ofListFrom .nil [sv [],.nilslice,.nilslice,sv [],.int .i64 0,sv []] 0):=by
  refine AgAt.grew (s:=S3) ⟨_,c2,?_⟩ (by omega) (by omega) gm;rw[Tr.get_ofList]; rfl
 have hp0:AgAt S8 S.next 25 4 ZD:=(((a1.grew (by omega) (fun h=>h) b2).grew (by omega) (fun h=>h) c3).grew (by omega) (by omega) gm)
 have hp1:AgAt S8 S1.next 27 1 (Ev.one .niliface):=((b1.grew (by omega) (fun h=>h) c3).grew (by omega) (by omega) gm)
 have hRd:Rd S8 S2.next S8.next ⟨[],[],[],[]⟩ ((0:Nat):Int) (qd0 0) .nilslice .nilslice:=⟨on8,by omega,lR _,⟨_,hag,⟨by rw[Tr.get_ofList]; rfl,by rw[Tr.get_ofList]; rfl,by rw[Tr.get_ofList]; rfl,by rw[Tr.get_ofList]; rfl,by rw[Tr.get_ofList]; rfl,by rw[Tr.get_ofList]; rfl⟩⟩,.inl ⟨rfl,rfl⟩,.inl ⟨rfl,rfl⟩⟩
 have hRo:Round S8 S.next S1.next S3.next S2.next S8.next:=⟨by omega,by omega,by omega,by omega,by omega,by omega,⟨_,hp0⟩,⟨_,hp1⟩,⟨_,h8⟩⟩
 have hIv:Iv qfj qb9 qfz 0 ⟨[],[],[],[]⟩:=⟨by omega,fun h=>by omega,rfl,rfl,by simp,rfl,rfl,by simp,fun _=>rfl,fun _=>rfl⟩
 have hL:=parse_loop m qa1 (qbw E0 (ev E0 KD (m+5)) Tryd.f4) rfl (s.length+2) 0 ⟨[],[],[],[]⟩ s 0 qa1 S8 _ _ hRo hRd hIv (by omega) (by omega) (by unfold qa1; omega);refine⟨S8.next,by omega,?_⟩;have gA:Grew (fun x=>S.next<=x) S S8:=((((a2.trans b2).trans c3).mono fun _ _ h=>(h:False).elim).trans (gm.mono fun x _ e=>by omega))
 have hO:=Out.from gA hL;have key:∀r,F4 (ev E0 KD (m+5)) qa1 (sv s) S=some r->(ev E0 KD (m+6)).f 4 [sv s] S=some r:=fun r e=>rq4 e;unfold prsD;cases hp:prsL qfj qb9 qfz (s.length+2) 0 ⟨[],[],[],[]⟩ s with
 | none=>
  rw[hp]at hO;obtain⟨U,x,k1,k2⟩:=hO;exact⟨U,x,key _ (hF.trans k1),k2⟩
 | some d=>
  rw[hp]at hO;obtain⟨U,T,vI,vE,k1,k2⟩:=hO;exact⟨U,T,vI,vE,key _ (hF.trans k1),k2⟩
end
section
variable {S T U:St} {q pn N:Nat} {d:DD} {vI vE vN:V} {Tt:Tr V}
structure Dv (S:St) (q N:Nat) (Tt:Tr V) (d:DD) (vI vE:V):Prop where
 on:S.on=false
 lt:q<S.next
 ag:AgAt S q 25 4 Tt
 t:DrvT Tt d.nm vI vE d.scr
 ins:TLo S vI d.ins N
 env:VLo S vE d.env N
 li:d.ins.length<=1000
 le:d.env.length<=1000
 ln:d.nm.length<=10000
 lp:∀p∈d.ins,p.length<=10000
 lv:∀p∈d.env,p.1.length<=10000
 lw:∀p∈d.env,p.2.length<=1000
 ls:d.scr.length<=10000
theorem Dv.grew0 (h:Dv S q N Tt d vI vE) (g:Grew (fun _=>False) S U):Dv U q N Tt d vI vE:=
 ⟨g.on.trans h.on,Nat.lt_of_lt_of_le h.lt g.next,h.ag.grew h.lt (fun h=>h) g,h.t,h.ins.grew g,h.env.grew g fun _ _ h=>h,h.li,h.le,h.ln,h.lp,h.lv,h.lw,h.ls⟩
theorem f30_run (h:Dv S q N Tt d vI vE) (m:Nat):(ev E0 KD (m+2)).f 30 [.ptr q 0] S=some (.ret (.bool (qfj d.nm)),S):=rq30 (by
 show F30 (ev E0 KD (m+1)) qa1 (.ptr q 0) S=_;rw[F30_eq,show faP 0 false 1 (.ptr q 0)=some (.ptr q 0)from rfl,oB,h.ag.ld1 h.on qi9 (by decide) h.t.nm,oB];dsimp only
 rw[check_k m d.nm (by have:=h.ln; omega) S,callP_ret,chk_eql,oB])
theorem f31_run (h:Dv S q N Tt d vI vE) (m:Nat):(ev E0 KD (m+1)).f 31 [.ptr q 0] S=some (.ret (.bool (decide (d.ins.length<=8/\d.env.length<=16))),S):=rq31 (by
 show F31 (ev E0 KD m) qa1 (.ptr q 0) S=_;have e1:qa8 E0 .leq 3 false true (.int .i64 (d.ins.length:Int)) (.int .i64 8)=some (.bool (decide (d.ins.length<=8))):=leqN _ 8;have e2:qa8 E0 .leq 3 false true (.int .i64 (d.env.length:Int)) (.int .i64 16)=some (.bool (decide (d.env.length<=16))):=leqN _ 16;rw[F31_eq,show faP 1 false 1 (.ptr q 0)=some (.ptr q 1)from rfl,oB,h.ag.ld1 h.on qi9 (by decide) h.t.ins,oB];dsimp only;rw[h.ins.tl.len,oB];dsimp only;rw[e1,oB];by_cases h8:d.ins.length<=8
 . rw[dT h8]
   simp only[qah,oB,cT,pickV_bool,show faP 2 false 1 (.ptr q 0)=some (.ptr q 2)from rfl,h.ag.ld1 h.on qi9 (show 2<4 by decide) h.t.env,h.env.len,e2,h8,true_and]
 . rw[dF h8,dF (fun e=>h8 e.1)]
   rfl)
theorem body34:E0.ext.get 34=none/\qat E0 34=true:=⟨by kernel_rfl,by kernel_rfl⟩
theorem f34_run (m:Nat) (s:Bs) (hs:s.length<=10000) (S:St):(ev E0 KD (m+2)).f 34 [sv s] S=some (.ret (.bool (!qb9 s)),S):=rq34 (by
 show F34 (ev E0 KD (m+1)) qa1 (sv s) S=_
 rw[F34_eq,path_k m s (by omega) S,callP_ret,unV_not,oB])
theorem L59_spec {m M:Nat} (ho:S.on=false) (nk:Ac->St->Rs) (ek:Nat->Ac->St->Rs) {v:V} {l:List Bs} (h:TL S v l) (hl:l.length<=1000) (hp:∀p∈l,p.length<=10000) :
 ∀(r:List Bs) (i n:Nat),l.drop i=r->r.length<n->
 ∃j:Nat,L59_6 (ev E0 KD (m+2)) M nk ek n v (.fn (.func 34) [] []) (.int .i64 (l.length:Int)) (.int .i64 (i:Int)) S=if r.all qb9 then ek 0 (fr 19 []) S else some (.ret (.int .i64 (j:Int)),S)
 | _,_,0,_,hn=>by omega
 | [],i,n+1,hi,_=>⟨0,by
  rw[L59_6_eq,qg5,dF (Nat.not_lt.2 (qbl hi)),oB,ifK_bool,cF]
  rfl⟩
 | a::r,i,n+1,hi,hn=>by
  obtain⟨hlt,hc,hr',hm⟩:=qby hi;obtain⟨j,ih⟩:=L59_spec (m:=m) (M:=M) ho nk ek h hl hp r (i+1) n hr' (by simpa using hn);obtain⟨p,x1,x2⟩:=h.ld ho (show l[i]?=some a by rw[List.getElem?_eq_getElem hlt,hc]);rw[L59_6_eq,qg5,dT hlt,oB,ifK_bool,cT,x1,oB,x2,oB];dsimp only;rw[qb5 body34.1 body34.2];show ∃j:Nat,(qaa ((ev E0 KD (m+2)).f 34 [sv a] S) _)=_;rw[f34_run m a (hp a hm) S,callP_ret,ifK_bool,List.all_cons];cases qb9 a with
  | false=>exact⟨i,rfl⟩
  | true=>exact⟨j,by rw[Bool.not_true,cF,qf5 (by omega),oB,ih,Bool.true_and]⟩
theorem f32_run (h:Dv S q N Tt d vI vE) (m:Nat):(ev E0 KD (m+5)).f 32 [.ptr q 0] S=some (.ret (.bool (d.ins.all qb9)),S):=rq32 (by
 show F32 (ev E0 KD (m+4)) qa1 (.ptr q 0) S=_;obtain⟨j,hj⟩:=L59_spec (m:=m) (M:=qa1) h.on (R59_1 (ev E0 KD (m+2)) qa1 (qbw E0 (ev E0 KD (m+2)) Tryd.f59) qb2) (exB 0 (R59_1 (ev E0 KD (m+2)) qa1 (qbw E0 (ev E0 KD (m+2)) Tryd.f59) qb2) qb2) h.ins.tl h.li h.lp d.ins 0 qa1 rfl (by have:=h.li; unfold qa1; omega)
 have h59:(ev E0 KD (m+3)).f 59 [vI,.fn (.func 34) [] []] S=some (.ret (.int .i64 (if d.ins.all qb9 then -1 else(j:Int))),S):=rq59 (by
  show F59 (ev E0 KD (m+2)) qa1 vI (.fn (.func 34) [] []) S=_;rw[F59_eq,h.ins.tl.len,oB];dsimp only;rw[show V.int .i64 0=.int .i64 ((0:Nat):Int)from rfl,hj];cases d.ins.all qb9 with
  | false=>rfl
  | true=>rw[iP rfl,exB_same,R59_1_eq]; rfl)
 have h33:(ev E0 KD (m+4)).f 33 [vI,.fn (.func 34) [] []] S=some (.ret (.bool (!d.ins.all qb9)),S):=rq33 (by
  show F33 (ev E0 KD (m+3)) qa1 vI (.fn (.func 34) [] []) S=_;rw[F33_eq,h59,callP_ret,binV_ii,intsV_geq];cases d.ins.all qb9 with
  | true=>rfl
  | false=>rw[iN (by simp),oB,dT (by omega)]; rfl)
 rw[F32_eq,show faP 1 false 1 (.ptr q 0)=some (.ptr q 1)from rfl,oB,h.ag.ld1 h.on qi9 (by decide) h.t.ins,oB];dsimp only
 rw[h33,callP_ret,unV_not,oB,Bool.not_not])
theorem f35_run (h:Dv S q N Tt d vI vE) (hN:AgAt S pn 22 1 (Ev.one vN)) {M:Nat} (hn:TLo S vN (d.env.map Prod.fst) M) (m:Nat):(ev E0 KD (m+2)).f 35 [.ptr q 0,.ptr pn 0] S=some (.ret (.bool (qek d.ins&&qek (d.env.map Prod.fst))),S):=rq35 (by
 show F35 (ev E0 KD (m+1)) qa1 (.ptr q 0) (.ptr pn 0) S=_;rw[F35_eq,show faP 1 false 1 (.ptr q 0)=some (.ptr q 1)from rfl,oB,h.ag.ld1 h.on qi9 (by decide) h.t.ins,oB];dsimp only;rw[f24_run h.on m h.ins.tl (by have:=h.li; omega),callP_ret];cases qek d.ins with
 | false=>rfl
 | true=>
  simp only[qah,oB,cT];rw[hN.ld1 h.on big1' (by decide) rfl,oB];dsimp only
  rw[f24_run h.on m hn.tl (by rw[lM]; have:=h.le; omega),callP_ret,pickV_bool,cT,oB,Bool.true_and])
theorem f39_run (h:Dv S q N Tt d vI vE) (m:Nat):(ev E0 KD (m+1)).f 39 [.ptr q 0] S=some (.ret (.bool (decide (d.scr.length<=4000))),S):=rq39 (by
 show F39 (ev E0 KD m) qa1 (.ptr q 0) S=_;rw[F39_eq,show faP 3 false 1 (.ptr q 0)=some (.ptr q 3)from rfl,oB,h.ag.ld1 h.on qi9 (by decide) h.t.scr,oB];dsimp only;rw[qa9,oB];dsimp only
 rw[show V.int .i64 4000=.int .i64 ((4000:Nat):Int)from rfl,leqN,oB])
def varOk (p:Bs×Bs):Bool:=qfz p.1&&decide (p.2.length<=200)
theorem VLo.ldA {v:V} {l:List (Bs×Bs)} {N:Nat} (h:VLo S v l N) (ho:S.on=false) {i:Nat} {p:Bs×Bs} (hp:l[i]?=some p):∃x,ixP 2 v (.int .i64 (i:Int))=some x/\Ev.ldA 2 x S=some (.agg 2 (qi8 p),S):=by
 obtain⟨hi,he⟩:=List.getElem?_eq_some_iff.1 hp;rcases h with⟨rfl,_⟩|⟨r,rfl,h1,h2,h3,h4⟩
 . simp at hp
 . refine⟨.ptr r (0+i*2),?_,?_⟩
   . have h0:ixP 2 (.oslice r 0 l.length 2) (.int .i64 (i:Int))=bif Nat.blt i l.length then some (.ptr r (0+i*2))else none:=rfl
     rw[h0,blt_true.2 hi,cT]
   . unfold Ev.ldA
     dsimp only;rw[Nat.zero_add,h1.ldK ho (i:=i) (t:=qi8 p) (by rw[List.getElem?_map,hp]; rfl),oB]
theorem body38:E0.ext.get 38=none/\qat E0 38=true:=⟨by kernel_rfl,by kernel_rfl⟩
theorem f38_run (ho:S.on=false) (m:Nat) (p:Bs×Bs) (h1:p.1.length<=10000) (h2:p.2.length<=10000):∃U,(ev E0 KD (m+3)).f 38 [.agg 2 (qi8 p)] S=some (.ret (.bool (!varOk p)),U)/\Grew (fun _=>False) S U:=by
 obtain⟨U,a1,a2,a3,a4⟩:=box_new ho 50 [sv p.1,sv p.2];have on1:=a3.on.trans ho;have hag:AgAt U S.next 50 2 (qi8 p):=⟨_,a2,by rw[Tr.get_ofList]; rfl⟩
 refine⟨U,rq38 ?_,a3⟩;show F38 (ev E0 KD (m+2)) qa1 (.agg 2 (qi8 p)) S=_
 have e1:qa8 E0 .gtr 3 false true (.int .i64 (p.2.length:Int)) (.int .i64 200)=some (.bool (decide (200<p.2.length))):=by
  rw[binV_ii,intsV_gtr]
  congr 2
  simp;omega
 rw[F38_eq,show boxK 50 (.agg 2 (qi8 p)) S=_ from a1,oB];dsimp only;rw[show faP 0 false 1 (.ptr S.next 0)=some (.ptr S.next 0)from rfl,oB,hag.ld1 on1 big2 (by decide) (show(qi8 p).get 0=some (sv p.1) by unfold qi8; rw[Tr.get_ofList]; rfl),oB];dsimp only;rw[f25_run m p.1 (by omega) U,callP_ret,unV_not,oB];unfold varOk;cases qfz p.1 with
 | false=>rfl
 | true=>
  simp only[qb0,oB,cT,pickV_bool,Bool.not_true,nF,cF,show faP 1 false 1 (.ptr S.next 0)=some (.ptr S.next 1)from rfl,hag.ld1 on1 big2 (show 1<2 by decide) (show(qi8 p).get 1=some (sv p.2) by unfold qi8; rw[Tr.get_ofList]; rfl),qa9,e1,Bool.true_and]
  congr 5
  by_cases h:p.2.length<=200
  . rw[dT h,dF (by omega)]; rfl
  . rw[dF h,dT (by omega)]; rfl
theorem L60_spec {m M:Nat} (nk:Ac->St->Rs) (ek:Nat->Ac->St->Rs) {v:V} {l:List (Bs×Bs)} (hl:l.length<=1000) (hp:∀p∈l,p.1.length<=10000/\p.2.length<=10000) :
 ∀(r:List (Bs×Bs)) (i n:Nat) (S:St),S.on=false->VLo S v l N->l.drop i=r->r.length<n->
 ∃(j:Nat) (U:St),L60_6 (ev E0 KD (m+3)) M nk ek n v (.fn (.func 38) [] []) (.int .i64 (l.length:Int)) (.int .i64 (i:Int)) S=(if r.all varOk then ek 0 (fr 19 []) U else some (.ret (.int .i64 (j:Int)),U))/\Grew (fun _=>False) S U
 | _,_,0,_,_,_,_,hn=>by omega
 | [],i,n+1,S,ho,_,hi,_=>⟨0,S,by
  rw[L60_6_eq,qg5,dF (Nat.not_lt.2 (qbl hi)),oB,ifK_bool,cF]
  rfl,Grew.refl _ _⟩
 | a::r,i,n+1,S,ho,h,hi,hn=>by
  obtain⟨hlt,hc,hr',hm⟩:=qby hi;obtain⟨x,x1,x2⟩:=h.ldA ho (show l[i]?=some a by rw[List.getElem?_eq_getElem hlt,hc]);obtain⟨U1,u1,u2⟩:=f38_run ho m a (hp a hm).1 (hp a hm).2;obtain⟨j,U,ih,g⟩:=L60_spec (m:=m) (M:=M) nk ek hl hp r (i+1) n U1 (u2.on.trans ho) (h.grew u2 fun _ _ h=>h) hr' (by simpa using hn);rw[L60_6_eq,qg5,dT hlt,oB,ifK_bool,cT,x1,oB,x2,oB];dsimp only;rw[qb5 body38.1 body38.2];show ∃(j:Nat) (U:St),(qaa ((ev E0 KD (m+3)).f 38 [.agg 2 (qi8 a)] S) _)=_/\_;rw[u1,callP_ret,ifK_bool,List.all_cons];cases varOk a with
  | false=>exact⟨i,U1,rfl,u2⟩
  | true=>exact⟨j,U,by rw[Bool.not_true,cF,qf5 (by omega),oB,ih,Bool.true_and],u2.trans g⟩
theorem f36_run (h:Dv S q N Tt d vI vE) (m:Nat):∃U,(ev E0 KD (m+6)).f 36 [.ptr q 0] S=some (.ret (.bool (d.env.all varOk)),U)/\Grew (fun _=>False) S U:=by
 obtain⟨j,U,hj,hg⟩:=L60_spec (N:=N) (m:=m) (M:=qa1) (R60_1 (ev E0 KD (m+3)) qa1 (qbw E0 (ev E0 KD (m+3)) Tryd.f60) qb2) (exB 0 (R60_1 (ev E0 KD (m+3)) qa1 (qbw E0 (ev E0 KD (m+3)) Tryd.f60) qb2) qb2) h.le (fun p hp=>⟨h.lv p hp,by have:=h.lw p hp; omega⟩) d.env 0 qa1 S h.on h.env rfl (by have:=h.le; unfold qa1; omega);refine⟨U,rq36 ?_,hg⟩;show F36 (ev E0 KD (m+5)) qa1 (.ptr q 0) S=_
 have h60:(ev E0 KD (m+4)).f 60 [vE,.fn (.func 38) [] []] S=some (.ret (.int .i64 (if d.env.all varOk then -1 else(j:Int))),U):=rq60 (by
  show F60 (ev E0 KD (m+3)) qa1 vE (.fn (.func 38) [] []) S=_;rw[F60_eq,h.env.len,oB];dsimp only;rw[show V.int .i64 0=.int .i64 ((0:Nat):Int)from rfl,hj];cases d.env.all varOk with
  | false=>rfl
  | true=>rw[iP rfl,exB_same,R60_1_eq]; rfl)
 have h37:(ev E0 KD (m+5)).f 37 [vE,.fn (.func 38) [] []] S=some (.ret (.bool (!d.env.all varOk)),U):=rq37 (by
  show F37 (ev E0 KD (m+4)) qa1 vE (.fn (.func 38) [] []) S=_;rw[F37_eq,h60,callP_ret,binV_ii,intsV_geq];cases d.env.all varOk with
  | true=>rfl
  | false=>rw[iN (by simp),oB,dT (by omega)]; rfl)
 rw[F36_eq,show faP 2 false 1 (.ptr q 0)=some (.ptr q 2)from rfl,oB,h.ag.ld1 h.on qi9 (by decide) h.t.env,oB];dsimp only;rw[h37,callP_ret,unV_not,oB,Bool.not_not]
end
theorem body58:E0.ext.get 58=none/\qat E0 58=true:=⟨by kernel_rfl,by kernel_rfl⟩
theorem bodyMay:(E0.ext.get 30=none/\qat E0 30=true)/\(E0.ext.get 31=none/\qat E0 31=true)/\(E0.ext.get 32=none/\qat E0 32=true)/\(E0.ext.get 35=none/\qat E0 35=true)/\(E0.ext.get 36=none/\qat E0 36=true)/\(E0.ext.get 39=none/\qat E0 39=true):=⟨⟨by kernel_rfl,by kernel_rfl⟩,⟨by kernel_rfl,by kernel_rfl⟩,⟨by kernel_rfl,by kernel_rfl⟩,⟨by kernel_rfl,by kernel_rfl⟩,⟨by kernel_rfl,by kernel_rfl⟩,by kernel_rfl,by kernel_rfl⟩
section
variable {S S0 T U:St} {q pn N:Nat} {d:DD} {vI vE vN:V} {Tt:Tr V}
theorem L79_spec {m M:Nat} (nk:Ac->St->Rs) (ek:Nat->Ac->St->Rs) {r:Nat} (h0:S0.on=false) (g:V->Bool) (fs:List V) (hk:fs.length<1000) (hr:RowAt S0 r 30 1 (fs.map Ev.one)) (hlt:r<S0.next)
 (hf:∀f∈fs,∀S',Grew (fun _=>False) S0 S'->∃U,qch E0 (ev E0 KD (m+6)) f [] S'=some (.ret (.bool (g f)),U)/\Grew (fun _=>False) S' U) :
 ∀(l:List V) (i n:Nat) (S:St),Grew (fun _=>False) S0 S->fs.drop i=l->l.length<n->
 ∃(j:Nat) (U:St),L79_6 (ev E0 KD (m+7)) M nk ek n (.slice r 0 fs.length fs.length) (.fn (.func 58) [] []) (.int .i64 (fs.length:Int)) (.int .i64 (i:Int)) S=(if l.all g then ek 0 (fr 19 []) U else some (.ret (.int .i64 (j:Int)),U))/\Grew (fun _=>False) S U
 | _,_,0,_,_,_,hn=>by omega
 | [],i,n+1,S,_,hi,_=>⟨0,S,by
  rw[L79_6_eq,qg5,dF (Nat.not_lt.2 (qbl hi)),oB,ifK_bool,cF]
  rfl,Grew.refl _ _⟩
 | f::l,i,n+1,S,hg,hi,hn=>by
  obtain⟨hlt',hc,hr',hm⟩:=qby hi;obtain⟨U1,u1,u2⟩:=hf f hm S hg;obtain⟨j,U,ih,g2⟩:=L79_spec (m:=m) (M:=M) nk ek h0 g fs hk hr hlt hf l (i+1) n U1 (hg.trans u2) hr' (by simpa using hn);have hl:ld1 (.ptr r i) S=some (f,S):=(hr.grew hlt (fun h=>h) hg).ld1 (hg.on.trans h0) (by rw[List.getElem?_map,List.getElem?_eq_getElem hlt',hc]; rfl)
  have h58:(ev E0 KD (m+7)).f 58 [f] S=some (.ret (.bool (!g f)),U1):=rq58 (by
   show F58 (ev E0 KD (m+6)) qa1 f S=_
   rw[F58_eq,u1,callP_ret,unV_not,oB])
  rw[L79_6_eq,qg5,dT hlt',oB,ifK_bool,cT,ixP_sl r fs.length i hlt',oB,hl,oB];dsimp only;rw[qb5 body58.1 body58.2];show ∃(j:Nat) (U:St),(qaa ((ev E0 KD (m+7)).f 58 [f] S) _)=_/\_;rw[h58,callP_ret,ifK_bool,List.all_cons];cases g f with
  | false=>exact⟨i,U1,rfl,u2⟩
  | true=>exact⟨j,U,by rw[Bool.not_true,cF,qf5 (by omega),oB,ih,Bool.true_and],u2.trans g2⟩
def fns6 (q pn:Nat):List V:=[.fn (.func 30) [] [.ptr q 0],.fn (.func 31) [] [.ptr q 0],.fn (.func 32) [] [.ptr q 0],.fn (.func 35) [] [.ptr q 0,.ptr pn 0],.fn (.func 36) [] [.ptr q 0],.fn (.func 39) [] [.ptr q 0]]
def gM (d:DD):V->Bool
 | .fn (.func 30) _ _=>qfj d.nm
 | .fn (.func 31) _ _=>decide (d.ins.length<=8/\d.env.length<=16)
 | .fn (.func 32) _ _=>d.ins.all qb9
 | .fn (.func 35) _ _=>qek d.ins&&qek (d.env.map Prod.fst)
 | .fn (.func 36) _ _=>d.env.all varOk
 | _=>decide (d.scr.length<=4000)
theorem all_may (q pn:Nat) (d:DD):(fns6 q pn).all (gM d)=mayD qfj qb9 qfz d:=by
 unfold fns6 mayD;simp only[List.all_cons,List.all_nil,Bool.and_true,gM,Bool.and_assoc];rfl
theorem may_call (h:Dv S0 q N Tt d vI vE) (hN:AgAt S0 pn 22 1 (Ev.one vN)) (hp:pn<S0.next) {M:Nat} (hn:TLo S0 vN (d.env.map Prod.fst) M) (m:Nat):∀f∈fns6 q pn,∀S',Grew (fun _=>False) S0 S'->∃U,qch E0 (ev E0 KD (m+6)) f [] S'=some (.ret (.bool (gM d f)),U)/\Grew (fun _=>False) S' U:=fun f hf S' hg=>by
 have h':=h.grew0 hg;have hN':=hN.grew hp (fun h=>h) hg;have hn':=hn.grew hg;simp only[fns6,List.mem_cons,List.not_mem_nil,or_false]at hf;rcases hf with rfl|rfl|rfl|rfl|rfl|rfl
 . rw[qb5 bodyMay.1.1 bodyMay.1.2]; exact⟨S',f30_run h' (m+4),Grew.refl _ _⟩
 . rw[qb5 bodyMay.2.1.1 bodyMay.2.1.2]; exact⟨S',f31_run h' (m+5),Grew.refl _ _⟩
 . rw[qb5 bodyMay.2.2.1.1 bodyMay.2.2.1.2]; exact⟨S',f32_run h' (m+1),Grew.refl _ _⟩
 . rw[qb5 bodyMay.2.2.2.1.1 bodyMay.2.2.2.1.2]; exact⟨S',f35_run h' hN' hn' (m+4),Grew.refl _ _⟩
 . rw[qb5 bodyMay.2.2.2.2.1.1 bodyMay.2.2.2.2.1.2]; exact f36_run h' m
 . rw[qb5 bodyMay.2.2.2.2.2.1 bodyMay.2.2.2.2.2.2]; exact⟨S',f39_run h' (m+5),Grew.refl _ _⟩
theorem L15_spec {m M1 Nn:Nat} (nk:Ac->St->Rs) (ek:Nat->Ac->St->Rs) (v1:V) {l:List (Bs×Bs)} (hl:l.length<=1000) :
 ∀(r:List (Bs×Bs)) (i n:Nat) (S:St) (vN:V),S.on=false->VLo S vE l N->AgAt S pn 22 1 (Ev.one vN)->TLo S vN ((l.take i).map Prod.fst) M1->pn<M1->M1<=S.next->(∀x,qc5 vE=some x->x<pn)->l.drop i=r->r.length<n->
 ∃(U:St) (vN':V),L15_17 (ev E0 KD (m+10)) Nn nk ek n v1 (.ptr pn 0) vE (.int .i64 (l.length:Int)) (.int .i64 (i:Int)) S=ek 0 (fr 27 [(1,v1),(3,.ptr pn 0)]) U/\AgAt U pn 22 1 (Ev.one vN')/\TLo U vN' (l.map Prod.fst) M1/\Grew (fun x=>pn<=x) S U
 | _,_,0,_,_,_,_,_,_,_,_,_,_,hn=>by omega
 | [],i,n+1,S,vN,ho,hE,hA,hT,_,_,_,hi,_=>by
  refine⟨S,vN,?_,hA,?_,Grew.refl _ _⟩
  . rw[L15_17_eq,qg5,dF (Nat.not_lt.2 (qbl hi)),oB,ifK_bool,cF]
  . rwa [List.take_of_length_le (qbl hi)]at hT
 | p::r,i,n+1,S,vN,ho,hE,hA,hT,hpn,hM,hblk,hi,hn=>by
  obtain⟨hlt,hc,hr',hm⟩:=qby hi;obtain⟨x,x1,x2⟩:=hE.ldA ho (show l[i]?=some p by rw[List.getElem?_eq_getElem hlt,hc]);obtain⟨a1,a2,a3⟩:=qcj ho 50 2 (Tr.ofListFrom .nil [(sv []),(sv [])] 0);have on1:=a2.on.trans ho;obtain⟨S2,b1,b2,b3,b4⟩:=a1.stA on1 big2 (qi8 p);have on2:=b3.on.trans on1;have g2:Grew (fun _=>False) S S2:=a2.own (lR _) b3;have hA2:=hA.grew (by omega) (fun h=>h) g2;have hT2:=hT.grew g2;have n2:=g2.next
  obtain⟨y,W,v',S3,k1,k2,k3,k4⟩:=hT2.push on2 (by omega) (by rw[lM,List.length_take]; omega) p.1;have on3:=k4.on.trans on2;have n3:=k4.next
  have hA3:=hA2.grew (by omega) (by omega) k4;have hv':=k3.oneV;obtain⟨S4,c1,c2,c3,c4⟩:=hA3.st_one on3 v' hv'.size hv'.cells hv'.tup;have g4:Grew (fun x=>pn<=x) S S4:=(g2.mono fun _ _ h=>(h:False).elim).trans ((k4.mono fun x _ hx=>by omega).trans (c3.mono fun x _ hx=>by omega))
  have hT4:TLo S4 v' (((l.take (i+1)).map Prod.fst)) M1:=by
   have:(l.take (i+1)).map Prod.fst=(l.take i).map Prod.fst++[p.1]:=by rw[qmd hlt,hc,List.map_append]; rfl
   rw[this]
   exact k3.grewW c3 fun z hz e=>by
    rcases k3 with⟨_,rfl⟩|⟨r0,rfl,_,_,h6,_⟩
    . cases hz
    . cases hz; omega
  obtain⟨U,vN',d1,d2,d3,d4⟩:=L15_spec (m:=m) (M1:=M1) (Nn:=Nn) nk ek v1 hl r (i+1) n S4 v' (c3.on.trans on3) (hE.grew g4 fun z hz h=>by have:=hblk z hz; omega) c2 hT4 hpn (by omega) hblk hr' (by simpa using hn);refine⟨U,vN',?_,d2,d3,g4.trans d4⟩;rw[L15_17_eq,qg5,dT hlt,oB,ifK_bool,cT,x1,oB,x2,oB];dsimp only;rw[oB,qcu,b1,oB];dsimp only;rw[hA2.ld1 on2 big1' (by decide) rfl,oB];dsimp only;rw[show faP 0 false 1 (.ptr S.next 0)=some (.ptr S.next 0)from rfl,oB,b2.ld1 on2 big2 (by decide) (show(qi8 p).get 0=some (sv p.1) by unfold qi8; rw[Tr.get_ofList]; rfl),oB];dsimp only;rw[k1,oB];dsimp only;rw[k2,oB];dsimp only;rw[c1,oB];dsimp only;rw[qf5 (by omega),oB,d1]
structure Dx (S:St) (N:Nat) (Tt:Tr V) (d:DD) (vI vE:V):Prop where
 on:S.on=false
 t:DrvT Tt d.nm vI vE d.scr
 ins:TLo S vI d.ins N
 env:VLo S vE d.env N
 li:d.ins.length<=1000
 le:d.env.length<=1000
 ln:d.nm.length<=10000
 lp:∀p∈d.ins,p.length<=10000
 lv:∀p∈d.env,p.1.length<=10000
 lw:∀p∈d.env,p.2.length<=1000
 ls:d.scr.length<=10000
theorem Dx.env_lt (h:Dx S N Tt d vI vE):∀x,qc5 vE=some x->x<S.next:=fun x hx=>by
 rcases h.env with⟨_,rfl⟩|⟨r,rfl,_,h3,_⟩
 . cases hx
 . cases hx; exact h3
theorem f15_run (h:Dx S N Tt d vI vE) (m:Nat):∃U,(ev E0 KD (m+11)).f 15 [.agg 4 Tt] S=some (.ret (.bool (mayD qfj qb9 qfz d)),U)/\Grew (fun _=>False) S U:=by
 have ho:=h.on;obtain⟨a1,a2,a3⟩:=qcj ho 25 4 Tt;have on1:=a2.on.trans ho;have hF:=F15_eq (ev E0 KD (m+10)) qa1 (.agg 4 Tt) S;rw[show boxK 25 (.agg 4 Tt) S=some (.ptr S.next 0,(nwP 25 4 Tt S).2)from rfl,oB]at hF;dsimp only at hF;generalize (nwP 25 4 Tt S).2=S1 at a1 a2 a3 on1 hF;obtain⟨b1,b2,b3⟩:=qcj on1 22 1 (Ev.one .nilslice);have on2:=b2.on.trans on1;rw[oB,qcu]at hF;generalize (nwP 22 1 (Ev.one .nilslice) S1).2=S2 at b1 b2 b3 on2 hF;have g2:Grew (fun _=>False) S S2:=a2.trans b2;have hag2:AgAt S2 S.next 25 4 Tt:=a1.grew (by omega) (fun h=>h) b2
 have hE2:=h.env.grew g2 fun _ _ h=>h;rw[show faP 2 false 1 (.ptr S.next 0)=some (.ptr S.next 2)from rfl,oB,hag2.ld1 on2 qi9 (by decide) h.t.env,oB]at hF;dsimp only at hF;rw[hE2.len,oB]at hF;dsimp only at hF;have hblk:=h.env_lt;obtain⟨S3,vN,c1,c2,c3,c4⟩:=L15_spec (vE:=vE) (N:=N) (pn:=S1.next) (m:=m) (M1:=S2.next) (Nn:=qa1) (R15_3 (ev E0 KD (m+10)) qa1 (qbw E0 (ev E0 KD (m+10)) Tryd.f15) qb2) (exB 0 (R15_3 (ev E0 KD (m+10)) qa1 (qbw E0 (ev E0 KD (m+10)) Tryd.f15) qb2) qb2) (.ptr S.next 0) h.le d.env 0 qa1 S2 .nilslice on2 hE2 b1 (.inl ⟨rfl,rfl⟩) (by omega) (lR _) (fun x hx=>by have:=hblk x hx; omega) rfl (by have:=h.le; unfold qa1; omega);have on3:=c4.on.trans on2;have n3:=c4.next
 rw[show V.int .i64 0=.int .i64 ((0:Nat):Int)from rfl,c1,exB_same,R15_3_eq]at hF;have gS3:Grew (fun _=>False) S S3:=Grew.fresh g2 (N:=S1.next) (by omega) c4
 obtain⟨S4,e1,e2,e3,e4⟩:=qel on3 30 (Ev.one .nilfn) (fns6 S.next S1.next) (fun v hv=>by
  simp only[fns6,List.mem_cons,List.not_mem_nil,or_false]at hv
  rcases hv with rfl|rfl|rfl|rfl|rfl|rfl<;>exact⟨rfl,rfl,rfl,rfl⟩) (by show 6<big; unfold big; decide)
 have on4:=e3.on.trans on3;rw[show bsP 30 1 6 (Ev.one .nilfn) [(0,(.fn (.func 30) [] [.ptr S.next 0])),(1,(.fn (.func 31) [] [.ptr S.next 0])),(2,(.fn (.func 32) [] [.ptr S.next 0])),(3,(.fn (.func 35) [] [.ptr S.next 0,.ptr S1.next 0])),(4,(.fn (.func 36) [] [.ptr S.next 0])),(5,(.fn (.func 39) [] [.ptr S.next 0]))] S3=some (.slice S3.next 0 6 6,S4)from e1 none,oB]at hF;dsimp only at hF;have g4:Grew (fun x=>S1.next<=x) S2 S4:=c4.trans (e3.mono fun _ _ h=>(h:False).elim);have gS4:=gS3.trans e3;have hDv:Dv S4 S.next N Tt d vI vE:=⟨on4,by have:=e3.next; omega,hag2.grew (by omega) (by omega) g4,h.t,h.ins.grew gS4,h.env.grew gS4 fun _ _ h=>h,h.li,h.le,h.ln,h.lp,h.lv,h.lw,h.ls⟩
 obtain⟨j,U,l1,l2⟩:=L79_spec (m:=m) (M:=qa1) (R79_1 (ev E0 KD (m+7)) qa1 (qbw E0 (ev E0 KD (m+7)) Tryd.f79) qb2) (exB 0 (R79_1 (ev E0 KD (m+7)) qa1 (qbw E0 (ev E0 KD (m+7)) Tryd.f79) qb2) qb2) on4 (gM d) (fns6 S.next S1.next) (by show 6<1000; decide) e2 (by omega) (may_call hDv (c2.grew (by omega) (fun h=>h) e3) (by have:=e3.next; omega) (c3.grew e3) m) (fns6 S.next S1.next) 0 qa1 S4 (Grew.refl _ _) rfl (by unfold qa1 fns6; simp);rw[all_may]at l1
 have h79:(ev E0 KD (m+8)).f 79 [.slice S3.next 0 6 6,.fn (.func 58) [] []] S4=some (.ret (.int .i64 (if mayD qfj qb9 qfz d then -1 else(j:Int))),U):=rq79 (by
  show F79 (ev E0 KD (m+7)) qa1 (.slice S3.next 0 6 6) (.fn (.func 58) [] []) S4=_;rw[F79_eq,lnS_of (n:=6) (fun _ _ e=>by cases e) rfl,oB];dsimp only;rw[show V.int .i64 0=.int .i64 ((0:Nat):Int)from rfl];refine Eq.trans l1 ?_;cases mayD qfj qb9 qfz d with
  | false=>rfl
  | true=>rw[iP rfl,exB_same,R79_1_eq]; rfl)
 have h57:(ev E0 KD (m+9)).f 57 [.slice S3.next 0 6 6,.fn (.func 58) [] []] S4=some (.ret (.bool (!mayD qfj qb9 qfz d)),U):=rq57 (by
  show F57 (ev E0 KD (m+8)) qa1 (.slice S3.next 0 6 6) (.fn (.func 58) [] []) S4=_;rw[F57_eq,h79,callP_ret,binV_ii,intsV_geq];cases mayD qfj qb9 qfz d with
  | true=>rfl
  | false=>rw[iN (by simp),oB,dT (by omega)]; rfl)
 have h29:(ev E0 KD (m+10)).f 29 [.slice S3.next 0 6 6] S4=some (.ret (.bool (mayD qfj qb9 qfz d)),U):=rq29 (by
  show F29 (ev E0 KD (m+9)) qa1 (.slice S3.next 0 6 6) S4=_
  rw[F29_eq,h57,callP_ret,unV_not,oB,Bool.not_not])
 rw[h29,callP_ret]at hF;exact⟨U,rq15 hF,gS4.trans l2⟩
end
theorem ext80:E0.ext.get 80=some 105:=by kernel_rfl
section
variable {S T U:St} {b N:Nat}
theorem make_lg (self:EV) (n:Nat) (hn:n<1000000) (S:St):qch E0 self (.fn (.func 80) [] []) [.int .i64 (n:Int)] S=some (.ret (.oslice S.next 0 n 1),nw S (.cells 5 1 n false .nil)):=by
 have h:=qky (E:=E0) (self:=self) ext80 [] [] [.int .i64 (n:Int)] S;have h1:extV 105 [.int .i64 (n:Int)] S=bif Nat.blt n qac then some (.val (.oslice S.next 0 n 1) (nw S (.cells 5 1 n false .nil)))else none:=rfl;rw[blt_true.2 (show n<qac by unfold qac; omega),cT]at h1;rw[List.nil_append,List.append_nil,h1]at h;exact h
theorem pairs62 {b N:Nat} (hb:b≠N) (l:List LE):qam [[],[],[],[⟨b,1,1+1,false⟩],[],[],[],[],[⟨N,0,big,true⟩],[],[],[],[⟨b,1,1+1,false⟩],[],l,[]] [(3,[12,13]),(4,[12,13]),(8,[12,13])]=true:=by
 have h1:qbr [⟨b,1,1+1,false⟩] [⟨b,1,1+1,false⟩]=false:=qbx (by simp);have h2:qbr [⟨N,0,big,true⟩] [⟨b,1,1+1,false⟩]=false:=qbx (by simp; exact fun e=>hb e.symm);have h3:qbr [⟨b,1,1+1,false⟩] []=false:=qbx (by simp);have h4:qbr [⟨N,0,big,true⟩] []=false:=qbx (by simp);show(bif (bif qbr [⟨b,1,1+1,false⟩] [⟨b,1,1+1,false⟩]then true else(bif qbr [⟨b,1,1+1,false⟩] []then true else false))then false else(bif (bif qbr ([]:List LE) [⟨b,1,1+1,false⟩]then true else(bif qbr ([]:List LE) []then true else false))then false else(bif (bif qbr [⟨N,0,big,true⟩] [⟨b,1,1+1,false⟩]then true else(bif qbr [⟨N,0,big,true⟩] []then true else false))then false else true)))=true;rw[h1,h2,h3,h4];rfl
def Fresh (S:St) (b N:Nat):Prop:=S.on=false/\b<N/\N<=S.next/\∃t,AgAt S b 55 2 t/\(t.get 0=some .nilptr\/t.get 0=some (.ptr b 0))/\t.get 1=some .nilslice
theorem fresh_new (ho:S.on=false):Fresh (nwP 55 2 (Tr.ofListFrom .nil [.nilptr,.nilslice] 0) S).2 S.next (S.next+1):=by
 obtain⟨a1,a2,a3⟩:=qcj ho 55 2 (Tr.ofListFrom .nil [.nilptr,.nilslice] 0);exact⟨a2.on.trans ho,by omega,by omega,_,a1,.inl rfl,rfl⟩
theorem check_fresh (m:Nat) (h:Fresh S b N):∃U,(ev E0 KD (m+1)).f 40 [.ptr b 0] S=some (.ret (.tuple []),U)/\Fresh U b N/\Grew (fun x=>x=b) S U:=by
 obtain⟨ho,hb,hN,t,h1,h2,h3⟩:=h;obtain⟨c,hc1,hc2⟩:=id h1
 have hhead:∀u,t.get 0=some u->headB 55 b S=some (u,S):=fun u hu=>by
  unfold headB;rw[hc1];dsimp only;rw[show(Nat.beq 55 55&&Nat.beq 2 2&&Nat.blt 0 1&&!false)=true from rfl,cT,hc2,oB,hu,oB,qau ho]
 rcases h2 with h2|h2
 . obtain⟨w,k1,k2,k3,k4⟩:=h1.st1 ho big2 (by decide) (i:=0) (by decide) (.ptr b 0) rfl rfl rfl
   have hst:stK S b 0 1 (Ev.one (.ptr b 0))=some w:=by
    have hk:vu (stK S b 0 1 (Ev.one (.ptr b 0)))=some (.tuple [],w):=k1;cases hq:stK S b 0 1 (Ev.one (.ptr b 0))with
    | none=>rw[hq]at hk; cases hk
    | some z=>rw[hq]at hk; cases hk; rfl
   refine⟨w,?_,⟨k3.on.trans ho,hb,by omega,_,k2,.inr (setS _ _ _),by rw[qfy _ _ _ _ (by decide)]; exact h3⟩,k3⟩;rw[qd4 (show KD 40=some (qaq 55)from rfl)];unfold qaq;dsimp only;rw[Nat.beq_refl,cT,hhead _ h2,oB];dsimp only;rw[hst,oB]
 . refine⟨S,?_,⟨ho,hb,hN,t,h1,.inr h2,h3⟩,Grew.refl _ _⟩
   rw[qd4 (show KD 40=some (qaq 55)from rfl)];unfold qaq;dsimp only;rw[Nat.beq_refl,cT,hhead _ h2,oB];dsimp only;rw[Nat.beq_refl,Nat.beq_refl,Bool.and_self,cT]
theorem grow_run (m:Nat) (h:Fresh S b N) (n:Nat) (h0:0<n) (hn:n<100000):∃U,(ev E0 KD (m+1)).f 62 [.ptr b 0,.int .i64 (n:Int)] S=some (.ret (.tuple []),U)/\Bd U b [] N/\Grew (fun x=>x=b\/N<=x) S U:=by
 obtain⟨ho,hb,hN,t,h4,h5,h6⟩:=h;have g1:Grew (fun _=>False) S (nw S (.cells 5 1 n false .nil)):=qd6 ho _ _;have on1:=g1.on.trans ho;have hF:=F62_eq (ev E0 KD m) qa1 (.ptr b 0) (.int .i64 (n:Int)) S;have hld:=h4.ld1 ho big2 (by decide) h6;have hl1:=qeq ho hld [];have ag1:=h4.grew (by omega) (fun h=>h) g1;have hl2:=qeq on1 (ag1.ld1 on1 big2 (by decide) h6) [];obtain⟨U1,r1,r2,r3,r4⟩:=qeh ho (nw S (.cells 5 1 n false .nil)) [] [[],[],[],[⟨b,1,1+1,false⟩],[],[],[],[],[⟨S.next,0,big,true⟩],[],[],[],[⟨b,1,1+1,false⟩],[],[⟨S.next,big-1,big,false⟩],[]];have gU1:=Grew.of_eq r2 r3 (r4.trans on1.symm);have agU:=ag1.grew (by show b<S.next+1; omega) (fun h=>h) gU1;obtain⟨U2,k1,k2,k3,k4⟩:=agU.st1 r4 big2 (by decide) (i:=1) (by decide) (.oslice S.next 0 0 1) rfl rfl rfl
 have hsl:qbf E0 53 (.oslice S.next 0 n 1) none (some (.int .i64 ((0:Nat):Int))) none ((nw S (.cells 5 1 n false .nil)).lg [])=some (.oslice S.next 0 0 1,(nw S (.cells 5 1 n false .nil)).lg [⟨S.next,big-1,big,false⟩]):=by
  unfold qbf;rw[und53,oB];simp only;rw[show Ev.sizeT E0 5=some 1 by kernel_rfl,oB,show(Nat.beq 1 1&&Nat.blt 0 1)=true from rfl,cT]
  have hsz:qhd ((nw S (.cells 5 1 n false .nil)).lg []) S.next=some (1*n,(nw S (.cells 5 1 n false .nil)).lg [⟨S.next,big-1,big,false⟩]):=by
   unfold qhd;rw[show((nw S (.cells 5 1 n false .nil)).lg []).heap.get S.next=some (.cells 5 1 n false .nil)from by show(nw S _).heap.get _=_; rw[qes,iP rfl]];dsimp only;rw[blt_true.2 (show 1*n<big by unfold big; omega),cT,qjb]
  rw[hsz,oB];dsimp only;rw[show(1*n-0)/1=n by omega,qeb .i64 (Nat.zero_le n),oB];dsimp only;rw[blt_true.2 h0,cT]
 refine⟨U2,rq62 ?_,⟨k3.on.trans r4,hb,by have:=g1.next; have:=gU1.next; have:=k3.next; omega,_,_,k2,by rw[qfy _ _ _ _ (by decide)]; exact h5,setS _ _ _,.inr ⟨S.next,n,rfl,?_,by have:=gU1.next; have:=k3.next; show S.next<U2.next; rw[k4,r3]; show S.next<S.next+1; omega,hN⟩⟩,(g1.mono fun _ _ h=>(h:False).elim).trans ((gU1.mono fun _ _ h=>(h:False).elim).trans (k3.mono fun x _ e=>.inl e))⟩
 . refine hF.trans ?_
   rw[nilP,oB,faP1,oB,qax,hl1,oB];dsimp only;rw[show capP .nilslice (onS (S.lg [⟨b,1,1+1,false⟩]))=some (.int .i64 0,S.lg [])from rfl,oB];dsimp only;rw[show qa8 E0 .mul 3 true false (.int .i64 2) (.int .i64 0)=some (.int .i64 0)from rfl,oB,show qa8 E0 .add 3 false false (.int .i64 0) (.int .i64 (n:Int))=some (.int .i64 (n:Int))from by rw[binV_ii,intsV_add,Int.zero_add,qcs (by omega) (by omega)],oB,qab,qax,make_lg _ n (by omega),qcl,oB,faP1,oB];rw[show(S.lg []).next=S.next from rfl,nw_lg ho,qab,qax,hl2,oB];dsimp only;rw[show lnS .nilslice (onS ((nw S (.cells 5 1 n false .nil)).lg [⟨b,1,1+1,false⟩]))=some (.int .i64 ((0:Nat):Int),(nw S (.cells 5 1 n false .nil)).lg [])from rfl,oB];dsimp only;rw[qab,qax,hsl,oB];dsimp only;rw[show(S.lg [⟨b,1,1+1,false⟩]).log=[⟨b,1,1+1,false⟩]from rfl,show(S.lg []).log=[]from rfl,show((nw S (.cells 5 1 n false .nil)).lg [⟨S.next,0,big,true⟩]).log=[⟨S.next,0,big,true⟩]from rfl,show((nw S (.cells 5 1 n false .nil)).lg [⟨b,1,1+1,false⟩]).log=[⟨b,1,1+1,false⟩]from rfl,show((nw S (.cells 5 1 n false .nil)).lg []).log=[]from rfl,show((nw S (.cells 5 1 n false .nil)).lg [⟨S.next,big-1,big,false⟩]).log=[⟨S.next,big-1,big,false⟩]from rfl,qfk (pairs62 (by omega) _),qab,qax,r1,oB,faP1,oB,agU.ld1 r4 big2 (by decide) h6,oB];dsimp only
   rw[show cpP 1 (.oslice S.next 0 0 1) .nilslice U1=some (.int .i64 (.ofNat 0),U1)from rfl,oB,oB,faP1,oB];dsimp only;rw[k1,oB]
 . refine⟨.nil,?_,Nat.zero_le _,by omega,fun i b hb=>by simp at hb⟩
   rw[k3.keep S.next (by rw[r3]; show S.next<S.next+1; omega) (by omega),r2,qes,iP rfl]
theorem Grow_run (m:Nat) (h:Fresh S b N) (n:Nat) (h0:0<n) (hn:n<100000):∃U v,(ev E0 KD (m+2)).f 41 [.ptr b 0,.int .i64 (n:Int)] S=some (.ret v,U)/\Bd U b [] N/\Grew (fun x=>x=b\/N<=x) S U:=by
 obtain⟨S1,a1,a2,a3⟩:=check_fresh m h;obtain⟨ho,hb,hN,t,h1,h2,h3⟩:=id a2;obtain⟨U,b1,b2,b3⟩:=grow_run m a2 n h0 hn;refine⟨U,.tuple [],rq41 ?_,b2,(a3.mono fun x _ e=>.inl e).trans b3⟩;show F41 (ev E0 KD (m+1)) qa1 (.ptr b 0) (.int .i64 (n:Int)) S=_;have hl:=qeq ho (h1.ld1 ho big2 (by decide) h3) []
 have e0:qa8 E0 .lss 3 false true (.int .i64 (n:Int)) (.int .i64 0)=some (.bool false):=by
  rw[binV_ii,intsV_lss,dF (by omega)]
 rw[F41_eq,a1,callP_ret,e0,oB,ifK_bool,cF,R41_2_eq,nilP,oB,faP1,oB,qax,hl,oB];dsimp only;rw[show capP .nilslice (onS (S1.lg [⟨b,1,1+1,false⟩]))=some (.int .i64 ((0:Nat):Int),S1.lg [])from rfl,oB,oB,faP1,oB];dsimp only;rw[qab,qax,hl,oB];dsimp only;rw[show lnS .nilslice (onS (S1.lg [⟨b,1,1+1,false⟩]))=some (.int .i64 ((0:Nat):Int),S1.lg [])from rfl,oB];dsimp only;rw[show qa8 E0 .sub 3 false false (.int .i64 ((0:Nat):Int)) (.int .i64 ((0:Nat):Int))=some (.int .i64 ((0:Nat):Int))from rfl,oB,qg5,dT h0,oB,endP_rd (by rfl),qab,qff ho,ifK_bool,cT,b1,callP_ret];rfl
end
theorem joi_cons (a:Bs):∀l:List Bs,qhv (a::l)=a++l.flatMap fun s=>32::s
 | []=>by simp[qhv]
 | b::l=>by
  rw[qhv,joi_cons b l]
  . rfl
  . simp
section
variable {S T U:St} {b N:Nat}
def sumL (l:List Bs):Nat:=(l.map List.length).sum
theorem qj2 (a:Bs) (l:List Bs):sumL (a::l)=a.length+sumL l:=by simp[sumL]
theorem addN (c d:Bool) {a k:Nat} (h:a+k<9223372036854775807):qa8 E0 .add 3 c d (.int .i64 (a:Int)) (.int .i64 (k:Int))=some (.int .i64 ((a+k:Nat):Int)):=by
 rw[binV_ii,intsV_add,qcs (by omega) (by omega)];rfl
theorem L43_spec {self:EV} {M:Nat} (ho:S.on=false) (nk:Ac->St->Rs) (ek:Nat->Ac->St->Rs) (x1:V) {v:V} {l:List Bs} (h:TL S v l) (hl:l.length<1000) :
 ∀(q:List Bs) (i k n:Nat),l.drop i=q->q.length<n->k+sumL q<1000000->
 L18_43 self M nk ek n v x1 (.int .i64 (k:Int)) v (.int .i64 (l.length:Int)) (.int .i64 (i:Int)) S=ek 1 (fr 75 [(0,v),(1,x1),(5,.int .i64 ((k+sumL q:Nat):Int))]) S
 | _,_,_,0,_,hn,_=>by omega
 | [],i,k,n+1,hi,_,_=>by
  rw[L18_43_eq,qg5,dF (Nat.not_lt.2 (qbl hi)),oB,ifK_bool,cF];rfl
 | a::q,i,k,n+1,hi,hn,hk=>by
  obtain⟨hlt,hc,hr',hm⟩:=qby hi;rw[qj2]at hk;have ih:=L43_spec (self:=self) (M:=M) ho nk ek x1 h hl q (i+1) (k+a.length) n hr' (by simpa using hn) (by omega);obtain⟨p,p1,p2⟩:=h.ld ho (show l[i]?=some a by rw[List.getElem?_eq_getElem hlt,hc])
  have e1:qa8 E0 .sub 3 true false (.int .i64 9223372036854775807) (.int .i64 (k:Int))=some (.int .i64 (9223372036854775807-(k:Int))):=by
   rw[binV_ii,intsV_sub,qcs (by omega) (by omega)]
  have e2:qa8 E0 .gtr 3 false false (.int .i64 (a.length:Int)) (.int .i64 (9223372036854775807-(k:Int)))=some (.bool false):=by
   rw[binV_ii,intsV_gtr,dF (by omega)]
  rw[L18_43_eq,qg5,dT hlt,oB,ifK_bool,cT,p1,oB,p2,oB];dsimp only;rw[qa9,oB];dsimp only;rw[e1,oB,e2,oB,ifK_bool,cF,qa9,oB];dsimp only;rw[addN _ _ (by omega),oB,qf5 (by omega),oB,ih,qj2,Nat.add_assoc]
theorem L29_spec {m M:Nat} (nk:Ac->St->Rs) (ek:Nat->Ac->St->Rs) {v:V} {l:List Bs} (hl:l.length<1000) :
 ∀(q:List Bs) (i n:Nat) (S:St) (bs:Bs),TL S v l->(∀r e,qc5 v=some r->RowAt S r 9 1 e->r<b)->Bd S b bs N->b<N->l.drop i=q->q.length<n->bs.length+sumL q+q.length<90000->
 ∃U,L18_29 (ev E0 KD (m+2)) M nk ek n (sv [32]) (.ptr b 0) v (.int .i64 (l.length:Int)) (.int .i64 (i:Int)) S=ek 3 (fr 75 [(8,.ptr b 0)]) U/\Bd U b (bs++q.flatMap fun s=>32::s) N/\Grew (fun x=>x=b\/N<=x) S U
 | _,_,0,_,_,_,_,_,_,_,hn,_=>by omega
 | [],i,n+1,S,bs,_,_,hB,_,hi,_,_=>by
  refine⟨S,?_,by simpa using hB,Grew.refl _ _⟩;rw[L18_29_eq,qg5,dF (Nat.not_lt.2 (qbl hi)),oB,ifK_bool,cF]
 | a::q,i,n+1,S,bs,h,hb,hB,hbN,hi,hn,hk=>by
  obtain⟨hlt,hc,hr',hm⟩:=qby hi;rw[qj2,List.length_cons]at hk;obtain⟨p,p1,p2⟩:=h.ld hB.on (show l[i]?=some a by rw[List.getElem?_eq_getElem hlt,hc]);obtain⟨S1,v1,a1,a2,a3⟩:=str_run (K:=KD) rfl rfl m hB [32] (by show bs.length+1<_; omega);obtain⟨S2,v2,b1,b2,b3⟩:=str_run (K:=KD) rfl rfl m a2 a (by rw[lAq]; show bs.length+1+_<_; omega);have g:=a3.trans b3;have hw:∀r e,qc5 v=some r->RowAt S r 9 1 e->¬(r=b\/N<=r):=fun r e h1 h2=>by have:=hb r e h1 h2; omega
  have hT:=h.grew hw g
  obtain⟨U,d1,d2,d3⟩:=L29_spec (m:=m) (M:=M) nk ek hl q (i+1) n S2 _ hT (fun r e h1 h2=>by
   rcases h with⟨hl0,rfl|rfl|⟨r',c,rfl⟩⟩|⟨r',off,L,q1,q2,q3,q4,q5⟩
   . cases h1
   . cases h1
   . rw[hl0]at hlt; exact absurd hlt (Nat.not_lt_zero _)
   . have:r=r':=by rcases q5 with rfl|⟨c,rfl⟩<;>(cases h1; rfl)
     subst this
     exact hb r _ h1 q1) b2 hbN hr' (by simpa using hn) (by rw[lAq,lAq]; show bs.length+1+_+_+_<_; omega)
  refine⟨U,?_,by rw[List.flatMap_cons]; simpa using d2,g.trans d3⟩;rw[L18_29_eq,qg5,dT hlt,oB,ifK_bool,cT,p1,oB,p2,oB];dsimp only;rw[a1,callP_ret,b1,callP_ret,qf5 (by omega),oB,d1]
theorem slice_tail (r k:Nat) (hk:1<=k):qbf E0 22 (.slice r 0 k k) (some (.int .i64 1)) none none S=some (.slice r 1 (k-1) (k-1),S):=by
 have hu:und E0 22=some (.slice 9):=by kernel_rfl
 unfold qbf;rw[hu,oB];simp only;rw[show V.int .i64 1=.int .i64 ((1:Nat):Int)from rfl,qg9 .i64 hk,oB,show Ev.sizeT E0 9=some 1 by kernel_rfl,oB];rfl
theorem quoN {k:Nat} (hk:k=2\/k=3):∃q:Int,1<q/\qa8 E0 .quo 3 true false (.int .i64 9223372036854775807) (.int .i64 ((k-1:Nat):Int))=some (.int .i64 q):=by
 rcases hk with rfl|rfl
 . exact⟨9223372036854775807,by omega,rfl⟩
 . exact⟨4611686018427387903,by omega,rfl⟩
theorem f18_many (ho:S.on=false) (m:Nat) {r:Nat} {l:List Bs} (hk:l.length=2\/l.length=3) (hr:RowAt S r 9 1 (qg3 l)) (hlt:r<S.next) (hsum:sumL l<80000):∃U,(ev E0 KD (m+3)).f 18 [.slice r 0 l.length l.length,sv [32]] S=some (.ret (sv (qhv l)),U)/\Grew (fun _=>False) S U:=by
 have hTL:TL S (.slice r 0 l.length l.length) l:=TL.sli hr hlt;obtain⟨q,hq1,hq2⟩:=quoN hk;have hF:=F18_eq (ev E0 KD (m+2)) qa1 (.slice r 0 l.length l.length) (sv [32]) S;have el:lnS (.slice r 0 l.length l.length) S=some (.int .i64 (l.length:Int),S):=hTL.len S;have e0:qa8 E0 .eql 3 false true (.int .i64 (l.length:Int)) (.int .i64 0)=some (.bool false):=by rw[binV_ii,intsV_eql,dF (by omega)]
 have e1:qa8 E0 .eql 3 false true (.int .i64 (l.length:Int)) (.int .i64 1)=some (.bool false):=by rw[binV_ii,intsV_eql,dF (by omega)]
 have e2:qa8 E0 .gtr 3 false true (.int .i64 (([32]:Bs).length:Int)) (.int .i64 0)=some (.bool true):=rfl
 have e3:qa8 E0 .geq 3 false false (.int .i64 (([32]:Bs).length:Int)) (.int .i64 q)=some (.bool false):=by
  rw[binV_ii,intsV_geq,dF (by show ¬q<=1; omega)]
 have e4:qa8 E0 .mul 3 false false (.int .i64 (([32]:Bs).length:Int)) (.int .i64 ((l.length-1:Nat):Int))=some (.int .i64 ((l.length-1:Nat):Int)):=by
  rw[binV_ii,intsV_mul,show(([32]:Bs).length:Int)=1 from rfl,Int.one_mul,qcs (by omega) (by omega)]
 have e5:qa8 E0 .add 3 false false (.int .i64 0) (.int .i64 ((l.length-1:Nat):Int))=some (.int .i64 ((l.length-1:Nat):Int)):=by
  rw[binV_ii,intsV_add,Int.zero_add,qcs (by omega) (by omega)]
 rw[el,oB]at hF;dsimp only at hF;rw[e0,oB,ifK_bool,cF,e1,oB,ifK_bool,cF,qa9,oB]at hF;dsimp only at hF;rw[e2,oB,ifK_bool,cT,qa9,oB]at hF;dsimp only at hF;rw[el,oB]at hF;dsimp only at hF;rw[predN (by omega) (by omega),oB,hq2,oB,e3,oB,ifK_bool,cF,qa9,oB]at hF;dsimp only at hF;rw[el,oB]at hF;dsimp only at hF;rw[predN (by omega) (by omega),oB,e4,oB,e5,oB,R18_13_eq,el,oB]at hF;dsimp only at hF;rw[show V.int .i64 0=.int .i64 ((0:Nat):Int)from rfl,L43_spec ho _ _ (sv [32]) hTL (by omega) l 0 (l.length-1) qa1 rfl (by unfold qa1; omega) (by omega),exB_same,R18_14_eq,oB,qcu]at hF;have hfr:=fresh_new ho;obtain⟨a1,a2,a3⟩:=qcj ho 55 2 (Tr.ofListFrom .nil [.nilptr,.nilslice] 0);generalize (nwP 55 2 (Tr.ofListFrom .nil [.nilptr,.nilslice] 0) S).2=S1 at hfr a1 a2 a3 hF;obtain⟨S2,v2,b1,b2,b3⟩:=Grow_run m hfr (l.length-1+sumL l) (by omega) (by omega);rw[b1,callP_ret]at hF;have hr2:RowAt S2 r 9 1 (qg3 l):=(hr.grew hlt (fun h=>h) a2).grew (by omega) (by omega) b3;have n2:=b3.next
 obtain⟨w,ws,rfl⟩:∃w ws,l=w::ws:=by
  cases l with
  | nil=>simp at hk
  | cons w ws=>exact⟨w,ws,rfl⟩
 have hT2:TL S2 (.slice r 0 (w::ws).length (w::ws).length) (w::ws):=TL.sli hr2 (by omega);obtain⟨p,p1,p2⟩:=w_ix hT2 b2.on (i:=0) (a:=w) rfl;rw[show V.int .i64 0=.int .i64 ((0:Nat):Int)from rfl,p1,oB,p2,oB]at hF;dsimp only at hF;rw[qj2]at hsum;obtain⟨S3,v3,c1,c2,c3⟩:=str_run (K:=KD) rfl rfl m b2 w (by show 0+w.length<_; omega);rw[c1,callP_ret,slice_tail r _ (by simp),oB]at hF;dsimp only at hF;have hr3:RowAt S3 r 9 1 (qg3 (w::ws)):=hr2.grew (by omega) (by omega) c3;have n3:=c3.next
 have hT3:TL S3 (.slice r 1 ((w::ws).length-1) ((w::ws).length-1)) ws:=.inr ⟨r,1,w::ws,hr3,by omega,by simp only[List.length_cons]; omega,by simp,.inr ⟨(w::ws).length-1,rfl⟩⟩;rw[hT3.len,oB]at hF;dsimp only at hF;obtain⟨S4,d1,d2,d3⟩:=L29_spec (m:=m) (M:=qa1) (R18_22 (ev E0 KD (m+2)) qa1 (fun a s=>qba [4] a fun a=>qba [4] a fun a=>qbw E0 (ev E0 KD (m+2)) Tryd.f18 a s) qb2) (exB 3 (R18_22 (ev E0 KD (m+2)) qa1 (fun a s=>qba [4] a fun a=>qba [4] a fun a=>qbw E0 (ev E0 KD (m+2)) Tryd.f18 a s) qb2) qb2) (l:=ws) (by simp at hk; omega) ws 0 qa1 S3 ([]++w) hT3 (fun r' e h1 h2=>by cases h1; omega) c2 (by omega) rfl (by simp at hk; unfold qa1; omega) (by simp at hk ⊢; omega)
 have hne:([]++w++ws.flatMap fun s=>32::s)≠[]:=fun e=>by
  cases ws with
  | nil=>simp at hk
  | cons v ws=>simp at e
 obtain⟨S5,e6,e7⟩:=qkn (K:=KD) rfl (m+1) d2 hne;rw[d1,exB_same,R18_22_eq,e6,callP_ret]at hF;refine⟨S5,rq18 (hF.trans ?_),Grew.fresh a2 (N:=S.next) (lR _) (((b3.mono fun x _ hx=>by omega).trans (c3.mono fun x _ hx=>by omega)).trans ((d3.mono fun x _ hx=>by omega).trans (e7.mono fun x _ hx=>by omega)))⟩;rw[joi_cons,List.nil_append]
theorem f18_one (ho:S.on=false) (m:Nat) {r:Nat} {a:Bs} (hr:RowAt S r 9 1 (qg3 [a])) (hlt:r<S.next):(ev E0 KD (m+3)).f 18 [.slice r 0 1 1,sv [32]] S=some (.ret (sv a),S):=rq18 (by
 show F18 (ev E0 KD (m+2)) qa1 (.slice r 0 1 1) (sv [32]) S=_;have hTL:TL S (.slice r 0 1 1) [a]:=TL.sli hr hlt;obtain⟨p,p1,p2⟩:=w_ix hTL ho (i:=0) (a:=a) rfl;rw[F18_eq,hTL.len,oB];dsimp only
 rw[show qa8 E0 .eql 3 false true (.int .i64 (([a].length:Nat):Int)) (.int .i64 0)=some (.bool false)from rfl,oB,ifK_bool,cF,show qa8 E0 .eql 3 false true (.int .i64 (([a].length:Nat):Int)) (.int .i64 1)=some (.bool true)from rfl,oB,ifK_bool,cT,show V.int .i64 0=.int .i64 ((0:Nat):Int)from rfl,p1,oB,p2,oB])
theorem qkd (m:Nat) {l:List Bs} {r b N:Nat} {bs:Bs} (hB:Bd S b bs N) (hk:l.length=1\/l.length=2\/l.length=3) (hr:RowAt S r 9 1 (qg3 l)) (hlt:r<S.next) (hsum:sumL l<30000) (hbs:bs.length<50000) :
 ∃U,(ev E0 KD (m+4)).f 16 [.slice r 0 l.length l.length,.ptr b 0] S=some (.ret (.tuple []),U)/\Bd U b (bs++(qhv l++[10])) N/\Grew (fun x=>x=b\/N<=x) S U:=by
 have hj:∃U,(ev E0 KD (m+3)).f 18 [.slice r 0 l.length l.length,sv [32]] S=some (.ret (sv (qhv l)),U)/\Grew (fun _=>False) S U:=by
  rcases hk with hk|hk
  . match l,hk with
    | [a],_=>exact⟨S,f18_one hB.on m hr hlt,Grew.refl _ _⟩
  . exact f18_many hB.on m hk hr hlt (by omega)
 obtain⟨S1,a1,a2⟩:=hj
 have hjl:(qhv l).length<=sumL l+3:=by
  match l,hk with
  | [],hk=>simp at hk
  | [a],_=>simp[qhv,sumL]
  | [a,c],_=>simp[qhv,sumL]; omega
  | [a,c,e],_=>simp[qhv,sumL]; omega
  | _::_::_::_::_,hk=>simp at hk
 have hB1:=hB.grew a2 (fun h=>h) (fun _ _ _ h=>h);obtain⟨U,v,b1,b2,b3⟩:=str_run (K:=KD) rfl rfl (m+1) hB1 (qhv l++[10]) (by rw[lAq]; show bs.length+(_+1)<_; omega);refine⟨U,rq16 ?_,b2,(a2.mono fun _ _ h=>(h:False).elim).trans b3⟩;show F16 (ev E0 KD (m+3)) qa1 (.slice r 0 l.length l.length) (.ptr b 0) S=_;rw[F16_eq,a1,callP_ret,addStr _ _ (by show _+1<_; omega),oB,b1,callP_ret]
end
end Go.Proofs.YtpgegoeghaplkaaDoor.W
