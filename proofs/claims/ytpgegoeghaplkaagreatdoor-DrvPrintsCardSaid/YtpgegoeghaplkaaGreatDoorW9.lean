/-
  WHAT THE FUNCTIONS COME TO: each is read by the evaluator,printed,and told as a function of data,part 9 of 15 (no condition).
-/
import Derived.Test.YtpgegoeghaplkaaGreatDoorW8
noncomputable section
namespace Go.Proofs.YtpgegoeghaplkaaGreatDoor.W
open Go.Proofs.YtpgegoeghaplkaaGreatDoor.Ev Go.RowKit
section
variable {S T U:St} {b N0:Nat} {d:DD} {n:Int} {vI vE:V} {t:Nat}
theorem chk_eql (s:Bs):qa4 E0 .eql 27 false true (.int .i64 (chkN s)) (.int .i64 0)=some (.bool (qf0 s)):=by
 have hu:qa4 E0 .eql 27 false true (.int .i64 (chkN s)) (.int .i64 0)=some (.bool (decide (chkN s=0))):=by
  rw[binV_ii,intsV_eql]
 rw[hu];rfl
theorem w_ix {vw:V} {w:List Bs} (h:TL S vw w) (ho:S.on=false) {i:Nat} {a:Bs} (ha:w[i]?=some a):∃p,ixP 1 vw (.int .i64 (i:Int))=some p/\ld1 p S=some (sv a,S):=h.ld ho ha
end
section
variable {S T U:St} {b N0:Nat} {d:DD} {n:Int} {vI vE:V} {t:Nat}
theorem TLo.oneV {v:V} {l:List Bs} {N:Nat} (h:TLo S v l N):OneV v:=by
 rcases h with⟨_,rfl⟩|⟨_,rfl,_⟩<;>exact⟨rfl,rfl,rfl,rfl⟩
theorem leqN (a c:Nat):qa4 E0 .leq 3 false true (.int .i64 (a:Int)) (.int .i64 (c:Int))=some (.bool (decide (a<=c))):=by
 rw[binV_ii,intsV_leq]
 congr 2
 simp
end
section
variable {S T U:St} {b N0:Nat} {d:DD} {n:Int} {vI vE:V} {t:Nat}
theorem VLo.len {l:List (Bs×Bs)} {N:Nat} {v:V} (h:VLo S v l N) (T:St):lnS v T=some (.int .i64 (l.length:Int),T):=by
 rcases h with⟨rfl,rfl⟩|⟨r,rfl,_⟩
 . rfl
 . exact qjc (fun _ _ e=>by cases e) rfl
end
theorem build_41 (a v:Bs):qfj E0 41 [(0,sv a),(1,sv v)]=some (.agg 2 (qip (a,v))):=by kernel_rfl
def Z50:Tr V:=Tr.ofListFrom .nil [(sv []),(sv [])] 0
section
variable {S T U W:St} {b N0:Nat} {d:DD} {n:Int} {vI vE:V} {t:Nat}
end
section
variable {S T U W:St} {b N0:Nat} {d:DD} {n:Int} {vI vE:V} {t:Nat}
theorem bs_var (ho:S.on=false) (tr:Tr V):∃U,(∀L,bsP 41 2 1 (Tr.ofListFrom .nil [(sv []),(sv [])] 0) [(0,.agg 2 tr)] (S.lg L)=some (.slice S.next 0 1 1,U.lg (⟨S.next,0,big,true⟩::L)))/\RowAt U S.next 41 2 [tr]/\Grew (fun _=>False) S U/\U.next=S.next+1:=by
 refine⟨nw S (.cells 41 2 1 false ((Tr.tab 1 1 fun _=>Z50).set tr 0)),fun L=>?_,?_,qca ho _ _,rfl⟩
 . unfold bsP qgd qgd
   rw[show(Nat.beq (V.agg 2 tr).size 2&&Nat.blt 0 1&&!qam (V.agg 2 tr))=true from rfl,cT,Tr.setC_eq,oB,nw_lg ho];rfl
 . refine qe8 ho (by omega) rfl (by unfold big; decide) fun i u h=>?_
   rw[Tr.get_set];cases i with
   | zero=>simpa using h
   | succ i=>simp at h
theorem VLo.pushOn (ho:W.on=false) {v:V} {l:List (Bs×Bs)} {N:Nat} (h:VLo W v l N) (hN:N<=W.next) (hl:l.length<=1000) {y:Nat} {p:Bs×Bs} (hy:RowAt W y 41 2 [qip p]) (L:List LE):∃v' U l',apP 41 2 32 v (.slice y 0 1 1) (W.lg L)=some (v',U.lg l')/\VLo U v' (l++[p]) N/\Grew (fun x=>qk4 v=some x) W U/\OneV v':=by
 rcases h with⟨rfl,rfl⟩|⟨r,rfl,h1,h2,h3,h4⟩
 . obtain⟨u,l',k1,k2,k3,k4⟩:=ap_first_lg ho L hy
   exact⟨_,u,l',k1,.inr ⟨W.next,rfl,k2,by omega,hN,by simp⟩,k3.mono fun _ _ h=>(h:False).elim,⟨rfl,rfl,rfl,rfl⟩⟩
 . obtain⟨u,l',k1,k2,k3,k4⟩:=ap_more_lg ho L hy h1 (by rw[lM]; omega)
   rw[lM]at k1;exact⟨_,u,l',k1,.inr ⟨W.next,by rw[lAq,List.length_singleton],by rw[List.map_append]; exact k2,by omega,hN,by rw[lAq,List.length_singleton]; omega⟩,k3.mono fun x _ e=>by rw[e]; rfl,⟨rfl,rfl,rfl,rfl⟩⟩
end
theorem qdc:4<big:=by unfold big; decide
theorem big1':1<big:=by unfold big; decide
structure DrvT (T:Tr V) (nm:Bs) (vI vE:V) (scr:Bs):Prop where
 nm:T.get 0=some (sv nm)
 ins:T.get 1=some vI
 env:T.get 2=some vE
 scr:T.get 3=some (sv scr)
def ZD:Tr V:=Tr.ofListFrom .nil [(sv []),.nilslice,.nilslice,(sv [])] 0
section
variable {S T U W:St} {b N0:Nat} {d:DD} {n:Int} {vI vE:V} {t:Nat}
variable {self:EV} {a:Ac} {pd pe:Nat}
end
end Go.Proofs.YtpgegoeghaplkaaGreatDoor.W




namespace Go.Proofs.YtpgegoeghaplkaaGreatDoor.W
open Go.Proofs.YtpgegoeghaplkaaGreatDoor.Ev Go.RowKit
section
variable {S T U:St} {q pn N:Nat} {d:DD} {vI vE vN:V} {Tt:Tr V}
structure Dv (S:St) (q N:Nat) (Tt:Tr V) (d:DD) (vI vE:V):Prop where
 on:S.on=false
 lt:q<S.next
 ag:AgAt S q 25 4 Tt
 t:DrvT Tt d.nm vI vE d.scr
 ins:TLo S vI d.ins N
 env:VLo S vE d.env N
 li:d.ins.length<=1000
 le:d.env.length<=1000
 ln:d.nm.length<=20000
 lp:∀p∈d.ins,p.length<=20000
 lv:∀p∈d.env,p.1.length<=20000
 lw:∀p∈d.env,p.2.length<=1000
 ls:d.scr.length<=20000
theorem Dv.grew0 (h:Dv S q N Tt d vI vE) (g:Grew (fun _=>False) S U):Dv U q N Tt d vI vE:=
 ⟨g.on.trans h.on,Nat.lt_of_lt_of_le h.lt g.next,h.ag.grew h.lt (fun h=>h) g,h.t,h.ins.grew g,h.env.grew g fun _ _ h=>h,h.li,h.le,h.ln,h.lp,h.lv,h.lw,h.ls⟩
theorem f30_run (h:Dv S q N Tt d vI vE) (m:Nat):(ev E0 KD (m+2)).f 39 [.ptr q 0] S=some (.ret (.bool (qf0 d.nm)),S):=rq30 (by
 show F39 (ev E0 KD (m+1)) qa1 (.ptr q 0) S=_;rw[F39_eq,show faP 0 false 1 (.ptr q 0)=some (.ptr q 0)from rfl,oB,h.ag.ld1 h.on qdc (by decide) h.t.nm,oB];dsimp only
 rw[check_k m d.nm (by have:=h.ln; omega) S,callP_ret,chk_eql,oB])
theorem f31_run (h:Dv S q N Tt d vI vE) (m:Nat):(ev E0 KD (m+1)).f 40 [.ptr q 0] S=some (.ret (.bool (decide (d.ins.length<=8/\d.env.length<=16))),S):=rq31 (by
 show F40 (ev E0 KD m) qa1 (.ptr q 0) S=_;have e1:qa4 E0 .leq 3 false true (.int .i64 (d.ins.length:Int)) (.int .i64 8)=some (.bool (decide (d.ins.length<=8))):=leqN _ 8;have e2:qa4 E0 .leq 3 false true (.int .i64 (d.env.length:Int)) (.int .i64 16)=some (.bool (decide (d.env.length<=16))):=leqN _ 16;rw[F40_eq,show faP 1 false 1 (.ptr q 0)=some (.ptr q 1)from rfl,oB,h.ag.ld1 h.on qdc (by decide) h.t.ins,oB];dsimp only;rw[h.ins.tl.len,oB];dsimp only;rw[e1,oB];by_cases h8:d.ins.length<=8
 . rw[dT h8]
   simp only[qah,oB,cT,pickV_bool,show faP 2 false 1 (.ptr q 0)=some (.ptr q 2)from rfl,h.ag.ld1 h.on qdc (show 2<4 by decide) h.t.env,h.env.len,e2,h8,true_and]
 . rw[dF h8,dF (fun e=>h8 e.1)]
   rfl)
theorem body34:E0.ext.get 43=none/\qb5 E0 43=true:=⟨by kernel_rfl,by kernel_rfl⟩
theorem f34_run (m:Nat) (s:Bs) (hs:s.length<=20000) (S:St):(ev E0 KD (m+2)).f 43 [sv s] S=some (.ret (.bool (!qb1 s)),S):=rq34 (by
 show F43 (ev E0 KD (m+1)) qa1 (sv s) S=_
 rw[F43_eq,path_k m s (by omega) S,callP_ret,unV_not,oB])
theorem L59_spec {m M:Nat} (ho:S.on=false) (nk:Ac->St->Rs) (ek:Nat->Ac->St->Rs) {v:V} {l:List Bs} (h:TL S v l) (hl:l.length<=1000) (hp:∀p∈l,p.length<=20000) :
 ∀(r:List Bs) (i n:Nat),l.drop i=r->r.length<n->
 ∃j:Nat,L77_6 (ev E0 KD (m+2)) M nk ek n v (.fn (.func 43) [] []) (.int .i64 (l.length:Int)) (.int .i64 (i:Int)) S=if r.all qb1 then ek 0 (fr 19 []) S else some (.ret (.int .i64 (j:Int)),S)
 | _,_,0,_,hn=>by omega
 | [],i,n+1,hi,_=>⟨0,by
  rw[L77_6_eq,qds,dF (Nat.not_lt.2 (qau hi)),oB,ifK_bool,cF]
  rfl⟩
 | a::r,i,n+1,hi,hn=>by
  obtain⟨hlt,hc,hr',hm⟩:=qba hi;obtain⟨j,ih⟩:=L59_spec (m:=m) (M:=M) ho nk ek h hl hp r (i+1) n hr' (by simpa using hn);obtain⟨p,x1,x2⟩:=h.ld ho (show l[i]?=some a by rw[List.getElem?_eq_getElem hlt,hc]);rw[L77_6_eq,qds,dT hlt,oB,ifK_bool,cT,x1,oB,x2,oB];dsimp only;rw[qbm body34.1 body34.2];show ∃j:Nat,(qaf ((ev E0 KD (m+2)).f 43 [sv a] S) _)=_;rw[f34_run m a (hp a hm) S,callP_ret,ifK_bool,List.all_cons];cases qb1 a with
  | false=>exact⟨i,rfl⟩
  | true=>exact⟨j,by rw[Bool.not_true,cF,qc1 (by omega),oB,ih,Bool.true_and]⟩
theorem f32_run (h:Dv S q N Tt d vI vE) (m:Nat):(ev E0 KD (m+5)).f 41 [.ptr q 0] S=some (.ret (.bool (d.ins.all qb1)),S):=rq32 (by
 show F41 (ev E0 KD (m+4)) qa1 (.ptr q 0) S=_;obtain⟨j,hj⟩:=L59_spec (m:=m) (M:=qa1) h.on (R77_1 (ev E0 KD (m+2)) qa1 (qat E0 (ev E0 KD (m+2)) Tryz.f77) qad) (exB 0 (R77_1 (ev E0 KD (m+2)) qa1 (qat E0 (ev E0 KD (m+2)) Tryz.f77) qad) qad) h.ins.tl h.li h.lp d.ins 0 qa1 rfl (by have:=h.li; unfold qa1; omega)
 have h59:(ev E0 KD (m+3)).f 77 [vI,.fn (.func 43) [] []] S=some (.ret (.int .i64 (if d.ins.all qb1 then -1 else(j:Int))),S):=rq59 (by
  show F77 (ev E0 KD (m+2)) qa1 vI (.fn (.func 43) [] []) S=_;rw[F77_eq,h.ins.tl.len,oB];dsimp only;rw[show V.int .i64 0=.int .i64 ((0:Nat):Int)from rfl,hj];cases d.ins.all qb1 with
  | false=>rfl
  | true=>rw[iP rfl,exB_same,R77_1_eq]; rfl)
 have h33:(ev E0 KD (m+4)).f 42 [vI,.fn (.func 43) [] []] S=some (.ret (.bool (!d.ins.all qb1)),S):=rq33 (by
  show F42 (ev E0 KD (m+3)) qa1 vI (.fn (.func 43) [] []) S=_;rw[F42_eq,h59,callP_ret,binV_ii,intsV_geq];cases d.ins.all qb1 with
  | true=>rfl
  | false=>rw[iN (by simp),oB,dT (by omega)]; rfl)
 rw[F41_eq,show faP 1 false 1 (.ptr q 0)=some (.ptr q 1)from rfl,oB,h.ag.ld1 h.on qdc (by decide) h.t.ins,oB];dsimp only
 rw[h33,callP_ret,unV_not,oB,Bool.not_not])
theorem f35_run (h:Dv S q N Tt d vI vE) (hN:AgAt S pn 22 1 (Ev.one vN)) {M:Nat} (hn:TLo S vN (d.env.map Prod.fst) M) (m:Nat):(ev E0 KD (m+2)).f 45 [.ptr q 0,.ptr pn 0] S=some (.ret (.bool (qik d.ins&&qik (d.env.map Prod.fst))),S):=rq35 (by
 show F45 (ev E0 KD (m+1)) qa1 (.ptr q 0) (.ptr pn 0) S=_;rw[F45_eq,show faP 1 false 1 (.ptr q 0)=some (.ptr q 1)from rfl,oB,h.ag.ld1 h.on qdc (by decide) h.t.ins,oB];dsimp only;rw[f24_run h.on m h.ins.tl (by have:=h.li; omega),callP_ret];cases qik d.ins with
 | false=>rfl
 | true=>
  simp only[qah,oB,cT];rw[hN.ld1 h.on big1' (by decide) rfl,oB];dsimp only
  rw[f24_run h.on m hn.tl (by rw[lM]; have:=h.le; omega),callP_ret,pickV_bool,cT,oB,Bool.true_and])
theorem f39_run (h:Dv S q N Tt d vI vE) (m:Nat):(ev E0 KD (m+1)).f 51 [.ptr q 0] S=some (.ret (.bool (decide (d.scr.length<=4000))),S):=rq39 (by
 show F51 (ev E0 KD m) qa1 (.ptr q 0) S=_;rw[F51_eq,show faP 3 false 1 (.ptr q 0)=some (.ptr q 3)from rfl,oB,h.ag.ld1 h.on qdc (by decide) h.t.scr,oB];dsimp only;rw[qa5,oB];dsimp only
 rw[show V.int .i64 4000=.int .i64 ((4000:Nat):Int)from rfl,leqN,oB])
def varOk (p:Bs×Bs):Bool:=qhb p.1&&decide (p.2.length<=200)
theorem VLo.ldA {v:V} {l:List (Bs×Bs)} {N:Nat} (h:VLo S v l N) (ho:S.on=false) {i:Nat} {p:Bs×Bs} (hp:l[i]?=some p):∃x,ixP 2 v (.int .i64 (i:Int))=some x/\Ev.ldA 2 x S=some (.agg 2 (qip p),S):=by
 obtain⟨hi,he⟩:=List.getElem?_eq_some_iff.1 hp;rcases h with⟨rfl,_⟩|⟨r,rfl,h1,h2,h3,h4⟩
 . simp at hp
 . refine⟨.ptr r (0+i*2),?_,?_⟩
   . have h0:ixP 2 (.oslice r 0 l.length 2) (.int .i64 (i:Int))=bif Nat.blt i l.length then some (.ptr r (0+i*2))else none:=rfl
     rw[h0,blt_true.2 hi,cT]
   . unfold Ev.ldA
     dsimp only;rw[Nat.zero_add,h1.ldK ho (i:=i) (t:=qip p) (by rw[List.getElem?_map,hp]; rfl),oB]
theorem body38:E0.ext.get 49=none/\qb5 E0 49=true:=⟨by kernel_rfl,by kernel_rfl⟩
theorem f38_run (ho:S.on=false) (m:Nat) (p:Bs×Bs) (h1:p.1.length<=20000) (h2:p.2.length<=20000):∃U,(ev E0 KD (m+3)).f 49 [.agg 2 (qip p)] S=some (.ret (.bool (!varOk p)),U)/\Grew (fun _=>False) S U:=by
 obtain⟨U,a1,a2,a3,a4⟩:=box_new ho 41 [sv p.1,sv p.2];have on1:=a3.on.trans ho;have hag:AgAt U S.next 41 2 (qip p):=⟨_,a2,by rw[Tr.get_ofList]; rfl⟩
 refine⟨U,rq38 ?_,a3⟩;show F49 (ev E0 KD (m+2)) qa1 (.agg 2 (qip p)) S=_
 have e1:qa4 E0 .gtr 3 false true (.int .i64 (p.2.length:Int)) (.int .i64 200)=some (.bool (decide (200<p.2.length))):=by
  rw[binV_ii,intsV_gtr]
  congr 2
  simp;omega
 rw[F49_eq,show qjy 41 (.agg 2 (qip p)) S=_ from a1,oB];dsimp only;rw[show faP 0 false 1 (.ptr S.next 0)=some (.ptr S.next 0)from rfl,oB,hag.ld1 on1 big2 (by decide) (show(qip p).get 0=some (sv p.1) by unfold qip; rw[Tr.get_ofList]; rfl),oB];dsimp only;rw[f25_run m p.1 (by omega) U,callP_ret,unV_not,oB];unfold varOk;cases qhb p.1 with
 | false=>rfl
 | true=>
  simp only[qag,oB,cT,pickV_bool,Bool.not_true,nF,cF,show faP 1 false 1 (.ptr S.next 0)=some (.ptr S.next 1)from rfl,hag.ld1 on1 big2 (show 1<2 by decide) (show(qip p).get 1=some (sv p.2) by unfold qip; rw[Tr.get_ofList]; rfl),qa5,e1,Bool.true_and]
  congr 5
  by_cases h:p.2.length<=200
  . rw[dT h,dF (by omega)]; rfl
  . rw[dF h,dT (by omega)]; rfl
theorem L60_spec {m M:Nat} (nk:Ac->St->Rs) (ek:Nat->Ac->St->Rs) {v:V} {l:List (Bs×Bs)} (hl:l.length<=1000) (hp:∀p∈l,p.1.length<=20000/\p.2.length<=20000) :
 ∀(r:List (Bs×Bs)) (i n:Nat) (S:St),S.on=false->VLo S v l N->l.drop i=r->r.length<n->
 ∃(j:Nat) (U:St),L78_6 (ev E0 KD (m+3)) M nk ek n v (.fn (.func 49) [] []) (.int .i64 (l.length:Int)) (.int .i64 (i:Int)) S=(if r.all varOk then ek 0 (fr 19 []) U else some (.ret (.int .i64 (j:Int)),U))/\Grew (fun _=>False) S U
 | _,_,0,_,_,_,_,hn=>by omega
 | [],i,n+1,S,ho,_,hi,_=>⟨0,S,by
  rw[L78_6_eq,qds,dF (Nat.not_lt.2 (qau hi)),oB,ifK_bool,cF]
  rfl,Grew.refl _ _⟩
 | a::r,i,n+1,S,ho,h,hi,hn=>by
  obtain⟨hlt,hc,hr',hm⟩:=qba hi;obtain⟨x,x1,x2⟩:=h.ldA ho (show l[i]?=some a by rw[List.getElem?_eq_getElem hlt,hc]);obtain⟨U1,u1,u2⟩:=f38_run ho m a (hp a hm).1 (hp a hm).2;obtain⟨j,U,ih,g⟩:=L60_spec (m:=m) (M:=M) nk ek hl hp r (i+1) n U1 (u2.on.trans ho) (h.grew u2 fun _ _ h=>h) hr' (by simpa using hn);rw[L78_6_eq,qds,dT hlt,oB,ifK_bool,cT,x1,oB,x2,oB];dsimp only;rw[qbm body38.1 body38.2];show ∃(j:Nat) (U:St),(qaf ((ev E0 KD (m+3)).f 49 [.agg 2 (qip a)] S) _)=_/\_;rw[u1,callP_ret,ifK_bool,List.all_cons];cases varOk a with
  | false=>exact⟨i,U1,rfl,u2⟩
  | true=>exact⟨j,U,by rw[Bool.not_true,cF,qc1 (by omega),oB,ih,Bool.true_and],u2.trans g⟩
theorem f36_run (h:Dv S q N Tt d vI vE) (m:Nat):∃U,(ev E0 KD (m+6)).f 47 [.ptr q 0] S=some (.ret (.bool (d.env.all varOk)),U)/\Grew (fun _=>False) S U:=by
 obtain⟨j,U,hj,hg⟩:=L60_spec (N:=N) (m:=m) (M:=qa1) (R78_1 (ev E0 KD (m+3)) qa1 (qat E0 (ev E0 KD (m+3)) Tryz.f78) qad) (exB 0 (R78_1 (ev E0 KD (m+3)) qa1 (qat E0 (ev E0 KD (m+3)) Tryz.f78) qad) qad) h.le (fun p hp=>⟨h.lv p hp,by have:=h.lw p hp; omega⟩) d.env 0 qa1 S h.on h.env rfl (by have:=h.le; unfold qa1; omega);refine⟨U,rq36 ?_,hg⟩;show F47 (ev E0 KD (m+5)) qa1 (.ptr q 0) S=_
 have h60:(ev E0 KD (m+4)).f 78 [vE,.fn (.func 49) [] []] S=some (.ret (.int .i64 (if d.env.all varOk then -1 else(j:Int))),U):=rq60 (by
  show F78 (ev E0 KD (m+3)) qa1 vE (.fn (.func 49) [] []) S=_;rw[F78_eq,h.env.len,oB];dsimp only;rw[show V.int .i64 0=.int .i64 ((0:Nat):Int)from rfl,hj];cases d.env.all varOk with
  | false=>rfl
  | true=>rw[iP rfl,exB_same,R78_1_eq]; rfl)
 have h37:(ev E0 KD (m+5)).f 48 [vE,.fn (.func 49) [] []] S=some (.ret (.bool (!d.env.all varOk)),U):=rq37 (by
  show F48 (ev E0 KD (m+4)) qa1 vE (.fn (.func 49) [] []) S=_;rw[F48_eq,h60,callP_ret,binV_ii,intsV_geq];cases d.env.all varOk with
  | true=>rfl
  | false=>rw[iN (by simp),oB,dT (by omega)]; rfl)
 rw[F47_eq,show faP 2 false 1 (.ptr q 0)=some (.ptr q 2)from rfl,oB,h.ag.ld1 h.on qdc (by decide) h.t.env,oB];dsimp only;rw[h37,callP_ret,unV_not,oB,Bool.not_not]
end
theorem body58:E0.ext.get 76=none/\qb5 E0 76=true:=⟨by kernel_rfl,by kernel_rfl⟩
theorem bodyMay:(E0.ext.get 39=none/\qb5 E0 39=true)/\(E0.ext.get 40=none/\qb5 E0 40=true)/\(E0.ext.get 41=none/\qb5 E0 41=true)/\(E0.ext.get 45=none/\qb5 E0 45=true)/\(E0.ext.get 47=none/\qb5 E0 47=true)/\(E0.ext.get 51=none/\qb5 E0 51=true):=⟨⟨by kernel_rfl,by kernel_rfl⟩,⟨by kernel_rfl,by kernel_rfl⟩,⟨by kernel_rfl,by kernel_rfl⟩,⟨by kernel_rfl,by kernel_rfl⟩,⟨by kernel_rfl,by kernel_rfl⟩,by kernel_rfl,by kernel_rfl⟩
section
variable {S S0 T U:St} {q pn N:Nat} {d:DD} {vI vE vN:V} {Tt:Tr V}
theorem L79_spec {m M:Nat} (nk:Ac->St->Rs) (ek:Nat->Ac->St->Rs) {r:Nat} (h0:S0.on=false) (g:V->Bool) (fs:List V) (hk:fs.length<1000) (hr:RowAt S0 r 30 1 (fs.map Ev.one)) (hlt:r<S0.next)
 (hf:∀f∈fs,∀S',Grew (fun _=>False) S0 S'->∃U,qc8 E0 (ev E0 KD (m+6)) f [] S'=some (.ret (.bool (g f)),U)/\Grew (fun _=>False) S' U) :
 ∀(l:List V) (i n:Nat) (S:St),Grew (fun _=>False) S0 S->fs.drop i=l->l.length<n->
 ∃(j:Nat) (U:St),L102_6 (ev E0 KD (m+7)) M nk ek n (.slice r 0 fs.length fs.length) (.fn (.func 76) [] []) (.int .i64 (fs.length:Int)) (.int .i64 (i:Int)) S=(if l.all g then ek 0 (fr 19 []) U else some (.ret (.int .i64 (j:Int)),U))/\Grew (fun _=>False) S U
 | _,_,0,_,_,_,hn=>by omega
 | [],i,n+1,S,_,hi,_=>⟨0,S,by
  rw[L102_6_eq,qds,dF (Nat.not_lt.2 (qau hi)),oB,ifK_bool,cF]
  rfl,Grew.refl _ _⟩
 | f::l,i,n+1,S,hg,hi,hn=>by
  obtain⟨hlt',hc,hr',hm⟩:=qba hi;obtain⟨U1,u1,u2⟩:=hf f hm S hg;obtain⟨j,U,ih,g2⟩:=L79_spec (m:=m) (M:=M) nk ek h0 g fs hk hr hlt hf l (i+1) n U1 (hg.trans u2) hr' (by simpa using hn);have hl:ld1 (.ptr r i) S=some (f,S):=(hr.grew hlt (fun h=>h) hg).ld1 (hg.on.trans h0) (by rw[List.getElem?_map,List.getElem?_eq_getElem hlt',hc]; rfl)
  have h58:(ev E0 KD (m+7)).f 76 [f] S=some (.ret (.bool (!g f)),U1):=rq58 (by
   show F76 (ev E0 KD (m+6)) qa1 f S=_
   rw[F76_eq,u1,callP_ret,unV_not,oB])
  rw[L102_6_eq,qds,dT hlt',oB,ifK_bool,cT,ixP_sl r fs.length i hlt',oB,hl,oB];dsimp only;rw[qbm body58.1 body58.2];show ∃(j:Nat) (U:St),(qaf ((ev E0 KD (m+7)).f 76 [f] S) _)=_/\_;rw[h58,callP_ret,ifK_bool,List.all_cons];cases g f with
  | false=>exact⟨i,U1,rfl,u2⟩
  | true=>exact⟨j,U,by rw[Bool.not_true,cF,qc1 (by omega),oB,ih,Bool.true_and],u2.trans g2⟩
def fns6 (q pn:Nat):List V:=[.fn (.func 39) [] [.ptr q 0],.fn (.func 40) [] [.ptr q 0],.fn (.func 41) [] [.ptr q 0],.fn (.func 45) [] [.ptr q 0,.ptr pn 0],.fn (.func 47) [] [.ptr q 0],.fn (.func 51) [] [.ptr q 0]]
def gM (d:DD):V->Bool
 | .fn (.func 39) _ _=>qf0 d.nm
 | .fn (.func 40) _ _=>decide (d.ins.length<=8/\d.env.length<=16)
 | .fn (.func 41) _ _=>d.ins.all qb1
 | .fn (.func 45) _ _=>qik d.ins&&qik (d.env.map Prod.fst)
 | .fn (.func 47) _ _=>d.env.all varOk
 | _=>decide (d.scr.length<=4000)
theorem all_may (q pn:Nat) (d:DD):(fns6 q pn).all (gM d)=qje qf0 qb1 qhb d:=by
 unfold fns6 qje;simp only[List.all_cons,List.all_nil,Bool.and_true,gM,Bool.and_assoc];rfl
theorem may_call (h:Dv S0 q N Tt d vI vE) (hN:AgAt S0 pn 22 1 (Ev.one vN)) (hp:pn<S0.next) {M:Nat} (hn:TLo S0 vN (d.env.map Prod.fst) M) (m:Nat):∀f∈fns6 q pn,∀S',Grew (fun _=>False) S0 S'->∃U,qc8 E0 (ev E0 KD (m+6)) f [] S'=some (.ret (.bool (gM d f)),U)/\Grew (fun _=>False) S' U:=fun f hf S' hg=>by
 have h':=h.grew0 hg;have hN':=hN.grew hp (fun h=>h) hg;have hn':=hn.grew hg;simp only[fns6,List.mem_cons,List.not_mem_nil,or_false]at hf;rcases hf with rfl|rfl|rfl|rfl|rfl|rfl
 . rw[qbm bodyMay.1.1 bodyMay.1.2]; exact⟨S',f30_run h' (m+4),Grew.refl _ _⟩
 . rw[qbm bodyMay.2.1.1 bodyMay.2.1.2]; exact⟨S',f31_run h' (m+5),Grew.refl _ _⟩
 . rw[qbm bodyMay.2.2.1.1 bodyMay.2.2.1.2]; exact⟨S',f32_run h' (m+1),Grew.refl _ _⟩
 . rw[qbm bodyMay.2.2.2.1.1 bodyMay.2.2.2.1.2]; exact⟨S',f35_run h' hN' hn' (m+4),Grew.refl _ _⟩
 . rw[qbm bodyMay.2.2.2.2.1.1 bodyMay.2.2.2.2.1.2]; exact f36_run h' m
 . rw[qbm bodyMay.2.2.2.2.2.1 bodyMay.2.2.2.2.2.2]; exact⟨S',f39_run h' (m+5),Grew.refl _ _⟩
theorem L15_spec {m M1 Nn:Nat} (nk:Ac->St->Rs) (ek:Nat->Ac->St->Rs) (v1:V) {l:List (Bs×Bs)} (hl:l.length<=1000) :
 ∀(r:List (Bs×Bs)) (i n:Nat) (S:St) (vN:V),S.on=false->VLo S vE l N->AgAt S pn 22 1 (Ev.one vN)->TLo S vN ((l.take i).map Prod.fst) M1->pn<M1->M1<=S.next->(∀x,qk4 vE=some x->x<pn)->l.drop i=r->r.length<n->
 ∃(U:St) (vN':V),L15_17 (ev E0 KD (m+10)) Nn nk ek n v1 (.ptr pn 0) vE (.int .i64 (l.length:Int)) (.int .i64 (i:Int)) S=ek 0 (fr 27 [(1,v1),(3,.ptr pn 0)]) U/\AgAt U pn 22 1 (Ev.one vN')/\TLo U vN' (l.map Prod.fst) M1/\Grew (fun x=>pn<=x) S U
 | _,_,0,_,_,_,_,_,_,_,_,_,_,hn=>by omega
 | [],i,n+1,S,vN,ho,hE,hA,hT,_,_,_,hi,_=>by
  refine⟨S,vN,?_,hA,?_,Grew.refl _ _⟩
  . rw[L15_17_eq,qds,dF (Nat.not_lt.2 (qau hi)),oB,ifK_bool,cF]
  . rwa [List.take_of_length_le (qau hi)]at hT
 | p::r,i,n+1,S,vN,ho,hE,hA,hT,hpn,hM,hblk,hi,hn=>by
  obtain⟨hlt,hc,hr',hm⟩:=qba hi;obtain⟨x,x1,x2⟩:=hE.ldA ho (show l[i]?=some p by rw[List.getElem?_eq_getElem hlt,hc]);obtain⟨a1,a2,a3⟩:=qc7 ho 41 2 (Tr.ofListFrom .nil [(sv []),(sv [])] 0);have on1:=a2.on.trans ho;obtain⟨S2,b1,b2,b3,b4⟩:=a1.stA on1 big2 (qip p);have on2:=b3.on.trans on1;have g2:Grew (fun _=>False) S S2:=a2.own (lR _) b3;have hA2:=hA.grew (by omega) (fun h=>h) g2;have hT2:=hT.grew g2;have n2:=g2.next
  obtain⟨y,W,v',S3,k1,k2,k3,k4⟩:=hT2.push on2 (by omega) (by rw[lM,List.length_take]; omega) p.1;have on3:=k4.on.trans on2;have n3:=k4.next
  have hA3:=hA2.grew (by omega) (by omega) k4;have hv':=k3.oneV;obtain⟨S4,c1,c2,c3,c4⟩:=hA3.st_one on3 v' hv'.size hv'.cells hv'.tup;have g4:Grew (fun x=>pn<=x) S S4:=(g2.mono fun _ _ h=>(h:False).elim).trans ((k4.mono fun x _ hx=>by omega).trans (c3.mono fun x _ hx=>by omega))
  have hT4:TLo S4 v' (((l.take (i+1)).map Prod.fst)) M1:=by
   have:(l.take (i+1)).map Prod.fst=(l.take i).map Prod.fst++[p.1]:=by rw[qnw hlt,hc,List.map_append]; rfl
   rw[this]
   exact k3.grewW c3 fun z hz e=>by
    rcases k3 with⟨_,rfl⟩|⟨r0,rfl,_,_,h6,_⟩
    . cases hz
    . cases hz; omega
  obtain⟨U,vN',d1,d2,d3,d4⟩:=L15_spec (m:=m) (M1:=M1) (Nn:=Nn) nk ek v1 hl r (i+1) n S4 v' (c3.on.trans on3) (hE.grew g4 fun z hz h=>by have:=hblk z hz; omega) c2 hT4 hpn (by omega) hblk hr' (by simpa using hn);refine⟨U,vN',?_,d2,d3,g4.trans d4⟩;rw[L15_17_eq,qds,dT hlt,oB,ifK_bool,cT,x1,oB,x2,oB];dsimp only;rw[oB,qet,b1,oB];dsimp only;rw[hA2.ld1 on2 big1' (by decide) rfl,oB];dsimp only;rw[show faP 0 false 1 (.ptr S.next 0)=some (.ptr S.next 0)from rfl,oB,b2.ld1 on2 big2 (by decide) (show(qip p).get 0=some (sv p.1) by unfold qip; rw[Tr.get_ofList]; rfl),oB];dsimp only;rw[k1,oB];dsimp only;rw[k2,oB];dsimp only;rw[c1,oB];dsimp only;rw[qc1 (by omega),oB,d1]
structure Dx (S:St) (N:Nat) (Tt:Tr V) (d:DD) (vI vE:V):Prop where
 on:S.on=false
 t:DrvT Tt d.nm vI vE d.scr
 ins:TLo S vI d.ins N
 env:VLo S vE d.env N
 li:d.ins.length<=1000
 le:d.env.length<=1000
 ln:d.nm.length<=20000
 lp:∀p∈d.ins,p.length<=20000
 lv:∀p∈d.env,p.1.length<=20000
 lw:∀p∈d.env,p.2.length<=1000
 ls:d.scr.length<=20000
theorem Dx.env_lt (h:Dx S N Tt d vI vE):∀x,qk4 vE=some x->x<S.next:=fun x hx=>by
 rcases h.env with⟨_,rfl⟩|⟨r,rfl,_,h3,_⟩
 . cases hx
 . cases hx; exact h3
theorem f15_run (h:Dx S N Tt d vI vE) (m:Nat):∃U,(ev E0 KD (m+11)).f 15 [.agg 4 Tt] S=some (.ret (.bool (qje qf0 qb1 qhb d)),U)/\Grew (fun _=>False) S U:=by
 have ho:=h.on;obtain⟨a1,a2,a3⟩:=qc7 ho 25 4 Tt;have on1:=a2.on.trans ho;have hF:=F15_eq (ev E0 KD (m+10)) qa1 (.agg 4 Tt) S;rw[show qjy 25 (.agg 4 Tt) S=some (.ptr S.next 0,(nwP 25 4 Tt S).2)from rfl,oB]at hF;dsimp only at hF;generalize (nwP 25 4 Tt S).2=S1 at a1 a2 a3 on1 hF;obtain⟨b1,b2,b3⟩:=qc7 on1 22 1 (Ev.one .nilslice);have on2:=b2.on.trans on1;rw[oB,qet]at hF;generalize (nwP 22 1 (Ev.one .nilslice) S1).2=S2 at b1 b2 b3 on2 hF;have g2:Grew (fun _=>False) S S2:=a2.trans b2;have hag2:AgAt S2 S.next 25 4 Tt:=a1.grew (by omega) (fun h=>h) b2
 have hE2:=h.env.grew g2 fun _ _ h=>h;rw[show faP 2 false 1 (.ptr S.next 0)=some (.ptr S.next 2)from rfl,oB,hag2.ld1 on2 qdc (by decide) h.t.env,oB]at hF;dsimp only at hF;rw[hE2.len,oB]at hF;dsimp only at hF;have hblk:=h.env_lt;obtain⟨S3,vN,c1,c2,c3,c4⟩:=L15_spec (vE:=vE) (N:=N) (pn:=S1.next) (m:=m) (M1:=S2.next) (Nn:=qa1) (R15_3 (ev E0 KD (m+10)) qa1 (qat E0 (ev E0 KD (m+10)) Tryz.f15) qad) (exB 0 (R15_3 (ev E0 KD (m+10)) qa1 (qat E0 (ev E0 KD (m+10)) Tryz.f15) qad) qad) (.ptr S.next 0) h.le d.env 0 qa1 S2 .nilslice on2 hE2 b1 (.inl ⟨rfl,rfl⟩) (by omega) (lR _) (fun x hx=>by have:=hblk x hx; omega) rfl (by have:=h.le; unfold qa1; omega);have on3:=c4.on.trans on2;have n3:=c4.next
 rw[show V.int .i64 0=.int .i64 ((0:Nat):Int)from rfl,c1,exB_same,R15_3_eq]at hF;have gS3:Grew (fun _=>False) S S3:=Grew.fresh g2 (N:=S1.next) (by omega) c4
 obtain⟨S4,e1,e2,e3,e4⟩:=qe5 on3 30 (Ev.one .nilfn) (fns6 S.next S1.next) (fun v hv=>by
  simp only[fns6,List.mem_cons,List.not_mem_nil,or_false]at hv
  rcases hv with rfl|rfl|rfl|rfl|rfl|rfl<;>exact⟨rfl,rfl,rfl,rfl⟩) (by show 6<big; unfold big; decide)
 have on4:=e3.on.trans on3;rw[show bsP 30 1 6 (Ev.one .nilfn) [(0,(.fn (.func 39) [] [.ptr S.next 0])),(1,(.fn (.func 40) [] [.ptr S.next 0])),(2,(.fn (.func 41) [] [.ptr S.next 0])),(3,(.fn (.func 45) [] [.ptr S.next 0,.ptr S1.next 0])),(4,(.fn (.func 47) [] [.ptr S.next 0])),(5,(.fn (.func 51) [] [.ptr S.next 0]))] S3=some (.slice S3.next 0 6 6,S4)from e1 none,oB]at hF;dsimp only at hF;have g4:Grew (fun x=>S1.next<=x) S2 S4:=c4.trans (e3.mono fun _ _ h=>(h:False).elim);have gS4:=gS3.trans e3;have hDv:Dv S4 S.next N Tt d vI vE:=⟨on4,by have:=e3.next; omega,hag2.grew (by omega) (by omega) g4,h.t,h.ins.grew gS4,h.env.grew gS4 fun _ _ h=>h,h.li,h.le,h.ln,h.lp,h.lv,h.lw,h.ls⟩
 obtain⟨j,U,l1,l2⟩:=L79_spec (m:=m) (M:=qa1) (R102_1 (ev E0 KD (m+7)) qa1 (qat E0 (ev E0 KD (m+7)) Tryz.f102) qad) (exB 0 (R102_1 (ev E0 KD (m+7)) qa1 (qat E0 (ev E0 KD (m+7)) Tryz.f102) qad) qad) on4 (gM d) (fns6 S.next S1.next) (by show 6<1000; decide) e2 (by omega) (may_call hDv (c2.grew (by omega) (fun h=>h) e3) (by have:=e3.next; omega) (c3.grew e3) m) (fns6 S.next S1.next) 0 qa1 S4 (Grew.refl _ _) rfl (by unfold qa1 fns6; simp);rw[all_may]at l1
 have h79:(ev E0 KD (m+8)).f 102 [.slice S3.next 0 6 6,.fn (.func 76) [] []] S4=some (.ret (.int .i64 (if qje qf0 qb1 qhb d then -1 else(j:Int))),U):=rq79 (by
  show F102 (ev E0 KD (m+7)) qa1 (.slice S3.next 0 6 6) (.fn (.func 76) [] []) S4=_;rw[F102_eq,qjc (n:=6) (fun _ _ e=>by cases e) rfl,oB];dsimp only;rw[show V.int .i64 0=.int .i64 ((0:Nat):Int)from rfl];refine Eq.trans l1 ?_;cases qje qf0 qb1 qhb d with
  | false=>rfl
  | true=>rw[iP rfl,exB_same,R102_1_eq]; rfl)
 have h57:(ev E0 KD (m+9)).f 75 [.slice S3.next 0 6 6,.fn (.func 76) [] []] S4=some (.ret (.bool (!qje qf0 qb1 qhb d)),U):=rq57 (by
  show F75 (ev E0 KD (m+8)) qa1 (.slice S3.next 0 6 6) (.fn (.func 76) [] []) S4=_;rw[F75_eq,h79,callP_ret,binV_ii,intsV_geq];cases qje qf0 qb1 qhb d with
  | true=>rfl
  | false=>rw[iN (by simp),oB,dT (by omega)]; rfl)
 have h29:(ev E0 KD (m+10)).f 38 [.slice S3.next 0 6 6] S4=some (.ret (.bool (qje qf0 qb1 qhb d)),U):=rq29 (by
  show F38 (ev E0 KD (m+9)) qa1 (.slice S3.next 0 6 6) S4=_
  rw[F38_eq,h57,callP_ret,unV_not,oB,Bool.not_not])
 rw[h29,callP_ret]at hF;exact⟨U,rq15 hF,gS4.trans l2⟩
end
theorem ext80:E0.ext.get 103=some 105:=by kernel_rfl
section
variable {S T U:St} {b N:Nat}
theorem make_lg (self:EV) (n:Nat) (hn:n<1000000) (S:St):qc8 E0 self (.fn (.func 103) [] []) [.int .i64 (n:Int)] S=some (.ret (.oslice S.next 0 n 1),nw S (.cells 5 1 n false .nil)):=by
 have h:=callK_ext (E:=E0) (self:=self) ext80 [] [] [.int .i64 (n:Int)] S;have h1:extV 105 [.int .i64 (n:Int)] S=bif Nat.blt n qac then some (.val (.oslice S.next 0 n 1) (nw S (.cells 5 1 n false .nil)))else none:=rfl;rw[blt_true.2 (show n<qac by unfold qac; omega),cT]at h1;rw[List.nil_append,List.append_nil,h1]at h;exact h
theorem pairs62 {b N:Nat} (hb:b≠N) (l:List LE):qaw [[],[],[],[⟨b,1,1+1,false⟩],[],[],[],[],[⟨N,0,big,true⟩],[],[],[],[⟨b,1,1+1,false⟩],[],l,[]] [(3,[12,13]),(4,[12,13]),(8,[12,13])]=true:=by
 have h1:qdt [⟨b,1,1+1,false⟩] [⟨b,1,1+1,false⟩]=false:=qei (by simp);have h2:qdt [⟨N,0,big,true⟩] [⟨b,1,1+1,false⟩]=false:=qei (by simp; exact fun e=>hb e.symm);have h3:qdt [⟨b,1,1+1,false⟩] []=false:=qei (by simp);have h4:qdt [⟨N,0,big,true⟩] []=false:=qei (by simp);show(bif (bif qdt [⟨b,1,1+1,false⟩] [⟨b,1,1+1,false⟩]then true else(bif qdt [⟨b,1,1+1,false⟩] []then true else false))then false else(bif (bif qdt ([]:List LE) [⟨b,1,1+1,false⟩]then true else(bif qdt ([]:List LE) []then true else false))then false else(bif (bif qdt [⟨N,0,big,true⟩] [⟨b,1,1+1,false⟩]then true else(bif qdt [⟨N,0,big,true⟩] []then true else false))then false else true)))=true;rw[h1,h2,h3,h4];rfl
def Fresh (S:St) (b N:Nat):Prop:=S.on=false/\b<N/\N<=S.next/\∃t,AgAt S b 45 2 t/\(t.get 0=some .nilptr\/t.get 0=some (.ptr b 0))/\t.get 1=some .nilslice
theorem fresh_new (ho:S.on=false):Fresh (nwP 45 2 (Tr.ofListFrom .nil [.nilptr,.nilslice] 0) S).2 S.next (S.next+1):=by
 obtain⟨a1,a2,a3⟩:=qc7 ho 45 2 (Tr.ofListFrom .nil [.nilptr,.nilslice] 0);exact⟨a2.on.trans ho,by omega,by omega,_,a1,.inl rfl,rfl⟩
theorem check_fresh (m:Nat) (h:Fresh S b N):∃U,(ev E0 KD (m+1)).f 52 [.ptr b 0] S=some (.ret (.tuple []),U)/\Fresh U b N/\Grew (fun x=>x=b) S U:=by
 obtain⟨ho,hb,hN,t,h1,h2,h3⟩:=h;obtain⟨c,hc1,hc2⟩:=id h1
 have hhead:∀u,t.get 0=some u->headB 45 b S=some (u,S):=fun u hu=>by
  unfold headB;rw[hc1];dsimp only;rw[show(Nat.beq 45 45&&Nat.beq 2 2&&Nat.blt 0 1&&!false)=true from rfl,cT,hc2,oB,hu,oB,qav ho]
 rcases h2 with h2|h2
 . obtain⟨w,k1,k2,k3,k4⟩:=h1.st1 ho big2 (by decide) (i:=0) (by decide) (.ptr b 0) rfl rfl rfl
   have hst:stK S b 0 1 (Ev.one (.ptr b 0))=some w:=by
    have hk:vu (stK S b 0 1 (Ev.one (.ptr b 0)))=some (.tuple [],w):=k1;cases hq:stK S b 0 1 (Ev.one (.ptr b 0))with
    | none=>rw[hq]at hk; cases hk
    | some z=>rw[hq]at hk; cases hk; rfl
   refine⟨w,?_,⟨k3.on.trans ho,hb,by omega,_,k2,.inr (setS _ _ _),by rw[setG _ _ _ _ (by decide)]; exact h3⟩,k3⟩;rw[qc9 (show KD 52=some (qb4 45)from rfl)];unfold qb4;dsimp only;rw[Nat.beq_refl,cT,hhead _ h2,oB];dsimp only;rw[hst,oB]
 . refine⟨S,?_,⟨ho,hb,hN,t,h1,.inr h2,h3⟩,Grew.refl _ _⟩
   rw[qc9 (show KD 52=some (qb4 45)from rfl)];unfold qb4;dsimp only;rw[Nat.beq_refl,cT,hhead _ h2,oB];dsimp only;rw[Nat.beq_refl,Nat.beq_refl,Bool.and_self,cT]
theorem grow_run (m:Nat) (h:Fresh S b N) (n:Nat) (h0:0<n) (hn:n<100000):∃U,(ev E0 KD (m+1)).f 81 [.ptr b 0,.int .i64 (n:Int)] S=some (.ret (.tuple []),U)/\Bd U b [] N/\Grew (fun x=>x=b\/N<=x) S U:=by
 obtain⟨ho,hb,hN,t,h4,h5,h6⟩:=h;have g1:Grew (fun _=>False) S (nw S (.cells 5 1 n false .nil)):=qca ho _ _;have on1:=g1.on.trans ho;have hF:=F81_eq (ev E0 KD m) qa1 (.ptr b 0) (.int .i64 (n:Int)) S;have hld:=h4.ld1 ho big2 (by decide) h6;have hl1:=qbx ho hld [];have ag1:=h4.grew (by omega) (fun h=>h) g1;have hl2:=qbx on1 (ag1.ld1 on1 big2 (by decide) h6) [];obtain⟨U1,r1,r2,r3,r4⟩:=qjp ho (nw S (.cells 5 1 n false .nil)) [] [[],[],[],[⟨b,1,1+1,false⟩],[],[],[],[],[⟨S.next,0,big,true⟩],[],[],[],[⟨b,1,1+1,false⟩],[],[⟨S.next,big-1,big,false⟩],[]];have gU1:=Grew.of_eq r2 r3 (r4.trans on1.symm);have agU:=ag1.grew (by show b<S.next+1; omega) (fun h=>h) gU1;obtain⟨U2,k1,k2,k3,k4⟩:=agU.st1 r4 big2 (by decide) (i:=1) (by decide) (.oslice S.next 0 0 1) rfl rfl rfl
 have hsl:qb6 E0 43 (.oslice S.next 0 n 1) none (some (.int .i64 ((0:Nat):Int))) none ((nw S (.cells 5 1 n false .nil)).lg [])=some (.oslice S.next 0 0 1,(nw S (.cells 5 1 n false .nil)).lg [⟨S.next,big-1,big,false⟩]):=by
  unfold qb6;rw[und53,oB];simp only;rw[show Ev.sizeT E0 5=some 1 by kernel_rfl,oB,show(Nat.beq 1 1&&Nat.blt 0 1)=true from rfl,cT]
  have hsz:qg3 ((nw S (.cells 5 1 n false .nil)).lg []) S.next=some (1*n,(nw S (.cells 5 1 n false .nil)).lg [⟨S.next,big-1,big,false⟩]):=by
   unfold qg3;rw[show((nw S (.cells 5 1 n false .nil)).lg []).heap.get S.next=some (.cells 5 1 n false .nil)from by show(nw S _).heap.get _=_; rw[qdv,iP rfl]];dsimp only;rw[blt_true.2 (show 1*n<big by unfold big; omega),cT,qkf]
  rw[hsz,oB];dsimp only;rw[show(1*n-0)/1=n by omega,qep .i64 (Nat.zero_le n),oB];dsimp only;rw[blt_true.2 h0,cT]
 refine⟨U2,rq62 ?_,⟨k3.on.trans r4,hb,by have:=g1.next; have:=gU1.next; have:=k3.next; omega,_,_,k2,by rw[setG _ _ _ _ (by decide)]; exact h5,setS _ _ _,.inr ⟨S.next,n,rfl,?_,by have:=gU1.next; have:=k3.next; show S.next<U2.next; rw[k4,r3]; show S.next<S.next+1; omega,hN⟩⟩,(g1.mono fun _ _ h=>(h:False).elim).trans ((gU1.mono fun _ _ h=>(h:False).elim).trans (k3.mono fun x _ e=>.inl e))⟩
 . refine hF.trans ?_
   rw[nilP,oB,faP1,oB,qdw,hl1,oB];dsimp only;rw[show capP .nilslice (onS (S.lg [⟨b,1,1+1,false⟩]))=some (.int .i64 0,S.lg [])from rfl,oB];dsimp only;rw[show qa4 E0 .mul 3 true false (.int .i64 2) (.int .i64 0)=some (.int .i64 0)from rfl,oB,show qa4 E0 .add 3 false false (.int .i64 0) (.int .i64 (n:Int))=some (.int .i64 (n:Int))from by rw[binV_ii,intsV_add,Int.zero_add,qbg (by omega) (by omega)],oB,qby,qdw,make_lg _ n (by omega),qal,oB,faP1,oB];rw[show(S.lg []).next=S.next from rfl,nw_lg ho,qby,qdw,hl2,oB];dsimp only;rw[show lnS .nilslice (onS ((nw S (.cells 5 1 n false .nil)).lg [⟨b,1,1+1,false⟩]))=some (.int .i64 ((0:Nat):Int),(nw S (.cells 5 1 n false .nil)).lg [])from rfl,oB];dsimp only;rw[qby,qdw,hsl,oB];dsimp only;rw[show(S.lg [⟨b,1,1+1,false⟩]).log=[⟨b,1,1+1,false⟩]from rfl,show(S.lg []).log=[]from rfl,show((nw S (.cells 5 1 n false .nil)).lg [⟨S.next,0,big,true⟩]).log=[⟨S.next,0,big,true⟩]from rfl,show((nw S (.cells 5 1 n false .nil)).lg [⟨b,1,1+1,false⟩]).log=[⟨b,1,1+1,false⟩]from rfl,show((nw S (.cells 5 1 n false .nil)).lg []).log=[]from rfl,show((nw S (.cells 5 1 n false .nil)).lg [⟨S.next,big-1,big,false⟩]).log=[⟨S.next,big-1,big,false⟩]from rfl,qb3 (pairs62 (by omega) _),qby,qdw,r1,oB,faP1,oB,agU.ld1 r4 big2 (by decide) h6,oB];dsimp only
   rw[show cpP 1 (.oslice S.next 0 0 1) .nilslice U1=some (.int .i64 (.ofNat 0),U1)from rfl,oB,oB,faP1,oB];dsimp only;rw[k1,oB]
 . refine⟨.nil,?_,Nat.zero_le _,by omega,fun i b hb=>by simp at hb⟩
   rw[k3.keep S.next (by rw[r3]; show S.next<S.next+1; omega) (by omega),r2,qdv,iP rfl]
theorem Grow_run (m:Nat) (h:Fresh S b N) (n:Nat) (h0:0<n) (hn:n<100000):∃U v,(ev E0 KD (m+2)).f 53 [.ptr b 0,.int .i64 (n:Int)] S=some (.ret v,U)/\Bd U b [] N/\Grew (fun x=>x=b\/N<=x) S U:=by
 obtain⟨S1,a1,a2,a3⟩:=check_fresh m h;obtain⟨ho,hb,hN,t,h1,h2,h3⟩:=id a2;obtain⟨U,b1,b2,b3⟩:=grow_run m a2 n h0 hn;refine⟨U,.tuple [],rq41 ?_,b2,(a3.mono fun x _ e=>.inl e).trans b3⟩;show F53 (ev E0 KD (m+1)) qa1 (.ptr b 0) (.int .i64 (n:Int)) S=_;have hl:=qbx ho (h1.ld1 ho big2 (by decide) h3) []
 have e0:qa4 E0 .lss 3 false true (.int .i64 (n:Int)) (.int .i64 0)=some (.bool false):=by
  rw[binV_ii,intsV_lss,dF (by omega)]
 rw[F53_eq,a1,callP_ret,e0,oB,ifK_bool,cF,R53_2_eq,nilP,oB,faP1,oB,qdw,hl,oB];dsimp only;rw[show capP .nilslice (onS (S1.lg [⟨b,1,1+1,false⟩]))=some (.int .i64 ((0:Nat):Int),S1.lg [])from rfl,oB,oB,faP1,oB];dsimp only;rw[qby,qdw,hl,oB];dsimp only;rw[show lnS .nilslice (onS (S1.lg [⟨b,1,1+1,false⟩]))=some (.int .i64 ((0:Nat):Int),S1.lg [])from rfl,oB];dsimp only;rw[show qa4 E0 .sub 3 false false (.int .i64 ((0:Nat):Int)) (.int .i64 ((0:Nat):Int))=some (.int .i64 ((0:Nat):Int))from rfl,oB,qds,dT h0,oB,endP_rd (by rfl),qby,qjq ho,ifK_bool,cT,b1,callP_ret];rfl
end
theorem joi_cons (a:Bs):∀l:List Bs,qmv (a::l)=a++l.flatMap fun s=>32::s
 | []=>by simp[qmv]
 | b::l=>by
  rw[qmv,joi_cons b l]
  . rfl
  . simp
section
variable {S T U:St} {b N:Nat}
def sumL (l:List Bs):Nat:=(l.map List.length).sum
theorem qju (a:Bs) (l:List Bs):sumL (a::l)=a.length+sumL l:=by simp[sumL]
theorem addN (c d:Bool) {a k:Nat} (h:a+k<9223372036854775807):qa4 E0 .add 3 c d (.int .i64 (a:Int)) (.int .i64 (k:Int))=some (.int .i64 ((a+k:Nat):Int)):=by
 rw[binV_ii,intsV_add,qbg (by omega) (by omega)];rfl
theorem L43_spec {self:EV} {M:Nat} (ho:S.on=false) (nk:Ac->St->Rs) (ek:Nat->Ac->St->Rs) (x1:V) {v:V} {l:List Bs} (h:TL S v l) (hl:l.length<1000) :
 ∀(q:List Bs) (i k n:Nat),l.drop i=q->q.length<n->k+sumL q<1000000->
 L18_43 self M nk ek n v x1 (.int .i64 (k:Int)) v (.int .i64 (l.length:Int)) (.int .i64 (i:Int)) S=ek 1 (fr 75 [(0,v),(1,x1),(5,.int .i64 ((k+sumL q:Nat):Int))]) S
 | _,_,_,0,_,hn,_=>by omega
 | [],i,k,n+1,hi,_,_=>by
  rw[L18_43_eq,qds,dF (Nat.not_lt.2 (qau hi)),oB,ifK_bool,cF];rfl
 | a::q,i,k,n+1,hi,hn,hk=>by
  obtain⟨hlt,hc,hr',hm⟩:=qba hi;rw[qju]at hk;have ih:=L43_spec (self:=self) (M:=M) ho nk ek x1 h hl q (i+1) (k+a.length) n hr' (by simpa using hn) (by omega);obtain⟨p,p1,p2⟩:=h.ld ho (show l[i]?=some a by rw[List.getElem?_eq_getElem hlt,hc])
  have e1:qa4 E0 .sub 3 true false (.int .i64 9223372036854775807) (.int .i64 (k:Int))=some (.int .i64 (9223372036854775807-(k:Int))):=by
   rw[binV_ii,intsV_sub,qbg (by omega) (by omega)]
  have e2:qa4 E0 .gtr 3 false false (.int .i64 (a.length:Int)) (.int .i64 (9223372036854775807-(k:Int)))=some (.bool false):=by
   rw[binV_ii,intsV_gtr,dF (by omega)]
  rw[L18_43_eq,qds,dT hlt,oB,ifK_bool,cT,p1,oB,p2,oB];dsimp only;rw[qa5,oB];dsimp only;rw[e1,oB,e2,oB,ifK_bool,cF,qa5,oB];dsimp only;rw[addN _ _ (by omega),oB,qc1 (by omega),oB,ih,qju,Nat.add_assoc]
theorem L29_spec {m M:Nat} (nk:Ac->St->Rs) (ek:Nat->Ac->St->Rs) {v:V} {l:List Bs} (hl:l.length<1000) :
 ∀(q:List Bs) (i n:Nat) (S:St) (bs:Bs),TL S v l->(∀r e,qk4 v=some r->RowAt S r 9 1 e->r<b)->Bd S b bs N->b<N->l.drop i=q->q.length<n->bs.length+sumL q+q.length<90000->
 ∃U,L18_29 (ev E0 KD (m+2)) M nk ek n (sv [32]) (.ptr b 0) v (.int .i64 (l.length:Int)) (.int .i64 (i:Int)) S=ek 3 (fr 75 [(8,.ptr b 0)]) U/\Bd U b (bs++q.flatMap fun s=>32::s) N/\Grew (fun x=>x=b\/N<=x) S U
 | _,_,0,_,_,_,_,_,_,_,hn,_=>by omega
 | [],i,n+1,S,bs,_,_,hB,_,hi,_,_=>by
  refine⟨S,?_,by simpa using hB,Grew.refl _ _⟩;rw[L18_29_eq,qds,dF (Nat.not_lt.2 (qau hi)),oB,ifK_bool,cF]
 | a::q,i,n+1,S,bs,h,hb,hB,hbN,hi,hn,hk=>by
  obtain⟨hlt,hc,hr',hm⟩:=qba hi;rw[qju,List.length_cons]at hk;obtain⟨p,p1,p2⟩:=h.ld hB.on (show l[i]?=some a by rw[List.getElem?_eq_getElem hlt,hc]);obtain⟨S1,v1,a1,a2,a3⟩:=str_run (K:=KD) rfl rfl m hB [32] (by show bs.length+1<_; omega);obtain⟨S2,v2,b1,b2,b3⟩:=str_run (K:=KD) rfl rfl m a2 a (by rw[lAq]; show bs.length+1+_<_; omega);have g:=a3.trans b3;have hw:∀r e,qk4 v=some r->RowAt S r 9 1 e->¬(r=b\/N<=r):=fun r e h1 h2=>by have:=hb r e h1 h2; omega
  have hT:=h.grew hw g
  obtain⟨U,d1,d2,d3⟩:=L29_spec (m:=m) (M:=M) nk ek hl q (i+1) n S2 _ hT (fun r e h1 h2=>by
   rcases h with⟨hl0,rfl|rfl|⟨r',c,rfl⟩⟩|⟨r',off,L,q1,q2,q3,q4,q5⟩
   . cases h1
   . cases h1
   . rw[hl0]at hlt; exact absurd hlt (Nat.not_lt_zero _)
   . have:r=r':=by rcases q5 with rfl|⟨c,rfl⟩<;>(cases h1; rfl)
     subst this
     exact hb r _ h1 q1) b2 hbN hr' (by simpa using hn) (by rw[lAq,lAq]; show bs.length+1+_+_+_<_; omega)
  refine⟨U,?_,by rw[List.flatMap_cons]; simpa using d2,g.trans d3⟩;rw[L18_29_eq,qds,dT hlt,oB,ifK_bool,cT,p1,oB,p2,oB];dsimp only;rw[a1,callP_ret,b1,callP_ret,qc1 (by omega),oB,d1]
theorem slice_tail (r k:Nat) (hk:1<=k):qb6 E0 22 (.slice r 0 k k) (some (.int .i64 1)) none none S=some (.slice r 1 (k-1) (k-1),S):=by
 have hu:und E0 22=some (.slice 9):=by kernel_rfl
 unfold qb6;rw[hu,oB];simp only;rw[show V.int .i64 1=.int .i64 ((1:Nat):Int)from rfl,qfi .i64 hk,oB,show Ev.sizeT E0 9=some 1 by kernel_rfl,oB];rfl
theorem quoN {k:Nat} (hk:k=2\/k=3):∃q:Int,1<q/\qa4 E0 .quo 3 true false (.int .i64 9223372036854775807) (.int .i64 ((k-1:Nat):Int))=some (.int .i64 q):=by
 rcases hk with rfl|rfl
 . exact⟨9223372036854775807,by omega,rfl⟩
 . exact⟨4611686018427387903,by omega,rfl⟩
theorem f18_many (ho:S.on=false) (m:Nat) {r:Nat} {l:List Bs} (hk:l.length=2\/l.length=3) (hr:RowAt S r 9 1 (qgf l)) (hlt:r<S.next) (hsum:sumL l<80000):∃U,(ev E0 KD (m+3)).f 18 [.slice r 0 l.length l.length,sv [32]] S=some (.ret (sv (qmv l)),U)/\Grew (fun _=>False) S U:=by
 have hTL:TL S (.slice r 0 l.length l.length) l:=TL.sli hr hlt;obtain⟨q,hq1,hq2⟩:=quoN hk;have hF:=F18_eq (ev E0 KD (m+2)) qa1 (.slice r 0 l.length l.length) (sv [32]) S;have el:lnS (.slice r 0 l.length l.length) S=some (.int .i64 (l.length:Int),S):=hTL.len S;have e0:qa4 E0 .eql 3 false true (.int .i64 (l.length:Int)) (.int .i64 0)=some (.bool false):=by rw[binV_ii,intsV_eql,dF (by omega)]
 have e1:qa4 E0 .eql 3 false true (.int .i64 (l.length:Int)) (.int .i64 1)=some (.bool false):=by rw[binV_ii,intsV_eql,dF (by omega)]
 have e2:qa4 E0 .gtr 3 false true (.int .i64 (([32]:Bs).length:Int)) (.int .i64 0)=some (.bool true):=rfl
 have e3:qa4 E0 .geq 3 false false (.int .i64 (([32]:Bs).length:Int)) (.int .i64 q)=some (.bool false):=by
  rw[binV_ii,intsV_geq,dF (by show ¬q<=1; omega)]
 have e4:qa4 E0 .mul 3 false false (.int .i64 (([32]:Bs).length:Int)) (.int .i64 ((l.length-1:Nat):Int))=some (.int .i64 ((l.length-1:Nat):Int)):=by
  rw[binV_ii,intsV_mul,show(([32]:Bs).length:Int)=1 from rfl,Int.one_mul,qbg (by omega) (by omega)]
 have e5:qa4 E0 .add 3 false false (.int .i64 0) (.int .i64 ((l.length-1:Nat):Int))=some (.int .i64 ((l.length-1:Nat):Int)):=by
  rw[binV_ii,intsV_add,Int.zero_add,qbg (by omega) (by omega)]
 rw[el,oB]at hF;dsimp only at hF;rw[e0,oB,ifK_bool,cF,e1,oB,ifK_bool,cF,qa5,oB]at hF;dsimp only at hF;rw[e2,oB,ifK_bool,cT,qa5,oB]at hF;dsimp only at hF;rw[el,oB]at hF;dsimp only at hF;rw[predN (by omega) (by omega),oB,hq2,oB,e3,oB,ifK_bool,cF,qa5,oB]at hF;dsimp only at hF;rw[el,oB]at hF;dsimp only at hF;rw[predN (by omega) (by omega),oB,e4,oB,e5,oB,R18_13_eq,el,oB]at hF;dsimp only at hF;rw[show V.int .i64 0=.int .i64 ((0:Nat):Int)from rfl,L43_spec ho _ _ (sv [32]) hTL (by omega) l 0 (l.length-1) qa1 rfl (by unfold qa1; omega) (by omega),exB_same,R18_14_eq,oB,qet]at hF;have hfr:=fresh_new ho;obtain⟨a1,a2,a3⟩:=qc7 ho 45 2 (Tr.ofListFrom .nil [.nilptr,.nilslice] 0);generalize (nwP 45 2 (Tr.ofListFrom .nil [.nilptr,.nilslice] 0) S).2=S1 at hfr a1 a2 a3 hF;obtain⟨S2,v2,b1,b2,b3⟩:=Grow_run m hfr (l.length-1+sumL l) (by omega) (by omega);rw[b1,callP_ret]at hF;have hr2:RowAt S2 r 9 1 (qgf l):=(hr.grew hlt (fun h=>h) a2).grew (by omega) (by omega) b3;have n2:=b3.next
 obtain⟨w,ws,rfl⟩:∃w ws,l=w::ws:=by
  cases l with
  | nil=>simp at hk
  | cons w ws=>exact⟨w,ws,rfl⟩
 have hT2:TL S2 (.slice r 0 (w::ws).length (w::ws).length) (w::ws):=TL.sli hr2 (by omega);obtain⟨p,p1,p2⟩:=w_ix hT2 b2.on (i:=0) (a:=w) rfl;rw[show V.int .i64 0=.int .i64 ((0:Nat):Int)from rfl,p1,oB,p2,oB]at hF;dsimp only at hF;rw[qju]at hsum;obtain⟨S3,v3,c1,c2,c3⟩:=str_run (K:=KD) rfl rfl m b2 w (by show 0+w.length<_; omega);rw[c1,callP_ret,slice_tail r _ (by simp),oB]at hF;dsimp only at hF;have hr3:RowAt S3 r 9 1 (qgf (w::ws)):=hr2.grew (by omega) (by omega) c3;have n3:=c3.next
 have hT3:TL S3 (.slice r 1 ((w::ws).length-1) ((w::ws).length-1)) ws:=.inr ⟨r,1,w::ws,hr3,by omega,by simp only[List.length_cons]; omega,by simp,.inr ⟨(w::ws).length-1,rfl⟩⟩;rw[hT3.len,oB]at hF;dsimp only at hF;obtain⟨S4,d1,d2,d3⟩:=L29_spec (m:=m) (M:=qa1) (R18_22 (ev E0 KD (m+2)) qa1 (fun a s=>qa7 [4] a fun a=>qa7 [4] a fun a=>qat E0 (ev E0 KD (m+2)) Tryz.f18 a s) qad) (exB 3 (R18_22 (ev E0 KD (m+2)) qa1 (fun a s=>qa7 [4] a fun a=>qa7 [4] a fun a=>qat E0 (ev E0 KD (m+2)) Tryz.f18 a s) qad) qad) (l:=ws) (by simp at hk; omega) ws 0 qa1 S3 ([]++w) hT3 (fun r' e h1 h2=>by cases h1; omega) c2 (by omega) rfl (by simp at hk; unfold qa1; omega) (by simp at hk ⊢; omega)
 have hne:([]++w++ws.flatMap fun s=>32::s)≠[]:=fun e=>by
  cases ws with
  | nil=>simp at hk
  | cons v ws=>simp at e
 obtain⟨S5,e6,e7⟩:=qjv (K:=KD) rfl (m+1) d2 hne;rw[d1,exB_same,R18_22_eq,e6,callP_ret]at hF;refine⟨S5,rq18 (hF.trans ?_),Grew.fresh a2 (N:=S.next) (lR _) (((b3.mono fun x _ hx=>by omega).trans (c3.mono fun x _ hx=>by omega)).trans ((d3.mono fun x _ hx=>by omega).trans (e7.mono fun x _ hx=>by omega)))⟩;rw[joi_cons,List.nil_append]
theorem f18_one (ho:S.on=false) (m:Nat) {r:Nat} {a:Bs} (hr:RowAt S r 9 1 (qgf [a])) (hlt:r<S.next):(ev E0 KD (m+3)).f 18 [.slice r 0 1 1,sv [32]] S=some (.ret (sv a),S):=rq18 (by
 show F18 (ev E0 KD (m+2)) qa1 (.slice r 0 1 1) (sv [32]) S=_;have hTL:TL S (.slice r 0 1 1) [a]:=TL.sli hr hlt;obtain⟨p,p1,p2⟩:=w_ix hTL ho (i:=0) (a:=a) rfl;rw[F18_eq,hTL.len,oB];dsimp only
 rw[show qa4 E0 .eql 3 false true (.int .i64 (([a].length:Nat):Int)) (.int .i64 0)=some (.bool false)from rfl,oB,ifK_bool,cF,show qa4 E0 .eql 3 false true (.int .i64 (([a].length:Nat):Int)) (.int .i64 1)=some (.bool true)from rfl,oB,ifK_bool,cT,show V.int .i64 0=.int .i64 ((0:Nat):Int)from rfl,p1,oB,p2,oB])
theorem qll (m:Nat) {l:List Bs} {r b N:Nat} {bs:Bs} (hB:Bd S b bs N) (hk:l.length=1\/l.length=2\/l.length=3) (hr:RowAt S r 9 1 (qgf l)) (hlt:r<S.next) (hsum:sumL l<30000) (hbs:bs.length<50000) :
 ∃U,(ev E0 KD (m+4)).f 16 [.slice r 0 l.length l.length,.ptr b 0] S=some (.ret (.tuple []),U)/\Bd U b (bs++(qmv l++[10])) N/\Grew (fun x=>x=b\/N<=x) S U:=by
 have hj:∃U,(ev E0 KD (m+3)).f 18 [.slice r 0 l.length l.length,sv [32]] S=some (.ret (sv (qmv l)),U)/\Grew (fun _=>False) S U:=by
  rcases hk with hk|hk
  . match l,hk with
    | [a],_=>exact⟨S,f18_one hB.on m hr hlt,Grew.refl _ _⟩
  . exact f18_many hB.on m hk hr hlt (by omega)
 obtain⟨S1,a1,a2⟩:=hj
 have hjl:(qmv l).length<=sumL l+3:=by
  match l,hk with
  | [],hk=>simp at hk
  | [a],_=>simp[qmv,sumL]
  | [a,c],_=>simp[qmv,sumL]; omega
  | [a,c,e],_=>simp[qmv,sumL]; omega
  | _::_::_::_::_,hk=>simp at hk
 have hB1:=hB.grew a2 (fun h=>h) (fun _ _ _ h=>h);obtain⟨U,v,b1,b2,b3⟩:=str_run (K:=KD) rfl rfl (m+1) hB1 (qmv l++[10]) (by rw[lAq]; show bs.length+(_+1)<_; omega);refine⟨U,rq16 ?_,b2,(a2.mono fun _ _ h=>(h:False).elim).trans b3⟩;show F16 (ev E0 KD (m+3)) qa1 (.slice r 0 l.length l.length) (.ptr b 0) S=_;rw[F16_eq,a1,callP_ret,qc6 _ _ (by show _+1<_; omega),oB,b1,callP_ret]
end
end Go.Proofs.YtpgegoeghaplkaaGreatDoor.W
end
