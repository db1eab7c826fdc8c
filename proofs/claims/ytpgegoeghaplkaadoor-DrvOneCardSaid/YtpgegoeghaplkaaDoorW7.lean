/-
  WHAT THE FUNCTIONS COME TO: each is read by the evaluator,printed,and told as a function of data,part 7 of 9 (no condition).
-/
import Derived.Test.YtpgegoeghaplkaaDoorW6
namespace Go.Proofs.YtpgegoeghaplkaaDoor.W
open Go.Proofs.YtpgegoeghaplkaaDoor.Ev Go.RowKit
section
variable {S T U:St} {b N0:Nat} {d:DD} {n:Int} {vI vE:V} {t:Nat}
theorem put_cell (ho:S.on=false) (lt:b<N0) (hN:N0<=S.next) {t:Tr V} (h1:AgAt S b 41 6 t) (i:Nat) (hi:i<6) (v:V) (hv:OneV v) {d':DD} {n':Int} {last':Bs} {vI' vE':V} (hI:TLo S vI' d'.ins N0) (hE:VLo S vE' d'.env N0) (ht:RdT (t.set v i) d'.nm vI' vE' d'.scr n' last') :
 ∃U,stP 1 (.ptr b i) v S=some (.tuple [],U)/\Rd U b N0 d' n' last' vI' vE'/\Grew (fun x=>x=b) S U:=by
 obtain⟨U,k1,k2,k3,k4⟩:=h1.st1 ho big6 (by decide) (i:=i) hi v hv.size hv.cells hv.tup
 have hlt:∀x,qc5 vI'=some x->¬x=b:=fun x hx e=>by
  rcases hI with⟨_,rfl⟩|⟨r,rfl,_,_,h6,_⟩
  . cases hx
  . cases hx; omega
 have hlt2:∀x,qc5 vE'=some x->¬x=b:=fun x hx e=>by
  rcases hE with⟨_,rfl⟩|⟨r,rfl,_,_,h6,_⟩
  . cases hx
  . cases hx; omega
 exact⟨U,k1,⟨k3.on.trans ho,lt,by omega,⟨_,k2,ht⟩,hI.grewW k3 hlt,hE.grew k3 hlt2⟩,k3⟩
theorem pairs9 {b r o N:Nat} (hb:b≠N) (l':List LE):qam [[],[],[],[],[⟨b,1,1+1,false⟩],[],[],[⟨r,o,o+1,false⟩],[⟨N,0,big,true⟩],l',[]] [(4,[7,8])]=true:=by
 have h1:qbr [⟨b,1,1+1,false⟩] [⟨r,o,o+1,false⟩]=false:=qbx (by simp);have h2:qbr [⟨b,1,1+1,false⟩] [⟨N,0,big,true⟩]=false:=qbx (by simp[hb]);show(bif (bif qbr [⟨b,1,1+1,false⟩] [⟨r,o,o+1,false⟩]then true else(bif qbr [⟨b,1,1+1,false⟩] [⟨N,0,big,true⟩]then true else false))then false else true)=true;rw[h1,h2];rfl
theorem TLo.oneV {v:V} {l:List Bs} {N:Nat} (h:TLo S v l N):OneV v:=by
 rcases h with⟨_,rfl⟩|⟨_,rfl,_⟩<;>exact⟨rfl,rfl,rfl,rfl⟩
theorem leqN (a c:Nat):qa8 E0 .leq 3 false true (.int .i64 (a:Int)) (.int .i64 (c:Int))=some (.bool (decide (a<=c))):=by
 rw[binV_ii,intsV_leq]
 congr 2
 simp
theorem f9_run (h:Rd S b N0 d n (qd0 t) vI vE) (ht:t<=4) (m:Nat) {vw:V} {w0:Bs} {ws:List Bs} (hw:TL S vw (w0::ws)) (hwo:∀r,qc5 vw=some r->¬Own b vI vE r) (hne:∀x,qc5 vI=some x->qc5 vE≠some x) (lw:(w0::ws).length<100000) (li:d.ins.length<1000) (hs:∀a∈ws,a.length<1000000):Meth S b N0 n vw vI vE t (m+4) 9 (sayIn qb9 t d ws):=by
 obtain⟨S1,a1,a2,a3⟩:=lay_run h.on [wDrv,wIn] (by decide);have hw1:=hw.grew0 a3;have h1:=h.grew0 a3;have e21:=f21_run h1 m hw1 a2 (by omega) (by decide) 2;have hF:=F9_eq (ev E0 KD (m+3)) qa1 (.ptr b 0) vw S;rw[show bsP 9 1 2 (Ev.one (sv [])) [(0,(sv [100,114,118])),(1,(sv [105,110]))] S=some (_,S1)from a1,oB]at hF;dsimp only at hF;rw[show V.int .i64 2=.int .i64 ((2:Nat):Int)from rfl,e21,qd2]at hF;have hq:aftB [wDrv,wIn] (qd0 t) (w0::ws) 2=(decide (t=1\/t=2)&&decide ((w0::ws).length=2)):=by unfold aftB; rw[last12 ht]
 rw[hq]at hF;by_cases hc:(t=1\/t=2)/\(w0::ws).length=2
 . obtain⟨htt,h2⟩:=hc
   obtain⟨a,rfl⟩:=aft_len1 h2;rw[dT htt,dT h2,Bool.and_self,iP rfl]at hF;obtain⟨t6,c1,c2⟩:=h1.ex;have hb1:=h1.lt; have hb2:=h1.hi;obtain⟨p,r,o,p1,p2⟩:=hw1.ldOn h1.on (i:=1) (a:=a) rfl [];obtain⟨U1,e1,e2,e3,e4⟩:=qel h1.on 9 (Ev.one (sv [])) [sv a] (fun v hv=>by rw[List.mem_singleton.1 hv]; exact qef a) (by show 1<big; unfold big; decide);obtain⟨y,W,v',U2,g1,g2,g3,g4⟩:=h1.ins.push2 h1.on h1.hi (by omega) a;have e1':bsP 9 1 1 (Ev.one (sv [])) [(0,sv a)] S1=some (.slice S1.next 0 1 1,U1):=e1 none;rw[e1']at g1;simp only[oS,pM]at g1;obtain⟨rfl,rfl⟩:=g1;have e1s:bsP 9 1 1 (Ev.one (sv [])) [(0,sv a)] (S1.lg [])=some (.slice S1.next 0 1 1,U1.lg [⟨S1.next,0,big,true⟩]):=e1 (some []);obtain⟨l',g2'⟩:=lg_of (lg_apP 9 1 16 vI (.slice S1.next 0 1 1)) g2 [];rw[nilP,oB,show faP 0 true 4 (.ptr b 0)=some (.ptr b 0)from rfl,oB,show faP 1 false 1 (.ptr b 0)=some (.ptr b 1)from rfl,oB,qax,qeq h1.on (c1.ld1 h1.on big6 (by decide) c2.ins) [],oB,show V.int .i64 1=.int .i64 ((1:Nat):Int)from rfl,p1,oB]at hF;dsimp only at hF;rw[qab,qax,p2,oB]at hF;dsimp only at hF;rw[qab,qax,e1s,oB]at hF;dsimp only at hF;rw[qab,qax,show apP 9 1 16 vI (.slice S1.next 0 1 1) (U1.lg [])=some (v',U2.lg l')from g2',oB]at hF;dsimp only at hF;obtain⟨U,r1,r2,r3,r4⟩:=qeh h1.on U2 [] [[],[],[],[],[⟨b,1,1+1,false⟩],[],[],[⟨r,o,o+1,false⟩],[⟨S1.next,0,big,true⟩],l',[]]
   rw[qab,qax,show(S1.lg [⟨b,1,1+1,false⟩]).log=[⟨b,1,1+1,false⟩]from rfl,show(S1.lg [⟨r,o,o+1,false⟩]).log=[⟨r,o,o+1,false⟩]from rfl,show(U1.lg [⟨S1.next,0,big,true⟩]).log=[⟨S1.next,0,big,true⟩]from rfl,show(U2.lg l').log=l' from rfl,qfk (pairs9 (by omega) l'),r1]at hF;have gU:Grew (fun x=>qc5 vI=some x) S1 U:=g4.trans ((Grew.of_eq r2 r3 (r4.trans (g4.on.trans h1.on).symm)).mono fun _ _ h=>(h:False).elim)
   have hbI:¬qc5 vI=some b:=fun e=>by
    rcases h1.ins with⟨_,rfl⟩|⟨r,rfl,_,_,h6,_⟩
    . cases e
    . cases e; omega
   have cU:AgAt U b 41 6 t6:=c1.grew (by omega) hbI gU;have hwU:TL U vw [w0,a]:=hw1.grew (fun r e hr _ hx=>hwo r hr (.inr (.inl hx))) gU;have hI:TLo U v' (d.ins++[a]) N0:=TLo.grew g3 (Grew.of_eq r2 r3 (r4.trans (g4.on.trans h1.on).symm));have hE:VLo U vE d.env N0:=h1.env.grew gU fun x hx e=>hne x e hx;have nU:=gU.next
   obtain⟨q,q1,q2⟩:=w_ix hwU r4 (i:=1) (a:=a) rfl;rw[p1]at q1;cases q1;have gS:Grew (Own b vI vE) S U:=(a3.mono fun _ _ h=>(h:False).elim).trans (gU.mono fun x _ e=>.inr (.inl e));rw[oB,q2,oB]at hF;dsimp only at hF;rw[path_k (m+2) a (hs a (by simp)) U,callP_ret]at hF;rw[sayIn1];by_cases hk:qb9 a=true
   . rw[hk]at hF
     simp only[qah,oB,cT,pickV_bool]at hF;rw[f24_run r4 (m+2) hI.tl (by rw[lAq,List.length_singleton]; omega),callP_ret,qkg r4 (m+2) 4 (qek (d.ins++[a])) cU c2.n,qd2]at hF;by_cases hr:qek (d.ins++[a])=true
     . rw[iP hr,hI.tl.len,oB]at hF
       dsimp only at hF;rw[show V.int .i64 8=.int .i64 ((8:Nat):Int)from rfl,leqN,oB,qkg r4 (m+2) 3 (decide ((d.ins++[a]).length<=8)) cU c2.n,qd2]at hF;by_cases h8:d.ins.length<8
       . rw[iP (dT (show(d.ins++[a]).length<=8 by rw[lAq,List.length_singleton]; omega)),show faP 0 true 4 (.ptr b 0)=some (.ptr b 0)from rfl,oB,show faP 1 false 1 (.ptr b 0)=some (.ptr b 1)from rfl]at hF
         simp only[oB]at hF;obtain⟨X,k1,k2,k3⟩:=put_cell r4 h1.lt (Nat.le_trans h1.hi nU) cU 1 (by decide) v' hI.oneV (d':={d with ins:=d.ins++[a]}) (n':=n) (last':=qd0 t) (vI':=v') (vE':=vE) hI hE ⟨(qfy _ _ _ _ (by decide)).trans c2.nm,setS _ _ _,(qfy _ _ _ _ (by decide)).trans c2.env,(qfy _ _ _ _ (by decide)).trans c2.scr,(qfy _ _ _ _ (by decide)).trans c2.n,(qfy _ _ _ _ (by decide)).trans c2.last⟩;rw[k1,oB]at hF;rw[iP ⟨htt,hk,hr,h8⟩];exact⟨X,v',vE,rq9 hF,k2,gS.trans (k3.mono fun x _ e=>.inl e)⟩
       . rw[iN (by rw[decide_eq_true_eq,lAq,List.length_singleton]; omega)]at hF
         rw[iN fun e=>h8 e.2.2.2];exact⟨U,3,rq9 hF,gS⟩
     . rw[iN hr]at hF
       rw[iN fun e=>hr e.2.2.1];exact⟨U,4,rq9 hF,gS⟩
   . rw[Bool.not_eq_true]at hk
     rw[hk]at hF;simp only[qah,oB,cF,pickV_bool,callP_ret]at hF;rw[qkg r4 (m+2) 4 false cU c2.n,qd2,iN (by simp)]at hF;rw[iN fun e=>by rw[hk]at e; cases e.2.1];exact⟨U,4,rq9 hF,gS⟩
 . have hno:sayIn qb9 t d ws=none:=by
    unfold sayIn;split
    . rw[iN fun e=>hc ⟨e.1,rfl⟩]
    . rfl
   rw[hno]
   have hb:(decide (t=1\/t=2)&&decide ((w0::ws).length=2))=false:=by
    by_cases h0:t=1\/t=2
    . rw[dF (fun e=>hc ⟨h0,e⟩),Bool.and_false]
    . rw[dF h0]; rfl
   rw[hb,iN (by simp)]at hF;exact⟨S1,4,rq9 hF,a3.mono fun _ _ h=>(h:False).elim⟩
end
theorem plan1 (r o:Nat) (b x y z:Nat):pinOk 25 [[],[],[],[⟨r,o,o+1,false⟩],[],[],[],[],[],[],[],[],[],[],[],[],[],[],[],[],[],[],[],[],[],[⟨b,4,4+1,false⟩]] (qan E0 (B10.r.r.l).ops).pls=true/\
 pinOk 25 [[],[],[],[⟨r,o,o+1,false⟩],[],[],[],[],[],[],[],[],[],[⟨b,2,2+1,false⟩],[],[],[],[],[⟨x,y,z,false⟩],[],[],[⟨r,o,o+1,false⟩],[],[],[],[⟨b,4,4+1,false⟩]] (qan E0 (B10.r.r.l).ops).pls=true/\stays [] (qan E0 (B10.r.r.l).ops).pls=true:=⟨by kernel_rfl,by kernel_rfl,by kernel_rfl⟩
section
variable {S T U:St} {b N0:Nat} {d:DD} {n:Int} {vI vE:V} {t:Nat}
def qju (l:List (Bs×Bs)) (a:Bs):Bool:=match l.getLast? with
 | none=>true
 | some y=>ltB y.1 a
theorem lastOk_iff (l:List (Bs×Bs)) (a:Bs):qju l a=true↔∀y,l.getLast?=some y->ltB y.1 a=true:=by
 unfold qju;cases l.getLast? with
 | none=>simp
 | some y=>simp
theorem lssStr (c d:Bool) (a b:Bs):qa8 E0 .lss 9 c d (sv a) (sv b)=some (.bool (Op.bytesLess a b)):=by rw[binV_ss,strOp_lss]
theorem last_name (ho:S.on=false) {l:List (Bs×Bs)} {N:Nat} {v:V} (h:VLo S v l N) {y:Bs×Bs} (hy:l.getLast?=some y) (L:List LE):∃r o,ixP 2 v (.int .i64 ((l.length-1:Nat):Int))=some (.ptr r o)/\ld1 (.ptr r o) (S.lg L)=some (sv y.1,S.lg (⟨r,o,o+1,false⟩::L)):=by
 rcases h with⟨rfl,_⟩|⟨r,rfl,h1,h2,h3,h4⟩
 . cases hy
 . refine⟨r,(l.length-1)*2,?_,?_⟩
   . have h0:ixP 2 (.oslice r 0 l.length 2) (.int .i64 ((l.length-1:Nat):Int))=bif Nat.blt (l.length-1) l.length then some (.ptr r (0+(l.length-1)*2))else none:=rfl
     rw[h0,blt_true.2 (by omega),Nat.zero_add,cT]
   . refine qeq ho ?_ L
     obtain⟨c,c1,c2⟩:=h1.row;rw[lM]at c1;have hfit:=h1.fit;rw[lM]at hfit
     have hl:(l.map qi8)[l.length-1]?=some (qi8 y):=by
      rw[List.getElem?_map,<- List.getLast?_eq_getElem?,hy]; rfl
     show ld S r ((l.length-1)*2)=_;unfold ld;rw[c1];dsimp only;rw[blt_true.2 (show(l.length-1)*2<2*l.length by omega),blt_true.2 hfit,Bool.and_self,cT,Nat.mul_div_cancel _ (by decide),c2 _ _ hl,oB,Nat.mul_mod_left];unfold qi8;rw[Tr.get_ofList,qau ho];rfl
theorem VLo.len {l:List (Bs×Bs)} {N:Nat} {v:V} (h:VLo S v l N) (T:St):lnS v T=some (.int .i64 (l.length:Int),T):=by
 rcases h with⟨rfl,rfl⟩|⟨r,rfl,_⟩
 . rfl
 . exact lnS_of (fun _ _ e=>by cases e) rfl
set_option maxRecDepth 100000 in
theorem env_front (h:Rd S b N0 d n (qd0 t) vI vE) (m:Nat) {vw:V} {w:List Bs} (hw:TL S vw w) {a:Bs} (ha:w[1]?=some a) (la:a.length<1000000) (le:d.env.length<1000) (k:St->Rs) :
 ((ixP 1 vw (.int .i64 1)).bind fun t13=>
(ld1 t13 (onS S)).bind fun p14=>
qg0 (qan E0 (B10.r.r.l).ops) S 4 [[],[],[],p14.2.log] ((ev E0 KD (m+3)).f 25 [p14.1] (onS p14.2)) fun t15 S15=>
(qa3 true t15).bind fun g17=>(bif g17 then some (.int .i64 (d.env.length:Int))else some (.tuple [])).bind fun t17=>
(qa3 true t15).bind fun g18=>(bif g18 then qa8 E0 .eql 3 false true t17 (.int .i64 0)else some (.tuple [])).bind fun t18=>
(qa3 true t15).bind fun g19=>(bif g19 then some t18 else some (.tuple [])).bind fun t19=>
(qa3 false t19).bind fun g20=>(bif g20 then some (.ptr b 0)else some (.tuple [])).bind fun t20=>
(qa3 false t19).bind fun g21=>(bif g21 then qae t20 else some (.tuple [])).bind fun t21=>
(qa3 false t19).bind fun g22=>(bif g22 then faP 0 true 4 t21 else some (.tuple [])).bind fun t22=>
(qa3 false t19).bind fun g23=>(bif g23 then faP 2 false 1 t22 else some (.tuple [])).bind fun t23=>
(qa3 false t19).bind fun g24=>(bif g24 then ld1 t23 (onS S15)else some (.tuple [],(onS S15))).bind fun p24=>
(qa3 false t19).bind fun g25=>(bif g25 then some (.int .i64 (d.env.length:Int))else some (.tuple [])).bind fun t25=>
(qa3 false t19).bind fun g26=>(bif g26 then qa8 E0 .sub 3 false true t25 (.int .i64 1)else some (.tuple [])).bind fun t26=>
(qa3 false t19).bind fun g27=>(bif g27 then ixP 2 p24.1 t26 else some (.tuple [])).bind fun t27=>
(qa3 false t19).bind fun g28=>(bif g28 then faP 0 false 1 t27 else some (.tuple [])).bind fun t28=>
(qa3 false t19).bind fun g29=>(bif g29 then ld1 t28 (onS p24.2)else some (.tuple [],(onS p24.2))).bind fun p29=>
(qa3 false t19).bind fun g30=>(bif g30 then some vw else some (.tuple [])).bind fun t30=>
(qa3 false t19).bind fun g31=>(bif g31 then ixP 1 t30 (.int .i64 1)else some (.tuple [])).bind fun t31=>
(qa3 false t19).bind fun g32=>(bif g32 then ld1 t31 (onS p29.2)else some (.tuple [],(onS p29.2))).bind fun p32=>
(qa3 false t19).bind fun g33=>(bif g33 then qa8 E0 .lss 9 false false p29.1 p32.1 else some (.tuple [])).bind fun t33=>
(qa3 true t15).bind fun g34=>(bif g34 then qbp t19 (some (.bool true)) (some t33)else some (.tuple [])).bind fun t34=>
(qbp t15 (some t34) (some (.bool false))).bind fun t35=>
qg0 (qan E0 (B10.r.r.l).ops) S 25 [[],[],[],p14.2.log,S15.log,[],[],[],[],[],[],[],[],p24.2.log,[],[],[],[],p29.2.log,[],[],p32.2.log,[],[],[]] ((ev E0 KD (m+3)).f 14 [.ptr b 0,t35,(.int .i64 4)] (onS p32.2)) fun t36 S36=>
endP [(13,[21]),(18,[21])] S [[],[],[],p14.2.log,S15.log,[],[],[],[],[],[],[],[],p24.2.log,[],[],[],[],p29.2.log,[],[],p32.2.log,[],[],[],S36.log] S36 fun S37=>k S37) =
 if qfz a=true/\qju d.env a=true then k S else some (.pan (qdi 4 n),S):=by
 have ho:=h.on;obtain⟨t6,c1,c2⟩:=h.ex;obtain⟨p,r,o,p1,p2⟩:=hw.ldOn ho ha [];have hno:∀c L,(ev E0 KD (m+3)).f 14 [.ptr b 0,.bool false,.int .i64 c] (S.lg L)=some (.pan (qdi c n),S.lg (⟨b,4,4+1,false⟩::L)):=fun c L=>must_no (m+2) c rfl (qeq ho (c1.ld1 ho big6 (by decide) c2.n) L);have f25:∀Q,(ev E0 KD (m+3)).f 25 [sv a] Q=some (.ret (.bool (qfz a)),Q):=fun Q=>f25_run (m+1) a (by omega) Q;rw[show V.int .i64 1=.int .i64 ((1:Nat):Int)from rfl,p1,oB,qax,p2,oB];dsimp only;rw[qab,qax,f25,qcl];obtain⟨pl1,pl2,pl3⟩:=plan1 r o b 0 0 0;cases hv:qfz a with
 | false=>
  simp only[qah,qb0,qd7,oB,cF,cT,pickV_bool,qab,qfn];rw[qax,hno,qkx rfl pl1 pl3,iN (by simp)];rw[relog_S ho]
 | true=>
  simp only[qah,oB,cT];rw[eqI0];by_cases h0:d.env.length=0
  . rw[dT h0]
    simp only[qah,qb0,qd7,oB,cF,cT,pickV_bool,qab,qfn,Bool.not_true]
    have hl:qju d.env a=true:=by
     unfold qju;rw[List.length_eq_zero_iff.1 h0];rfl
    rw[qax,show ev E0 KD (m+3)=ev E0 KD (m+2+1)from rfl,must_yes,qcl,iP ⟨trivial,hl⟩,endP_rd (by rfl),<- qax,qff ho]
  . rw[dF h0]
    obtain⟨y,hy⟩:∃y,d.env.getLast?=some y:=by
     cases hq:d.env.getLast? with
     | none=>rw[List.getLast?_eq_none_iff]at hq; rw[hq]at h0; exact absurd rfl h0
     | some y=>exact⟨y,rfl⟩
    obtain⟨re,oe,x1,x2⟩:=last_name ho h.env hy [];obtain⟨_,pl2,_⟩:=plan1 r o b re oe (oe+1);have hpred:qa8 E0 .sub 3 false true (.int .i64 (d.env.length:Int)) (.int .i64 ((1:Nat):Int))=some (.int .i64 ((d.env.length-1:Nat):Int)):=predN (by omega) (by omega);simp only[qah,qb0,qd7,oB,cF,cT,pickV_bool,qab,qfn,nF,nilP,show faP 0 true 4 (.ptr b 0)=some (.ptr b 0)from rfl,show faP 2 false 1 (.ptr b 0)=some (.ptr b 2)from rfl];rw[qax,qeq ho (c1.ld1 ho big6 (by decide) c2.env) [],oB,hpred,oB];dsimp only;rw[x1,oB,show faP 0 false 1 (.ptr re oe)=some (.ptr re oe)from rfl,oB,qab,qax,x2,oB];dsimp only;rw[p1,oB,qab,qax,p2,oB];dsimp only;rw[lssStr,oB];have hl:qju d.env a=Op.bytesLess y.1 a:=by unfold qju; rw[hy]; exact ltB_eq _ _
    rw[hl,qab];cases Op.bytesLess y.1 a with
    | false=>
     rw[qax,hno,iN (by simp),qkx rfl pl2 pl3,relog_S ho]
    | true=>
     rw[qax,show ev E0 KD (m+3)=ev E0 KD (m+2+1)from rfl,must_yes,qcl,iP ⟨trivial,rfl⟩,endP_rd (by rfl),<- qax,qff ho]
end
theorem plan2 (r o q p b:Nat):pinOk 7 [[],[],[⟨r,o,o+1,false⟩],[],[],[],[⟨q,p,p+1,false⟩],[⟨b,4,4+1,false⟩]] (qan E0 (B10.r.r.r.l).ops).pls=true/\stays [] (qan E0 (B10.r.r.r.l).ops).pls=true:=⟨by kernel_rfl,by kernel_rfl⟩
theorem build_50 (a v:Bs):qdz E0 50 [(0,sv a),(1,sv v)]=some (.agg 2 (qi8 (a,v))):=by kernel_rfl
noncomputable def Z50:Tr V:=Tr.ofListFrom .nil [(sv []),(sv [])] 0
section
variable {S T U W:St} {b N0:Nat} {d:DD} {n:Int} {vI vE:V} {t:Nat}
theorem pairsB2 {r o q p N:Nat} (hr:r≠N) (hq:q≠N) (L l':List LE) (hL:L=[⟨N,0,big,true⟩]):qam [[],[],[⟨r,o,o+1,false⟩],[],[],[],[⟨q,p,p+1,false⟩],[],[],L,l'] [(2,[6,7,9]),(6,[9]),(7,[9])]=true:=by
 subst hL;have h1:qbr [⟨r,o,o+1,false⟩] [⟨q,p,p+1,false⟩]=false:=qbx (by simp);have h2:qbr [⟨r,o,o+1,false⟩] [⟨N,0,big,true⟩]=false:=qbx (by simp[hr]);have h3:qbr [⟨q,p,p+1,false⟩] [⟨N,0,big,true⟩]=false:=qbx (by simp[hq]);show(bif (bif qbr [⟨r,o,o+1,false⟩] [⟨q,p,p+1,false⟩]then true else(bif qbr [⟨r,o,o+1,false⟩] []then true else(bif qbr [⟨r,o,o+1,false⟩] [⟨N,0,big,true⟩]then true else false)))then false else(bif (bif qbr [⟨q,p,p+1,false⟩] [⟨N,0,big,true⟩]then true else false)then false else(bif (bif qbr ([]:List LE) [⟨N,0,big,true⟩]then true else false)then false else true)))=true;rw[h1,h2,h3];rfl
theorem TL.ldOn' (ho:S.on=false) {v:V} {l:List Bs} (h:TL S v l) {i:Nat} {a:Bs} (ha:l[i]?=some a) (L:List LE):∃p r o,ixP 1 v (.int .i64 (i:Int))=some p/\ld1 p (S.lg L)=some (sv a,S.lg (⟨r,o,o+1,false⟩::L))/\r<S.next:=by
 rcases h with⟨rfl,_⟩|⟨r,off,M,h1,h2,h3,h4,h5⟩
 . simp at ha
 . obtain⟨r',o,M',x1,x2,x3⟩:=TL.ix (S:=S) (.inr ⟨r,off,M,h1,h2,h3,h4,h5⟩) ha
   refine⟨_,r',o,x1,qeq ho (show ld1 (.ptr r' o) S=_ from x2.ld1 ho x3) L,?_⟩
   have:r'=r:=by
    rcases h5 with rfl|⟨c,rfl⟩
    . have h0:ixP 1 (.oslice r off l.length 1) (.int .i64 (i:Int))=bif Nat.blt i l.length then some (.ptr r (off+i*1))else none:=rfl
      rw[h0]at x1;cases hb:Nat.blt i l.length with
      | false=>rw[hb]at x1; cases x1
      | true=>rw[hb]at x1; cases x1; rfl
    . have h0:ixP 1 (.slice r off l.length c) (.int .i64 (i:Int))=bif Nat.blt i l.length then some (.ptr r (off+i*1))else none:=rfl
      rw[h0]at x1;cases hb:Nat.blt i l.length with
      | false=>rw[hb]at x1; cases x1
      | true=>rw[hb]at x1; cases x1; rfl
   rw[this]; exact h2
theorem val_k (m:Nat) (s:Bs) (hs:s.length<=10000) (S:St):(ev E0 KD (m+1)).f 26 [.ptr b 0,sv s] S=match valD s with
 | some v=>some (.ret (sv v),S)
 | none=>(ld S b 4).bind fun p=>match p.1 with
  | .int .i64 n=>some (.pan (qdi 4 n),p.2)
  | _=>none:=by
 rw[qd4 (show KD 26=some kfVal from rfl)];exact kfVal_run b s hs S
set_option maxRecDepth 100000 in
theorem env_mid (h:Rd S b N0 d n (qd0 t) vI vE) (m:Nat) {vw:V} {w:List Bs} (hw:TL S vw w) {a s:Bs} (ha:w[1]?=some a) (hs:w[2]?=some s) (ls:s.length<=10000) :
 match valD s with
 | some v=>∃U X,(∀k:V×St->St->Rs,((ixP 1 vw (.int .i64 1)).bind fun t39=>
(ld1 t39 (onS S)).bind fun p40=>
(ixP 1 vw (.int .i64 2)).bind fun t43=>
(ld1 t43 (onS p40.2)).bind fun p44=>
qg0 (qan E0 (B10.r.r.r.l).ops) S 7 [[],[],p40.2.log,[],[],[],p44.2.log] ((ev E0 KD (m+3)).f 26 [.ptr b 0,p44.1] (onS p44.2)) fun t45 S45=>
(qdz E0 50 [(0,p40.1),(1,t45)]).bind fun t46=>
(some (nwP 50 2 (Tr.ofListFrom .nil [(sv []),(sv [])] 0) (onS S45))).bind fun p47=>
(stP 2 p47.1 t46 (onS p47.2)).bind fun p48=>
endP [(2,[6,7,9]),(6,[9]),(7,[9])] S [[],[],p40.2.log,[],[],[],p44.2.log,S45.log,[],p47.2.log,p48.2.log] p48.2 fun S49=>k p47 S49)=k (.ptr S.next 0,X) U)/\AgAt U S.next 50 2 (qi8 (a,v))/\Grew (fun _=>False) S U/\S.next<U.next
 | none=>∀k:V×St->St->Rs,((ixP 1 vw (.int .i64 1)).bind fun t39=>
(ld1 t39 (onS S)).bind fun p40=>
(ixP 1 vw (.int .i64 2)).bind fun t43=>
(ld1 t43 (onS p40.2)).bind fun p44=>
qg0 (qan E0 (B10.r.r.r.l).ops) S 7 [[],[],p40.2.log,[],[],[],p44.2.log] ((ev E0 KD (m+3)).f 26 [.ptr b 0,p44.1] (onS p44.2)) fun t45 S45=>
(qdz E0 50 [(0,p40.1),(1,t45)]).bind fun t46=>
(some (nwP 50 2 (Tr.ofListFrom .nil [(sv []),(sv [])] 0) (onS S45))).bind fun p47=>
(stP 2 p47.1 t46 (onS p47.2)).bind fun p48=>
endP [(2,[6,7,9]),(6,[9]),(7,[9])] S [[],[],p40.2.log,[],[],[],p44.2.log,S45.log,[],p47.2.log,p48.2.log] p48.2 fun S49=>k p47 S49)=some (.pan (qdi 4 n),S):=by
 have ho:=h.on;obtain⟨t6,c1,c2⟩:=h.ex;obtain⟨p,r,o,p1,p2,p3⟩:=TL.ldOn' ho hw ha [];obtain⟨q,r',o',q1,q2,q3⟩:=TL.ldOn' ho hw hs [];have hk:=val_k (b:=b) (m+2) s ls (S.lg [])
 have e1:∀(F:V->V×St->Rs),((ixP 1 vw (.int .i64 1)).bind fun t39=>(ld1 t39 (onS S)).bind fun p40=>F t39 p40)=F p (sv a,S.lg [⟨r,o,o+1,false⟩]):=fun F=>by
  rw[show V.int .i64 1=.int .i64 ((1:Nat):Int)from rfl,p1,oB,qax,p2,oB]
 have e2:∀(F:V->V×St->Rs),((ixP 1 vw (.int .i64 2)).bind fun t39=>(ld1 t39 (onS (S.lg [⟨r,o,o+1,false⟩]))).bind fun p40=>F t39 p40)=F q (sv s,S.lg [⟨r',o',o'+1,false⟩]):=fun F=>by
  rw[show V.int .i64 2=.int .i64 ((2:Nat):Int)from rfl,q1,oB,qab,qax,q2,oB]
 cases hv:valD s with
 | none=>
  rw[hv]at hk;dsimp only at hk ⊢;intro k;rw[show ld (S.lg []) b 4=some (.int .i64 n,S.lg [⟨b,4,4+1,false⟩])from qeq ho (c1.ld1 ho big6 (by decide) c2.n) [],oB]at hk;dsimp only at hk;rw[e1];dsimp only;rw[e2];dsimp only;rw[qab,qax,hk,qkx rfl (plan2 r o r' o' b).1 (plan2 r o r' o' b).2,relog_S ho]
 | some v=>
  rw[hv]at hk;dsimp only at hk ⊢;obtain⟨a1,a2,a3⟩:=qcj ho 50 2 Z50;have on1:=a2.on.trans ho;obtain⟨U1,b1,b2,b3,b4⟩:=a1.stA on1 big2 (qi8 (a,v));obtain⟨l',b1'⟩:=stP_lg on1 b1;obtain⟨U,r1,r2,r3,r4⟩:=qeh ho U1 l' [[],[],[⟨r,o,o+1,false⟩],[],[],[],[⟨r',o',o'+1,false⟩],[],[],[⟨S.next,0,big,true⟩],l'];have n1:=b3.next
  refine⟨U,(nwP 50 2 Z50 S).2.lg [⟨S.next,0,big,true⟩],fun k=>?_,?_,(a2.own (lR _) b3).trans (Grew.of_eq r2 r3 (r4.trans (b3.on.trans on1).symm)),by omega⟩
  . rw[e1]
    dsimp only;rw[e2];dsimp only;rw[qab,qax,hk,qcl,build_50,oB,oB,qab,qax]
    have hnw:nwP 50 2 (Tr.ofListFrom .nil [(sv []),(sv [])] 0) (S.lg [])=(.ptr S.next 0,(nwP 50 2 Z50 S).2.lg [⟨S.next,0,big,true⟩]):=by
     show(V.ptr S.next 0,qaf (S.lg []) 50 2 [Z50])=_;rw[qlm ho];rfl
    rw[hnw];dsimp only;rw[qab,qax,b1',oB];dsimp only;rw[show(S.lg [⟨r,o,o+1,false⟩]).log=[⟨r,o,o+1,false⟩]from rfl,show(S.lg [⟨r',o',o'+1,false⟩]).log=[⟨r',o',o'+1,false⟩]from rfl,show(S.lg []).log=[]from rfl,show((nwP 50 2 Z50 S).2.lg [⟨S.next,0,big,true⟩]).log=[⟨S.next,0,big,true⟩]from rfl,show(U1.lg l').log=l' from rfl,qfk (pairsB2 (by omega) (by omega) _ l' rfl),r1]
  . obtain⟨c,d1,d2⟩:=b2
    exact⟨c,by rw[r2]; exact d1,d2⟩
end
section
variable {S T U W:St} {b N0:Nat} {d:DD} {n:Int} {vI vE:V} {t:Nat}
theorem pairsB3 {b x y N:Nat} (hb:b≠N) (l l':List LE):qam [[],[],[],[],[],[⟨b,2,2+1,false⟩],[⟨x,0,y,false⟩],[⟨N,0,big,true⟩],l,[],[],[],l'] [(5,[6,7])]=true:=by
 have h1:qbr [⟨b,2,2+1,false⟩] [⟨x,0,y,false⟩]=false:=qbx (by simp);have h2:qbr [⟨b,2,2+1,false⟩] [⟨N,0,big,true⟩]=false:=qbx (by simp[hb]);show(bif (bif qbr [⟨b,2,2+1,false⟩] [⟨x,0,y,false⟩]then true else(bif qbr [⟨b,2,2+1,false⟩] [⟨N,0,big,true⟩]then true else false))then false else true)=true;rw[h1,h2];rfl
theorem bs_var (ho:S.on=false) (tr:Tr V):∃U,(∀L,bsP 50 2 1 (Tr.ofListFrom .nil [(sv []),(sv [])] 0) [(0,.agg 2 tr)] (S.lg L)=some (.slice S.next 0 1 1,U.lg (⟨S.next,0,big,true⟩::L)))/\RowAt U S.next 50 2 [tr]/\Grew (fun _=>False) S U/\U.next=S.next+1:=by
 refine⟨nw S (.cells 50 2 1 false ((Tr.tab 1 1 fun _=>Z50).set tr 0)),fun L=>?_,?_,qd6 ho _ _,rfl⟩
 . unfold bsP qhb qhb
   rw[show(Nat.beq (V.agg 2 tr).size 2&&Nat.blt 0 1&&!qak (V.agg 2 tr))=true from rfl,cT,Tr.setC_eq,oB,nw_lg ho];rfl
 . refine qew ho (by omega) rfl (by unfold big; decide) fun i u h=>?_
   rw[Tr.get_set];cases i with
   | zero=>simpa using h
   | succ i=>simp at h
theorem VLo.pushOn (ho:W.on=false) {v:V} {l:List (Bs×Bs)} {N:Nat} (h:VLo W v l N) (hN:N<=W.next) (hl:l.length<=1000) {y:Nat} {p:Bs×Bs} (hy:RowAt W y 50 2 [qi8 p]) (L:List LE):∃v' U l',apP 50 2 32 v (.slice y 0 1 1) (W.lg L)=some (v',U.lg l')/\VLo U v' (l++[p]) N/\Grew (fun x=>qc5 v=some x) W U/\OneV v':=by
 rcases h with⟨rfl,rfl⟩|⟨r,rfl,h1,h2,h3,h4⟩
 . obtain⟨u,l',k1,k2,k3,k4⟩:=ap_first_lg ho L hy
   exact⟨_,u,l',k1,.inr ⟨W.next,rfl,k2,by omega,hN,by simp⟩,k3.mono fun _ _ h=>(h:False).elim,⟨rfl,rfl,rfl,rfl⟩⟩
 . obtain⟨u,l',k1,k2,k3,k4⟩:=ap_more_lg ho L hy h1 (by rw[lM]; omega)
   rw[lM]at k1;exact⟨_,u,l',k1,.inr ⟨W.next,by rw[lAq,List.length_singleton],by rw[List.map_append]; exact k2,by omega,hN,by rw[lAq,List.length_singleton]; omega⟩,k3.mono fun x _ e=>by rw[e]; rfl,⟨rfl,rfl,rfl,rfl⟩⟩
set_option maxRecDepth 100000 in
theorem env_end (h:Rd S b N0 d n (qd0 t) vI vE) (hne:∀x,qc5 vI=some x->qc5 vE≠some x) (le:d.env.length<1000) {x:Nat} {p:Bs×Bs} (hx:AgAt S x 50 2 (qi8 p)) :
 ∃U v',(∀k:St->Rs,((qae (.ptr b 0)).bind fun t62=>
(faP 0 true 4 t62).bind fun t63=>
(faP 2 false 1 t63).bind fun t64=>
(ld1 t64 (onS S)).bind fun p65=>
(ldA 2 (.ptr x 0) (onS p65.2)).bind fun p66=>
(bsP 50 2 1 (Tr.ofListFrom .nil [(sv []),(sv [])] 0) [(0,p66.1)] (onS p66.2)).bind fun p67=>
(apP 50 2 32 p65.1 p67.1 (onS p67.2)).bind fun p68=>
(qae (.ptr b 0)).bind fun t69=>
(faP 0 true 4 t69).bind fun t70=>
(faP 2 false 1 t70).bind fun t71=>
(stP 1 t71 p68.1 (onS p68.2)).bind fun p72=>
endP [(5,[6,7])] S [[],[],[],[],[],p65.2.log,p66.2.log,p67.2.log,p68.2.log,[],[],[],p72.2.log] p72.2 fun S73=>k S73)=k U)/\Rd U b N0 {d with env:=d.env++[p]} n (qd0 t) vI v'/\Grew (Own b vI vE) S U:=by
 have ho:=h.on;obtain⟨t6,c1,c2⟩:=h.ex;have hb1:=h.lt; have hb2:=h.hi;obtain⟨U1,e1,e2,e3,e4⟩:=bs_var ho (qi8 p);have on1:=e3.on.trans ho;obtain⟨v',U2,l2,g1,g2,g3,g4⟩:=(h.env.grew e3 fun _ _ h=>h).pushOn on1 (Nat.le_trans hb2 e3.next) (by omega) e2 [];have on2:=g3.on.trans on1
 have hbE:¬qc5 vE=some b:=fun e=>by
  rcases h.env with⟨_,rfl⟩|⟨r,rfl,_,_,h6,_⟩
  . cases e
  . cases e; omega
 have cU:AgAt U2 b 41 6 t6:=(c1.grew (by omega) (fun h=>h) e3).grew (by have:=e3.next; omega) hbE g3;have hI2:TLo U2 vI d.ins N0:=(h.ins.grewW e3 fun _ _ h=>h).grewW g3 fun x hx e=>hne x hx e;obtain⟨U3,k1,k2,k3⟩:=put_cell on2 h.lt (by have:=e3.next; have:=g3.next; omega) cU 2 (by decide) v' g4 (d':={d with env:=d.env++[p]}) (n':=n) (last':=qd0 t) (vI':=vI) (vE':=v') hI2 g2 ⟨(qfy _ _ _ _ (by decide)).trans c2.nm,(qfy _ _ _ _ (by decide)).trans c2.ins,setS _ _ _,(qfy _ _ _ _ (by decide)).trans c2.scr,(qfy _ _ _ _ (by decide)).trans c2.n,(qfy _ _ _ _ (by decide)).trans c2.last⟩;obtain⟨l3,k1'⟩:=stP_lg on2 k1;obtain⟨U,r1,r2,r3,r4⟩:=qeh ho U3 l3 [[],[],[],[],[],[⟨b,2,2+1,false⟩],[⟨x,0,0+2,false⟩],[⟨S.next,0,big,true⟩],l2,[],[],[],l3];have gU:=Grew.of_eq r2 r3 (r4.trans k2.on.symm);refine⟨U,v',fun k=>?_,k2.grew0 gU,((e3.mono fun _ _ h=>(h:False).elim).trans ((g3.mono fun x _ e=>.inr (.inr e)).trans (k3.mono fun x _ e=>.inl e))).trans (gU.mono fun _ _ h=>(h:False).elim)⟩;simp only[nilP,oB,show faP 0 true 4 (.ptr b 0)=some (.ptr b 0)from rfl,show faP 2 false 1 (.ptr b 0)=some (.ptr b 2)from rfl];rw[qax,qeq ho (c1.ld1 ho big6 (by decide) c2.env) [],oB];dsimp only;rw[qab,qax,hx.ldOn big2 [],oB];dsimp only;rw[qab,qax,e1 [],oB];dsimp only;rw[qab,qax,g1,oB];dsimp only;rw[qab,qax,k1',oB];dsimp only
 rw[show(S.lg [⟨b,2,2+1,false⟩]).log=[⟨b,2,2+1,false⟩]from rfl,show(S.lg [⟨x,0,0+2,false⟩]).log=[⟨x,0,0+2,false⟩]from rfl,show(U1.lg [⟨S.next,0,big,true⟩]).log=[⟨S.next,0,big,true⟩]from rfl,show(U2.lg l2).log=l2 from rfl,show(U3.lg l3).log=l3 from rfl,qfk (pairsB3 (by omega) l2 l3),r1]
theorem aft_len2 {w0:Bs} {ws:List Bs} (h:(w0::ws).length=3):∃a b,ws=[a,b]:=by
 match ws,h with
 | [a,b],_=>exact⟨a,b,rfl⟩
 | [],h=>cases h
 | [_],h=>cases h
 | _::_::_::_,h=>simp at h
set_option maxRecDepth 100000 in
theorem f10_run (h:Rd S b N0 d n (qd0 t) vI vE) (ht:t<=4) (m:Nat) {vw:V} {w0:Bs} {ws:List Bs} (hw:TL S vw (w0::ws)) (hne:∀x,qc5 vI=some x->qc5 vE≠some x) (lw:(w0::ws).length<100000) (le:d.env.length<1000) (hs:∀a∈ws,a.length<=10000):Meth S b N0 n vw vI vE t (m+4) 10 (qm6 qfz t d ws):=by
 obtain⟨S1,a1,a2,a3⟩:=lay_run h.on [wDrv,wIn,wEnv] (by decide);have hw1:=hw.grew0 a3;have h1:=h.grew0 a3;have e21:=f21_run h1 m hw1 a2 (by omega) (by decide) 3;have hF:=F10_eq (ev E0 KD (m+3)) qa1 (.ptr b 0) vw S;rw[show bsP 9 1 3 (Ev.one (sv [])) [(0,(sv [100,114,118])),(1,(sv [105,110])),(2,(sv [101,110,118]))] S=some (_,S1)from a1,oB]at hF;dsimp only at hF;rw[show V.int .i64 3=.int .i64 ((3:Nat):Int)from rfl,e21,qd2]at hF;have hq:aftB [wDrv,wIn,wEnv] (qd0 t) (w0::ws) 3=(decide (t=1\/t=2\/t=3)&&decide ((w0::ws).length=3)):=by unfold aftB; rw[last13 ht]
 rw[hq]at hF;have g0:Grew (Own b vI vE) S S1:=a3.mono fun _ _ h=>(h:False).elim;by_cases hc:(t=1\/t=2\/t=3)/\(w0::ws).length=3
 . obtain⟨htt,h2⟩:=hc
   obtain⟨a,s,rfl⟩:=aft_len2 h2;rw[dT htt,dT h2,Bool.and_self,iP rfl]at hF;obtain⟨t6,c1,c2⟩:=h1.ex;rw[nilP,oB,show faP 0 true 4 (.ptr b 0)=some (.ptr b 0)from rfl,oB,show faP 2 false 1 (.ptr b 0)=some (.ptr b 2)from rfl,oB,c1.ld1 h1.on big6 (by decide) c2.env,oB]at hF;dsimp only at hF;rw[h1.env.len,oB]at hF;dsimp only at hF;have la:=hs a (by simp);have lss:=hs s (by simp);have hF2:=hF.trans (env_front h1 m hw1 (a:=a) rfl (by omega) le _);rw[sayEnv2];by_cases hv:qfz a=true/\qju d.env a=true
   . rw[iP hv]at hF2
     rw[iP ⟨htt,hv.1,(lastOk_iff _ _).1 hv.2⟩];have hmid:=env_mid h1 m hw1 (a:=a) (s:=s) rfl rfl lss;cases hd:valD s with
     | none=>
      rw[hd]at hmid;exact⟨S1,4,rq10 (hF2.trans (hmid _)),g0⟩
     | some v=>
      rw[hd]at hmid;obtain⟨U,X,m1,m2,m3,m4⟩:=hmid;have hF3:=hF2.trans (m1 _);dsimp only at hF3;have hU:=h1.grew0 m3;have onU:=hU.on;have gU:Grew (Own b vI vE) S U:=g0.trans (m3.mono fun _ _ h=>(h:False).elim);rw[show faP 1 false 1 (.ptr S1.next 0)=some (.ptr S1.next 1)from rfl,oB,m2.ld1 onU big2 (by decide) (show(qi8 (a,v)).get 1=some (sv v) by unfold qi8; rw[Tr.get_ofList]; rfl),oB]at hF3;dsimp only at hF3;rw[qa9,oB]at hF3;dsimp only at hF3;rw[show V.int .i64 200=.int .i64 ((200:Nat):Int)from rfl,leqN,oB,hU.must (m+2) 4,qd2]at hF3;rw[oB];by_cases h200:v.length<=200
      . rw[iP (dT h200)]at hF3
        have hlt:qa8 E0 .lss 3 false true (.int .i64 (d.env.length:Int)) (.int .i64 16)=some (.bool (decide (d.env.length<16))):=by
         rw[binV_ii,intsV_lss]
         congr 2
         simp;omega
        rw[hlt,oB,hU.must (m+2) ((3:Nat):Int),qd2]at hF3;by_cases h16:d.env.length<16
        . rw[iP (dT h16)]at hF3
          rw[iP ⟨h200,h16⟩];obtain⟨Y,v',z1,z2,z3⟩:=env_end hU hne le m2;exact⟨Y,vI,v',rq10 (hF3.trans (z1 _)),z2,gU.trans z3⟩
        . rw[iN (by simpa using h16)]at hF3
          rw[iN fun e=>h16 e.2];exact⟨U,_,rq10 hF3,gU⟩
      . rw[iN (by simpa using h200)]at hF3
        rw[iN fun e=>h200 e.1];exact⟨U,4,rq10 hF3,gU⟩
   . rw[iN hv]at hF2
     rw[iN fun e=>hv ⟨e.2.1,(lastOk_iff _ _).2 e.2.2⟩];exact⟨S1,4,rq10 hF2,g0⟩
 . have hno:qm6 qfz t d ws=none:=by
    unfold qm6;split
    . rw[iN fun e=>hc ⟨e.1,rfl⟩]
    . rfl
   rw[hno]
   have hb:(decide (t=1\/t=2\/t=3)&&decide ((w0::ws).length=3))=false:=by
    by_cases h0:t=1\/t=2\/t=3
    . rw[dF (fun e=>hc ⟨h0,e⟩),Bool.and_false]
    . rw[dF h0]; rfl
   rw[hb,iN (by simp)]at hF;exact⟨S1,4,rq10 hF,g0⟩
end
theorem qi9:4<big:=by unfold big; decide
theorem big1':1<big:=by unfold big; decide
structure DrvT (T:Tr V) (nm:Bs) (vI vE:V) (scr:Bs):Prop where
 nm:T.get 0=some (sv nm)
 ins:T.get 1=some vI
 env:T.get 2=some vE
 scr:T.get 3=some (sv scr)
noncomputable def ZD:Tr V:=Tr.ofListFrom .nil [(sv []),.nilslice,.nilslice,(sv [])] 0
theorem build_25:qdz E0 25 []=some (.agg 4 ZD):=by kernel_rfl
theorem qem {c:Tr (Tr V)} {esz off k i:Nat} {acc t:Tr V} {v:V} (h1:c.get ((off+i)/esz)=some t) (h2:t.get ((off+i)%esz)=some v):qec c esz off (k+1) i acc=qec c esz off k (i+1) (acc.set v i):=by
 rw[qec,h1];simp only[oB,h2,Tr.setC_eq]
section
variable {S T U W:St} {b N0:Nat} {d:DD} {n:Int} {vI vE:V} {t:Nat}
theorem drv_ld (ho:S.on=false) {t:Tr V} (h1:AgAt S b 41 6 t) {nm scr last:Bs} (h2:RdT t nm vI vE scr n last):∃T,ldA 4 (.ptr b 0) S=some (.agg 4 T,S)/\DrvT T nm vI vE scr:=by
 obtain⟨c,c1,c2⟩:=h1;refine⟨(((Tr.nil.set (sv nm) 0).set vI 1).set vE 2).set (sv scr) 3,?_,⟨?_,?_,?_,?_⟩⟩
 . unfold ldA
   dsimp only;unfold ldK;rw[c1];dsimp only;rw[show(Nat.ble (0+4) (6*1)&&Nat.blt (6*1) big)=true by rw[ble_true.2 (by omega),blt_true.2 (by unfold big; decide)]; rfl,cT];unfold qen;rw[show(Nat.beq 4 6&&Nat.beq (0%6) 0)=false from rfl,cF];rw[qem (t:=t) (i:=0) c2 h2.nm,qem (t:=t) (i:=0+1) c2 h2.ins,qem (t:=t) (i:=0+1+1) c2 h2.env,qem (t:=t) (i:=0+1+1+1) c2 h2.scr];unfold qec;rw[oB,qau ho,oB]
 . rw[qfy _ _ _ _ (by decide),qfy _ _ _ _ (by decide),qfy _ _ _ _ (by decide),setS]
 . rw[qfy _ _ _ _ (by decide),qfy _ _ _ _ (by decide),setS]
 . rw[qfy _ _ _ _ (by decide),setS]
 . rw[setS]
variable {self:EV} {a:Ac} {pd pe:Nat}
theorem lv4 (h2:evO E0 a (.tmp 2)=some (.ptr pd 0)) (h3:evO E0 a (.tmp 3)=some (.ptr pe 0)) (ho:S.on=false) {u:Tr V} {v:V} (hp0:AgAt S pd 25 4 u) (hp1:AgAt S pe 27 1 (Ev.one v)) :
 lvK E0 self Tryd.f4 a [] .ret S=some (.ret (.tuple [.agg 4 u,v]),S):=by
 have h:lvK E0 self Tryd.f4 a [] .ret S=(evO E0 a (.tmp 2)).bind fun v=>(ldRes E0 25 v S).bind fun p=>(evO E0 a (.tmp 3)).bind fun w=>(ldRes E0 27 w p.2).bind fun q=>some (.ret (.tuple [p.1,q.1]),q.2):=by kernel_rfl
 rw[h,h2,oB,show ldRes E0 25 (.ptr pd 0) S=ldrA 4 (.ptr pd 0) S by kernel_rfl,hp0.ldrA ho qi9,oB,h3,oB];dsimp only;rw[show ldRes E0 27 (.ptr pe 0) S=ldr1 (.ptr pe 0) S by kernel_rfl,hp1.ldr_one ho,oB]
theorem fin4 (hd:a.defers=[ad 7 [] [.ptr pd 0,.ptr pe 0]]) (h2:evO E0 a (.tmp 2)=some (.ptr pd 0)) (h3:evO E0 a (.tmp 3)=some (.ptr pe 0)) (ho:S.on=false) {u:Tr V} {v:V} (hp0:AgAt S pd 25 4 u) (hp1:AgAt S pe 27 1 (Ev.one v)) :
 finR E0 self Tryd.f4 a S=some (.ret (.tuple [.agg 4 u,v]),S):=by
 rw[finR_defer hd];refine qlj (ALe.refl a) ?_;rw[E7r,show qa8 E0 .neq 20 false true .niliface .niliface=some (.bool false) by kernel_rfl,oB,ifK_bool,cF];exact lv4 h2 h3 ho hp0 hp1
theorem pan4 {c m:Int} (hd:a.defers=[ad 7 [] [.ptr pd 0,.ptr pe 0]]) (h2:evO E0 a (.tmp 2)=some (.ptr pd 0)) (h3:evO E0 a (.tmp 3)=some (.ptr pe 0)) (ho:S.on=false) {u v:Tr V} (hp0:AgAt S pd 25 4 u) (hp1:AgAt S pe 27 1 v) (h0n:pd<S.next) (h1n:pe<S.next) (h01:pd≠pe) :
 ∃U x,qbe E0 self Tryd.f4 a a.defers (.pan (qdi c m)) S=some (.ret (.tuple [.agg 4 ZD,.iface 38 (.ptr x 0)]),U)/\Grew (fun x=>x=pd\/x=pe) S U:=by
 obtain⟨a1,a2,a3⟩:=qcj ho 36 2 (Tr.ofListFrom .nil [(.int .i64 0),(.int .i64 0)] 0);have on1:=a2.on.trans ho;obtain⟨S2,b1,b2,b3,b4⟩:=a1.stA on1 big2 (faultT c m);have on2:=b3.on.trans on1;have g2:Grew (fun _=>False) S S2:=a2.own (lR _) b3;have hp02:=hp0.grew h0n (fun h=>h) g2;have hp12:=hp1.grew h1n (fun h=>h) g2;obtain⟨S3,c1,c2,c3,c4⟩:=hp02.stA on2 qi9 ZD;have on3:=c3.on.trans on2;have hp13:=hp12.grew (Nat.lt_of_lt_of_le h1n g2.next) (fun e=>h01 e.symm) c3;obtain⟨S4,d1,d2,d3,d4⟩:=hp13.st_one on3 (.iface 38 (.ptr S.next 0)) rfl rfl rfl;have on4:=d3.on.trans on3;have hp04:=c2.grew (by have:=g2.next; have:=c3.next; omega) (fun e=>h01 e) d3;refine⟨S4,S.next,?_,((g2.mono fun _ _ h=>(h:False).elim).trans (c3.mono fun x _ h=>.inl h)).trans (d3.mono fun x _ h=>.inr h)⟩;rw[hd];refine qlj (ALe.refl a) ?_;rw[E7p,fault_neq,oB,ifK_bool,cT,fault_is,oB,ex0,ex1,oB,oB,oB,qcu,b1,oB];dsimp only;rw[unV_not,oB,Bool.not_true,ifK_bool,cF,build_25,oB,c1,oB];dsimp only;rw[d1,oB];dsimp only;exact lv4 h2 h3 on4 hp04 d2
end
theorem spl_len:∀s:Bs,(qk1 s).length<=s.length+1
 | []=>lR _
 | c::s=>by
  have ih:=spl_len s;rw[qk1];split
  . simp; omega
  . split<;>simp_all<;>omega
theorem spl_word:∀(s w:Bs),w∈qk1 s->w.length<=s.length
 | [],w,h=>by
  rw[qk1,List.mem_singleton]at h;rw[h]; exact lR _
 | c::s,w,h=>by
  have ih:=spl_word s;rw[qk1]at h;split at h
  . rcases List.mem_cons.1 h with rfl|h
    . simp
    . have:=ih w h; simp; omega
  . cases hs:qk1 s with
    | nil=>exact absurd hs (splB_ne s)
    | cons v l=>
     rw[hs]at h ih;rcases List.mem_cons.1 h with rfl|h
     . have:=ih v (List.mem_cons_self ..); simp; omega
     . have:=ih w (mO _ h); simp; omega
noncomputable def esM (b:Nat):List ME:=[{k:=sv wDrv,v:=.fn (.func 8) [.ptr b 0] [],born:=0},{k:=sv wIn,v:=.fn (.func 9) [.ptr b 0] [],born:=1},{k:=sv wEnv,v:=.fn (.func 10) [.ptr b 0] [],born:=2},{k:=sv wRun,v:=.fn (.func 11) [.ptr b 0] [],born:=3}]
def fnW (w:Bs):Option Nat:=if w=wDrv then some 8 else if w=wIn then some 9 else if w=wEnv then some 10 else if w=wRun then some 11 else none
section
variable {S T U W:St} {b N0:Nat} {d:DD} {n:Int} {vI vE:V} {t:Nat}
theorem mfind_w (w:Bs):∃i,qg2 (sv w) (esM b) 0=some ((fnW w).map fun f=>(i,.fn (.func f) [.ptr b 0] [])):=by
 have h:qg2 (sv w) (esM b) 0=bif sEq w.length (qay w) wDrv.length (qay wDrv)then some (some (0,.fn (.func 8) [.ptr b 0] []))else bif sEq w.length (qay w) wIn.length (qay wIn)then some (some (0+1,.fn (.func 9) [.ptr b 0] []))else bif sEq w.length (qay w) wEnv.length (qay wEnv)then some (some (0+1+1,.fn (.func 10) [.ptr b 0] []))else bif sEq w.length (qay w) wRun.length (qay wRun)then some (some (0+1+1+1,.fn (.func 11) [.ptr b 0] []))else some none:=rfl;rw[h,qgq,qgq,qgq,qgq];unfold fnW;by_cases h1:w=wDrv
 . rw[iP h1,beq_iff_eq.2 h1]; exact⟨0,rfl⟩
 rw[iN h1,beq_false_of_ne h1];by_cases h2:w=wIn
 . rw[iP h2,beq_iff_eq.2 h2]; exact⟨1,rfl⟩
 rw[iN h2,beq_false_of_ne h2];by_cases h3:w=wEnv
 . rw[iP h3,beq_iff_eq.2 h3]; exact⟨2,rfl⟩
 rw[iN h3,beq_false_of_ne h3];by_cases h4:w=wRun
 . rw[iP h4,beq_iff_eq.2 h4]; exact⟨3,rfl⟩
 rw[iN h4,beq_false_of_ne h4];exact⟨0,rfl⟩
theorem und43:und E0 43=some (.map 9 42):=by kernel_rfl
theorem zero42:qf7 E0 42=some .nilfn:=by kernel_rfl
theorem look_w (ho:S.on=false) {r c:Nat} (h:S.heap.get r=some (.map (esM b) c)) (w:Bs) :
 qci E0 43 (.map r) (sv w) true S=some (.tuple [match fnW w with|some f=>.fn (.func f) [.ptr b 0] []|none=>.nilfn,.bool (fnW w).isSome],S):=by
 obtain⟨i,hi⟩:=mfind_w (b:=b) w;unfold qci;rw[und43,oB];simp only;rw[und9,oB];simp only[show qhc .string (sv w)=true from rfl,cT];rw[getO_off ho h,oB];simp only;rw[oB];dsimp only;rw[hi,oB];cases fnW w with
 | none=>simp only[Option.map_none]; rw[zero42]; rfl
 | some f=>rfl
theorem upd_w (ho:S.on=false) {r clock:Nat} {es:List ME} {k:Bs} {v:V} (h:S.heap.get r=some (.map es clock)) (hf:qg2 (sv k) es 0=some none):qb3 E0 43 (.map r) (sv k) v S=some (S.put r (.map (es++[{k:=sv k,v:=v,born:=clock}]) (clock+1))):=by
 unfold qb3;rw[und43,oB];simp only;rw[und9,oB];simp only[show qhc .string (sv k)=true from rfl,cT];rw[getO_off ho h,oB];simp only;rw[hf,oB];simp only;rw[setO_off ho]
theorem Rd.ne (h:Rd S b N0 d n (qd0 t) vI vE):∀x,qc5 vI=some x->qc5 vE≠some x:=fun x h1 h2=>by
 rcases h.ins with⟨_,rfl⟩|⟨r,rfl,h3,_⟩
 . cases h1
 . rcases h.env with⟨_,rfl⟩|⟨q,rfl,h4,_⟩
   . cases h2
   . cases h1; cases h2
     obtain⟨c,c1,_⟩:=h3.row;obtain⟨c',c2,_⟩:=h4.row;rw[c1]at c2;cases c2
theorem body_w:(E0.ext.get 8=none/\qat E0 8=true)/\(E0.ext.get 9=none/\qat E0 9=true)/\(E0.ext.get 10=none/\qat E0 10=true)/\(E0.ext.get 11=none/\qat E0 11=true):=⟨⟨by kernel_rfl,by kernel_rfl⟩,⟨by kernel_rfl,by kernel_rfl⟩,⟨by kernel_rfl,by kernel_rfl⟩,by kernel_rfl,by kernel_rfl⟩
theorem say_last {t t':Nat} {d d':DD} {w0:Bs} {ws:List Bs} (h:sayD qfj qb9 qfz t d (w0::ws)=some (t',d')):qd0 t'=w0/\t'<=4/\d'.scr=d.scr:=by
 rw[sayD]at h;split at h
 . rename_i h0
   unfold qm5 at h;split at h
   . split at h
     . simp only[oS,pM]at h
       obtain⟨rfl,rfl⟩:=h;exact⟨h0.symm,by omega,rfl⟩
     . cases h
   . cases h
 split at h
 . rename_i h0
   unfold sayIn at h;split at h
   . split at h
     . simp only[oS,pM]at h
       obtain⟨rfl,rfl⟩:=h;exact⟨h0.symm,by omega,rfl⟩
     . cases h
   . cases h
 split at h
 . rename_i h0
   unfold qm6 at h;split at h
   . split at h
     . rw[oI]at h
       obtain⟨v,_,h⟩:=h;split at h
       . simp only[oS,pM]at h
         obtain⟨rfl,rfl⟩:=h;exact⟨h0.symm,by omega,rfl⟩
       . cases h
     . cases h
   . cases h
 split at h
 . rename_i h0
   unfold sayRun at h;split at h
   . split at h
     . simp only[oS,pM]at h
       obtain⟨rfl,rfl⟩:=h;exact⟨h0.symm,by omega,rfl⟩
     . cases h
   . cases h
 . cases h
theorem say_run (h:Rd S b N0 d n (qd0 t) vI vE) (ht:t<=4) (m:Nat) {vw:V} {w0:Bs} {ws:List Bs} (hw:TL S vw (w0::ws)) (hwo:∀r,qc5 vw=some r->¬Own b vI vE r) (lw:(w0::ws).length<100000) (li:d.ins.length<1000) (le:d.env.length<1000) (hs:∀a∈ws,a.length<=10000) :
 match fnW w0 with
 | some f=>(∀S args,qch E0 (ev E0 KD (m+4)) (.fn (.func f) [.ptr b 0] []) args S=(ev E0 KD (m+4)).f f (.ptr b 0::args) S)/\Meth S b N0 n vw vI vE t (m+4) f (sayD qfj qb9 qfz t d (w0::ws))
 | none=>sayD qfj qb9 qfz t d (w0::ws)=none:=by
 rw[sayD];unfold fnW;by_cases h1:w0=wDrv
 . rw[iP h1,iP h1]
   exact⟨fun S args=>by rw[qb5 body_w.1.1 body_w.1.2,List.append_nil]; rfl,f8_run h ht m hw lw fun a ha=>by have:=hs a ha; omega⟩
 rw[iN h1,iN h1];by_cases h2:w0=wIn
 . rw[iP h2,iP h2]
   exact⟨fun S args=>by rw[qb5 body_w.2.1.1 body_w.2.1.2,List.append_nil]; rfl,f9_run h ht m hw hwo h.ne lw li fun a ha=>by have:=hs a ha; omega⟩
 rw[iN h2,iN h2];by_cases h3:w0=wEnv
 . rw[iP h3,iP h3]
   exact⟨fun S args=>by rw[qb5 body_w.2.2.1.1 body_w.2.2.1.2,List.append_nil]; rfl,f10_run h ht m hw h.ne lw le hs⟩
 rw[iN h3,iN h3];by_cases h4:w0=wRun
 . rw[iP h4,iP h4]
   exact⟨fun S args=>by rw[qb5 body_w.2.2.2.1 body_w.2.2.2.2,List.append_nil]; rfl,f11_run h ht m hw lw⟩
 rw[iN h4,iN h4]
end
def Out (r:Rs) (S:St) (pd N0:Nat):Option DD->Prop
 | some d=>∃U T vI vE,r=some (.ret (.tuple [.agg 4 T,.niliface]),U)/\DrvT T d.nm vI vE d.scr/\TLo U vI d.ins N0/\VLo U vE d.env N0/\U.on=false/\Grew (fun x=>pd<=x) S U
 | none=>∃U x,r=some (.ret (.tuple [.agg 4 ZD,.iface 38 (.ptr x 0)]),U)/\Grew (fun x=>pd<=x) S U
section
variable {S T U W:St} {b N0:Nat} {d:DD} {n:Int} {vI vE:V} {t:Nat}
theorem Out.from {S S':St} {r:Rs} {pd N0:Nat} {o:Option DD} (g:Grew (fun x=>pd<=x) S S') (h:Out r S' pd N0 o):Out r S pd N0 o:=by
 cases o with
 | none=>obtain⟨U,x,h1,h2⟩:=h; exact⟨U,x,h1,g.trans h2⟩
 | some d=>obtain⟨U,T,vI,vE,h1,h2,h3,h4,h5,h6⟩:=h; exact⟨U,T,vI,vE,h1,h2,h3,h4,h5,g.trans h6⟩
structure Round (S:St) (pd pe rm b N0:Nat):Prop where
 de:pd<pe
 eb:pe<b
 dm:pd<rm
 mN:rm<N0
 mb:rm≠b
 me:rm≠pe
 d:∃u,AgAt S pd 25 4 u
 e:∃u,AgAt S pe 27 1 u
 m:∃c,S.heap.get rm=some (.map (esM b) c)
theorem Round.grew {W:Nat->Prop} {pd pe rm:Nat} (h:Round S pd pe rm b N0) (hN:N0<=S.next) (hb:b<N0) (g:Grew W S U) (hw:∀x,W x->x=b\/N0<=x):Round U pd pe rm b N0:=by
 have h1:=h.de; have h2:=h.eb; have h3:=h.dm; have h4:=h.mN; have h5:=h.mb; have h6:=h.me;obtain⟨u,hu⟩:=h.d;obtain⟨v,hv⟩:=h.e;obtain⟨c,hc⟩:=h.m;refine⟨h1,h2,h3,h4,h5,h6,⟨u,hu.grew (by omega) (fun hx=>?_) g⟩,⟨v,hv.grew (by omega) (fun hx=>?_) g⟩,⟨c,?_⟩⟩
 . rcases hw _ hx with h|h<;>omega
 . rcases hw _ hx with h|h<;>omega
 . rw[g.keep rm (by omega) (fun hx=>by rcases hw _ hx with h|h<;>omega)]
   exact hc
theorem Rd.own_hi (h:Rd S b N0 d n (qd0 t) vI vE) {x:Nat} (hx:Own b vI vE x):x=b\/N0<=x:=by
 rcases hx with rfl|hx|hx
 . exact .inl rfl
 . rcases h.ins with⟨_,rfl⟩|⟨r,rfl,_,_,h3,_⟩
   . cases hx
   . cases hx; exact .inr h3
 . rcases h.env with⟨_,rfl⟩|⟨r,rfl,_,_,h3,_⟩
   . cases hx
   . cases hx; exact .inr h3
theorem neq_run {t:Nat} (ht:t<=4):qa8 E0 .neq 9 false true (sv (qd0 t)) (sv [114,117,110])=some (.bool (!decide (t=4))):=by
 rw[neStr]
 match t,ht with
 | 0,_|1,_|2,_|3,_|4,_=>rfl
set_option maxRecDepth 100000 in
theorem parse_end {pd pe rm:Nat} (m N:Nat) (hR:Round S pd pe rm b N0) (h:Rd S b N0 d n (qd0 4) vI vE) (s:Bs) (nk:Ac->St->Rs) (hnk:nk=qbw E0 (ev E0 KD (m+5)) Tryd.f4) (ek:Nat->Ac->St->Rs) :
 Out (R4_22 (ev E0 KD (m+5)) N nk ek (frD 83 [(0,sv s),(2,.ptr pd 0),(3,.ptr pe 0),(4,.ptr b 0)] [ad 7 [] [.ptr pd 0,.ptr pe 0]]) S) S pd N0 (if s.length<=4000 then some {d with scr:=s}else none):=by
 have hN:=h.hi;have hb:=h.lt;have h1:=hR.de; have h2:=hR.eb;have ho:=h.on;obtain⟨u,hu⟩:=hR.d;obtain⟨v,hv⟩:=hR.e;rw[R4_22_eq,qa9,oB];dsimp only;rw[show V.int .i64 4000=.int .i64 ((4000:Nat):Int)from rfl,leqN,oB,h.must (m+4) 3];by_cases hl:s.length<=4000
 . rw[iP (dT hl),iP hl,qe7,nilP,oB,show faP 0 true 4 (.ptr b 0)=some (.ptr b 0)from rfl,oB,show faP 3 false 1 (.ptr b 0)=some (.ptr b 3)from rfl,oB]
   obtain⟨U,k1,k2,k3⟩:=h.put 3 (by decide) (sv s) (qef s) (d':={d with scr:=s}) (n':=n) (last':=qd0 4) (vI':=vI) (vE':=vE) h.ins h.env (fun t ht=>⟨(qfy _ _ _ _ (by decide)).trans ht.nm,(qfy _ _ _ _ (by decide)).trans ht.ins,(qfy _ _ _ _ (by decide)).trans ht.env,setS _ _ _,(qfy _ _ _ _ (by decide)).trans ht.n,(qfy _ _ _ _ (by decide)).trans ht.last⟩);have onU:=k2.on;have nU:=k3.next
   rw[k1,oB];dsimp only;rw[oB,show faP 0 true 4 (.ptr b 0)=some (.ptr b 0)from rfl,oB];obtain⟨t6,c1,c2⟩:=k2.ex;obtain⟨T,d1,d2⟩:=drv_ld onU c1 c2;rw[d1,oB];dsimp only;have hu':=hu.grew (by omega) (by omega) k3;have hv':=hv.grew (by omega) (by omega) k3;obtain⟨X,x1,x2,x3,x4⟩:=hu'.stA onU qi9 T;have onX:=x3.on.trans onU;rw[x1,oB];dsimp only;have hv2:=hv'.grew (by omega) (by omega) x3;obtain⟨Y,y1,y2,y3,y4⟩:=hv2.st_one onX .niliface rfl rfl rfl;rw[y1,oB];dsimp only
   have gI:∀x,qc5 vI=some x->N0<=x:=fun x hx=>by
    rcases h.ins with⟨_,rfl⟩|⟨r,rfl,_,_,h6,_⟩
    . cases hx
    . cases hx; exact h6
   have gE:∀x,qc5 vE=some x->N0<=x:=fun x hx=>by
    rcases h.env with⟨_,rfl⟩|⟨r,rfl,_,_,h6,_⟩
    . cases hx
    . cases hx; exact h6
   refine⟨Y,T,vI,vE,fin4 rfl (by kernel_rfl) (by kernel_rfl) (y3.on.trans onX) (x2.grew (by omega) (by omega) y3) y2,d2,?_,?_,y3.on.trans onX,(k3.mono fun x _ e=>by omega).trans ((x3.mono fun x _ e=>by omega).trans (y3.mono fun x _ e=>by omega))⟩
   . exact(k2.ins.grewW x3 fun x hx e=>by have:=gI x hx; omega).grewW y3 fun x hx e=>by have:=gI x hx; omega
   . exact(k2.env.grew x3 fun x hx e=>by have:=gE x hx; omega).grew y3 fun x hx e=>by have:=gE x hx; omega
 . rw[iN (by simpa using hl),iN hl,qgw]
   obtain⟨U,x,k1,k2⟩:=pan4 (self:=ev E0 KD (m+5)) (a:=frD 83 [(0,sv s),(2,.ptr pd 0),(3,.ptr pe 0),(4,.ptr b 0),(69,.ptr b 0),(70,sv s),(71,.int .i64 (s.length:Int)),(72,.bool (decide (s.length<=4000)))] [ad 7 [] [.ptr pd 0,.ptr pe 0]]) (c:=3) (m:=n) rfl (by kernel_rfl) (by kernel_rfl) ho hu hv (by omega) (by omega) (by omega);exact⟨U,x,k1,k2.mono fun x _ hx=>by omega⟩
end
section
variable {S T U W:St} {b N0:Nat} {d:DD} {n:Int} {vI vE:V} {t:Nat}
theorem pan_out {pd pe rm:Nat} {c q:Int} (m:Nat) (hR:Round S pd pe rm b N0) (hN:N0<=S.next) (hb:b<N0) (ho:S.on=false) {a:Ac} (hd:a.defers=[ad 7 [] [.ptr pd 0,.ptr pe 0]]) (h2:evO E0 a (.tmp 2)=some (.ptr pd 0)) (h3:evO E0 a (.tmp 3)=some (.ptr pe 0)) :
 Out (qbe E0 (ev E0 KD (m+5)) Tryd.f4 a a.defers (.pan (qdi c q)) S) S pd N0 none:=by
 have h1:=hR.de; have h4:=hR.dm; have h5:=hR.mN; have h6:=hR.eb;obtain⟨u,hu⟩:=hR.d;obtain⟨v,hv⟩:=hR.e;obtain⟨U,x,k1,k2⟩:=pan4 (self:=ev E0 KD (m+5)) (a:=a) (c:=c) (m:=q) hd h2 h3 ho hu hv (by omega) (by omega) (by omega);exact⟨U,x,k1,k2.mono fun x _ hx=>by omega⟩
set_option maxRecDepth 100000 in
theorem parse_loop {pd pe rm:Nat} (m N:Nat) (nk:Ac->St->Rs) (hnk:nk=qbw E0 (ev E0 KD (m+5)) Tryd.f4) :
 ∀(f t:Nat) (d:DD) (s:Bs) (k i:Nat) (S:St) (vI vE:V),Round S pd pe rm b N0->Rd S b N0 d (k:Int) (qd0 t) vI vE->Iv qfj qb9 qfz t d->s.length<f->k+s.length<=10000->s.length<i->
 Out (L4_40 (ev E0 KD (m+5)) N (R4_22 (ev E0 KD (m+5)) N nk qb2) (exB 0 (R4_22 (ev E0 KD (m+5)) N nk qb2) qb2) i [ad 7 [] [.ptr pd 0,.ptr pe 0]] (sv s) (.ptr pd 0) (.ptr pe 0) (.ptr b 0) (.map rm) S) S pd N0 (prsL qfj qb9 qfz f t d s)
 | 0,_,_,_,_,_,_,_,_,_,_,_,hf,_,_=>by omega
 | f+1,_,_,_,_,0,_,_,_,_,_,_,_,_,hi=>by omega
 | f+1,t,d,s,k,i+1,S,vI,vE,hR,h,hI,hf,hk,hi=>by
  have ht:=hI.t4;have hN:=h.hi;have hb:=h.lt;have ho:=h.on;obtain⟨t6,c1,c2⟩:=h.ex;rw[L4_40_eq,nilP,oB,show faP 5 false 1 (.ptr b 0)=some (.ptr b 5)from rfl,oB,c1.ld1 ho big6 (by decide) c2.last,oB];dsimp only;rw[neq_run ht,oB,ifK_bool,prsL];by_cases h4:t=4
  . subst h4
    rw[iP rfl,show(!decide (4=4))=false from rfl,cF,exB_same];exact parse_end m N hR h s nk hnk qb2
  . rw[iN h4,dF h4,nF,cT,show ev E0 KD (m+5)=ev E0 KD (m+1+4)from rfl,f12_run ho (m+1) s (by omega),qe7,ex0,oB,ex1,oB,ex2,oB]
    have hl:(qgz s).1.length<=s.length:=by
     cases hc:(qgz s).2 with
     | none=>
      have:(qgz s).1=s:=by
       cases hf:s.findIdx? (fun x=>x==10)with
       | none=>rw[cut_none s hf]
       | some j=>obtain⟨_,e⟩:=cut_some s j hf; rw[e]at hc; cases hc
      rw[this]; exact lR _
     | some r=>
      have:=congrArg List.length (qih s hc);rw[lAq,List.length_cons]at this;omega
    obtain⟨S1,a1,a2,a3⟩:=f13_run ho m (qgz s).1 (by omega);have h1:=h.grew0 a3;have hR1:=hR.grew hN hb a3 fun _ hx=>(hx:False).elim;have on1:=h1.on;rw[show ev E0 KD (m+1+4)=ev E0 KD (m+5)from rfl,a1,qe7];have hsl:=spl_len (qgz s).1;have hsw:=spl_word (qgz s).1;cases hsp:qk1 (qgz s).1 with
    | nil=>exact absurd hsp (splB_ne _)
    | cons w0 ws=>
     rw[hsp]at a2 hsl hsw;have hN1:=h1.hi;obtain⟨p,p1,p2⟩:=w_ix a2 on1 (i:=0) (a:=w0) rfl;rw[show V.int .i64 0=.int .i64 ((0:Nat):Int)from rfl,p1,oB,p2,oB];dsimp only;obtain⟨mc,hm⟩:=hR1.m;rw[look_w on1 hm,oB];dsimp only;rw[ex0,oB,ex1,oB,h1.must (m+4) 18]
     have hwo:∀r,qc5 (V.slice S.next 0 (w0::ws).length (w0::ws).length)=some r->¬Own b vI vE r:=fun r hr hx=>by
      have:=h.own_lt hx;cases hr;omega
     have hsay:=say_run h1 ht (m+1) a2 hwo (by omega) (by have:=hI.lins; omega) (by have:=hI.lenv; omega) (fun a ha=>by have:=hsw a (mO _ ha); omega);have g1:Grew (fun x=>pd<=x) S S1:=a3.mono fun _ _ h=>(h:False).elim;cases hfw:fnW w0 with
     | none=>
      rw[hfw]at hsay;rw[hsay,Option.bind_none,iN (by simp),qgw];exact Out.from g1 (pan_out m hR1 hN1 hb on1 rfl (by kernel_rfl) (by kernel_rfl))
     | some fm=>
      rw[hfw]at hsay;obtain⟨hcall,hmeth⟩:=hsay;rw[iP (show(some fm).isSome=true from rfl),qe7];dsimp only;have hcall':=hcall S1 [V.slice S.next 0 (w0::ws).length (w0::ws).length];rw[show ev E0 KD (m+1+4)=ev E0 KD (m+5)from rfl]at hcall';rw[hcall'];cases hsd:sayD qfj qb9 qfz t d (w0::ws)with
      | none=>
       rw[hsd]at hmeth;obtain⟨U,c,u1,u2⟩:=hmeth;have hu:=hR1.grew hN1 hb u2 fun x hx=>h1.own_hi hx;have gU:Grew (fun x=>pd<=x) S1 U:=u2.mono fun x _ hx=>by have:=h1.own_hi hx; have:=hR.de; have:=hR.eb; have:=hR.dm; have:=hR.mN; omega
       rw[show(ev E0 KD (m+5)).f fm [.ptr b 0,V.slice S.next 0 (w0::ws).length (w0::ws).length] S1=_ from u1,qgw,Option.bind_none];exact Out.from g1 (Out.from gU (pan_out m hu (Nat.le_trans hN1 u2.next) hb (u2.on.trans on1) rfl (by kernel_rfl) (by kernel_rfl)))
      | some q=>
       obtain⟨t',d'⟩:=q;rw[hsd]at hmeth;obtain⟨U,vI',vE',u1,u2,u3⟩:=hmeth;have hu:=hR1.grew hN1 hb u3 fun x hx=>h1.own_hi hx;have gU:Grew (fun x=>pd<=x) S1 U:=u3.mono fun x _ hx=>by have:=h1.own_hi hx; have:=hR.de; have:=hR.eb; have:=hR.dm; have:=hR.mN; omega
       rw[show(ev E0 KD (m+5)).f fm [.ptr b 0,V.slice S.next 0 (w0::ws).length (w0::ws).length] S1=_ from u1,qe7,u2.must (m+4) 4,oB];cases hc:(qgz s).2 with
       | none=>
        rw[iN (by simp),qgw,Option.bind_none];exact Out.from g1 (Out.from gU (pan_out m hu u2.hi hb u2.on rfl (by kernel_rfl) (by kernel_rfl)))
       | some r=>
        have hlr:=cutB_len s hc;rw[iP (show(some r).isSome=true from rfl),qe7,oB,oB];have hwU:TL U (V.slice S.next 0 (w0::ws).length (w0::ws).length) (w0::ws):=a2.grew (fun r' e hr _ hx=>hwo r' hr hx) u3;obtain⟨p',q1,q2⟩:=w_ix hwU u2.on (i:=0) (a:=w0) rfl;rw[p1]at q1;cases q1;obtain⟨hl0,hl1,hl2⟩:=say_last hsd;rw[q2,oB];dsimp only;rw[oB,show faP 5 false 1 (.ptr b 0)=some (.ptr b 5)from rfl,oB];obtain⟨X,x1,x2,x3⟩:=u2.put 5 (by decide) (sv w0) (qef w0) (d':=d') (n':=(k:Int)) (last':=qd0 t') (vI':=vI') (vE':=vE') u2.ins u2.env (fun t ht=>⟨(qfy _ _ _ _ (by decide)).trans ht.nm,(qfy _ _ _ _ (by decide)).trans ht.ins,(qfy _ _ _ _ (by decide)).trans ht.env,(qfy _ _ _ _ (by decide)).trans ht.scr,(qfy _ _ _ _ (by decide)).trans ht.n,by rw[hl0]; exact setS _ _ _⟩);have hX:=hu.grew u2.hi hb x3 fun x hx=>.inl hx;rw[x1,oB];dsimp only;obtain⟨t7,y1,y2⟩:=x2.ex;rw[oB,show faP 4 false 1 (.ptr b 0)=some (.ptr b 4)from rfl,oB,y1.ld1 x2.on big6 (by decide) y2.n,oB];dsimp only;rw[qf5 (by omega),oB,oB,show faP 4 false 1 (.ptr b 0)=some (.ptr b 4)from rfl,oB]
        obtain⟨Y,z1,z2,z3⟩:=x2.put 4 (by decide) (.int .i64 ((k+1:Nat):Int)) ⟨rfl,rfl,rfl,rfl⟩ (d':=d') (n':=((k+1:Nat):Int)) (last':=qd0 t') (vI':=vI') (vE':=vE') x2.ins x2.env (fun t ht=>⟨(qfy _ _ _ _ (by decide)).trans ht.nm,(qfy _ _ _ _ (by decide)).trans ht.ins,(qfy _ _ _ _ (by decide)).trans ht.env,(qfy _ _ _ _ (by decide)).trans ht.scr,setS _ _ _,(qfy _ _ _ _ (by decide)).trans ht.last⟩);have hY:=hX.grew x2.hi hb z3 fun x hx=>.inl hx;rw[z1,oB];dsimp only;obtain⟨i1,_,_⟩:=say_ok (s:=(qgz s).1) hI (by rw[hsp]; exact hsd);have gb:Grew (fun x=>pd<=x) U Y:=(x3.trans z3).mono fun x _ hx=>by have:=hR.de; have:=hR.eb; omega
        exact Out.from g1 (Out.from gU (Out.from gb (parse_loop m N nk hnk f t' d' r (k+1) i Y vI' vE' hY z2 i1 (by omega) (by omega) (by omega))))
end
end Go.Proofs.YtpgegoeghaplkaaDoor.W
