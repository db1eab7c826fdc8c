/-
  WHAT THE FUNCTIONS COME TO: each is read by the evaluator,printed,and told as a function of data,part 10 of 13 (no condition).
-/
import Derived.Test.YtpgegoeghaplkaaGreatDoorW9
namespace Go.Proofs.YtpgegoeghaplkaaGreatDoor.W
open Go.Proofs.YtpgegoeghaplkaaGreatDoor.Ev Go.RowKit
section
variable {S T U W:St} {b N0:Nat} {d:DD} {n:Int} {vI vE:V} {t:Nat}
theorem pairsB3 {b x y N:Nat} (hb:b≠N) (l l':List LE):qaq [[],[],[],[],[],[⟨b,2,2+1,false⟩],[⟨x,0,y,false⟩],[⟨N,0,big,true⟩],l,[],[],[],l'] [(5,[6,7])]=true:=by
 have h1:qbu [⟨b,2,2+1,false⟩] [⟨x,0,y,false⟩]=false:=qc3 (by simp);have h2:qbu [⟨b,2,2+1,false⟩] [⟨N,0,big,true⟩]=false:=qc3 (by simp[hb]);show(bif (bif qbu [⟨b,2,2+1,false⟩] [⟨x,0,y,false⟩]then true else(bif qbu [⟨b,2,2+1,false⟩] [⟨N,0,big,true⟩]then true else false))then false else true)=true;rw[h1,h2];rfl
theorem bs_var (ho:S.on=false) (tr:Tr V):∃U,(∀L,bsP 41 2 1 (Tr.ofListFrom .nil [(sv []),(sv [])] 0) [(0,.agg 2 tr)] (S.lg L)=some (.slice S.next 0 1 1,U.lg (⟨S.next,0,big,true⟩::L)))/\RowAt U S.next 41 2 [tr]/\Grew (fun _=>False) S U/\U.next=S.next+1:=by
 refine⟨nw S (.cells 41 2 1 false ((Tr.tab 1 1 fun _=>Z50).set tr 0)),fun L=>?_,?_,qc9 ho _ _,rfl⟩
 . unfold bsP qgs qgs
   rw[show(Nat.beq (V.agg 2 tr).size 2&&Nat.blt 0 1&&!qan (V.agg 2 tr))=true from rfl,cT,Tr.setC_eq,oB,nw_lg ho];rfl
 . refine qeh ho (by omega) rfl (by unfold big; decide) fun i u h=>?_
   rw[Tr.get_set];cases i with
   | zero=>simpa using h
   | succ i=>simp at h
theorem VLo.pushOn (ho:W.on=false) {v:V} {l:List (Bs×Bs)} {N:Nat} (h:VLo W v l N) (hN:N<=W.next) (hl:l.length<=1000) {y:Nat} {p:Bs×Bs} (hy:RowAt W y 41 2 [qg4 p]) (L:List LE):∃v' U l',apP 41 2 32 v (.slice y 0 1 1) (W.lg L)=some (v',U.lg l')/\VLo U v' (l++[p]) N/\Grew (fun x=>qcj v=some x) W U/\OneV v':=by
 rcases h with⟨rfl,rfl⟩|⟨r,rfl,h1,h2,h3,h4⟩
 . obtain⟨u,l',k1,k2,k3,k4⟩:=ap_first_lg ho L hy
   exact⟨_,u,l',k1,.inr ⟨W.next,rfl,k2,by omega,hN,by simp⟩,k3.mono fun _ _ h=>(h:False).elim,⟨rfl,rfl,rfl,rfl⟩⟩
 . obtain⟨u,l',k1,k2,k3,k4⟩:=ap_more_lg ho L hy h1 (by rw[lM]; omega)
   rw[lM]at k1;exact⟨_,u,l',k1,.inr ⟨W.next,by rw[lAq,List.length_singleton],by rw[List.map_append]; exact k2,by omega,hN,by rw[lAq,List.length_singleton]; omega⟩,k3.mono fun x _ e=>by rw[e]; rfl,⟨rfl,rfl,rfl,rfl⟩⟩
set_option maxRecDepth 100000 in
theorem env_end (h:Rd S b N0 d n (qdq t) vI vE) (hne:∀x,qcj vI=some x->qcj vE≠some x) (le:d.env.length<1000) {x:Nat} {p:Bs×Bs} (hx:AgAt S x 41 2 (qg4 p)) :
 ∃U v',(∀k:St->Rs,((qaf (.ptr b 0)).bind fun t62=>
(faP 0 true 4 t62).bind fun t63=>
(faP 2 false 1 t63).bind fun t64=>
(ld1 t64 (onS S)).bind fun p65=>
(ldA 2 (.ptr x 0) (onS p65.2)).bind fun p66=>
(bsP 41 2 1 (Tr.ofListFrom .nil [(sv []),(sv [])] 0) [(0,p66.1)] (onS p66.2)).bind fun p67=>
(apP 41 2 32 p65.1 p67.1 (onS p67.2)).bind fun p68=>
(qaf (.ptr b 0)).bind fun t69=>
(faP 0 true 4 t69).bind fun t70=>
(faP 2 false 1 t70).bind fun t71=>
(stP 1 t71 p68.1 (onS p68.2)).bind fun p72=>
qi7 [(5,[6,7])] S [[],[],[],[],[],p65.2.log,p66.2.log,p67.2.log,p68.2.log,[],[],[],p72.2.log] p72.2 fun S73=>k S73)=k U)/\Rd U b N0 {d with env:=d.env++[p]} n (qdq t) vI v'/\Grew (Own b vI vE) S U:=by
 have ho:=h.on;obtain⟨t6,c1,c2⟩:=h.ex;have hb1:=h.lt; have hb2:=h.hi;obtain⟨U1,e1,e2,e3,e4⟩:=bs_var ho (qg4 p);have on1:=e3.on.trans ho;obtain⟨v',U2,l2,g1,g2,g3,g4⟩:=(h.env.grew e3 fun _ _ h=>h).pushOn on1 (Nat.le_trans hb2 e3.next) (by omega) e2 [];have on2:=g3.on.trans on1
 have hbE:¬qcj vE=some b:=fun e=>by
  rcases h.env with⟨_,rfl⟩|⟨r,rfl,_,_,h6,_⟩
  . cases e
  . cases e; omega
 have cU:AgAt U2 b 58 6 t6:=(c1.grew (by omega) (fun h=>h) e3).grew (by have:=e3.next; omega) hbE g3;have hI2:TLo U2 vI d.ins N0:=(h.ins.grewW e3 fun _ _ h=>h).grewW g3 fun x hx e=>hne x hx e;obtain⟨U3,k1,k2,k3⟩:=put_cell on2 h.lt (by have:=e3.next; have:=g3.next; omega) cU 2 (by decide) v' g4 (d':={d with env:=d.env++[p]}) (n':=n) (last':=qdq t) (vI':=vI) (vE':=v') hI2 g2 ⟨(qgq _ _ _ _ (by decide)).trans c2.nm,(qgq _ _ _ _ (by decide)).trans c2.ins,setS _ _ _,(qgq _ _ _ _ (by decide)).trans c2.scr,(qgq _ _ _ _ (by decide)).trans c2.n,(qgq _ _ _ _ (by decide)).trans c2.last⟩;obtain⟨l3,k1'⟩:=qk4 on2 k1;obtain⟨U,r1,r2,r3,r4⟩:=qf8 ho U3 l3 [[],[],[],[],[],[⟨b,2,2+1,false⟩],[⟨x,0,0+2,false⟩],[⟨S.next,0,big,true⟩],l2,[],[],[],l3];have gU:=Grew.of_eq r2 r3 (r4.trans k2.on.symm);refine⟨U,v',fun k=>?_,k2.grew0 gU,((e3.mono fun _ _ h=>(h:False).elim).trans ((g3.mono fun x _ e=>.inr (.inr e)).trans (k3.mono fun x _ e=>.inl e))).trans (gU.mono fun _ _ h=>(h:False).elim)⟩;simp only[nilP,oB,show faP 0 true 4 (.ptr b 0)=some (.ptr b 0)from rfl,show faP 2 false 1 (.ptr b 0)=some (.ptr b 2)from rfl];rw[qb2,qbj ho (c1.ld1 ho big6 (by decide) c2.env) [],oB];dsimp only;rw[qag,qb2,hx.ldOn big2 [],oB];dsimp only;rw[qag,qb2,e1 [],oB];dsimp only;rw[qag,qb2,g1,oB];dsimp only;rw[qag,qb2,k1',oB];dsimp only
 rw[show(S.lg [⟨b,2,2+1,false⟩]).log=[⟨b,2,2+1,false⟩]from rfl,show(S.lg [⟨x,0,0+2,false⟩]).log=[⟨x,0,0+2,false⟩]from rfl,show(U1.lg [⟨S.next,0,big,true⟩]).log=[⟨S.next,0,big,true⟩]from rfl,show(U2.lg l2).log=l2 from rfl,show(U3.lg l3).log=l3 from rfl,qbw (pairsB3 (by omega) l2 l3),r1]
theorem aft_len2 {w0:Bs} {ws:List Bs} (h:(w0::ws).length=3):∃a b,ws=[a,b]:=by
 match ws,h with
 | [a,b],_=>exact⟨a,b,rfl⟩
 | [],h=>cases h
 | [_],h=>cases h
 | _::_::_::_,h=>simp at h
set_option maxRecDepth 100000 in
theorem f10_run (h:Rd S b N0 d n (qdq t) vI vE) (ht:t<=4) (m:Nat) {vw:V} {w0:Bs} {ws:List Bs} (hw:TL S vw (w0::ws)) (hne:∀x,qcj vI=some x->qcj vE≠some x) (lw:(w0::ws).length<100000) (le:d.env.length<1000) (hs:∀a∈ws,a.length<=20000):Meth S b N0 n vw vI vE t (m+4) 29 (ql9 qdt t d ws):=by
 obtain⟨S1,a1,a2,a3⟩:=lay_run h.on [wDrv,wIn,wEnv] (by decide);have hw1:=hw.grew0 a3;have h1:=h.grew0 a3;have e21:=f21_run h1 m hw1 a2 (by omega) (by decide) 3;have hF:=F29_eq (ev E0 KD (m+3)) qa1 (.ptr b 0) vw S;rw[show bsP 9 1 3 (Ev.one (sv [])) [(0,(sv [100,114,118])),(1,(sv [105,110])),(2,(sv [101,110,118]))] S=some (_,S1)from a1,oB]at hF;dsimp only at hF;rw[show V.int .i64 3=.int .i64 ((3:Nat):Int)from rfl,e21,qdv]at hF;have hq:aftB [wDrv,wIn,wEnv] (qdq t) (w0::ws) 3=(decide (t=1\/t=2\/t=3)&&decide ((w0::ws).length=3)):=by unfold aftB; rw[last13 ht]
 rw[hq]at hF;have g0:Grew (Own b vI vE) S S1:=a3.mono fun _ _ h=>(h:False).elim;by_cases hc:(t=1\/t=2\/t=3)/\(w0::ws).length=3
 . obtain⟨htt,h2⟩:=hc
   obtain⟨a,s,rfl⟩:=aft_len2 h2;rw[dT htt,dT h2,Bool.and_self,iP rfl]at hF;obtain⟨t6,c1,c2⟩:=h1.ex;rw[nilP,oB,show faP 0 true 4 (.ptr b 0)=some (.ptr b 0)from rfl,oB,show faP 2 false 1 (.ptr b 0)=some (.ptr b 2)from rfl,oB,c1.ld1 h1.on big6 (by decide) c2.env,oB]at hF;dsimp only at hF;rw[h1.env.len,oB]at hF;dsimp only at hF;have la:=hs a (by simp);have lss:=hs s (by simp);have hF2:=hF.trans (env_front h1 m hw1 (a:=a) rfl (by omega) le _);rw[sayEnv2];by_cases hv:qdt a=true/\qkz d.env a=true
   . rw[iP hv]at hF2
     rw[iP ⟨htt,hv.1,(lastOk_iff _ _).1 hv.2⟩];have hmid:=env_mid h1 m hw1 (a:=a) (s:=s) rfl rfl lss;cases hd:valD s with
     | none=>
      rw[hd]at hmid;exact⟨S1,4,rq10 (hF2.trans (hmid _)),g0⟩
     | some v=>
      rw[hd]at hmid;obtain⟨U,X,m1,m2,m3,m4⟩:=hmid;have hF3:=hF2.trans (m1 _);dsimp only at hF3;have hU:=h1.grew0 m3;have onU:=hU.on;have gU:Grew (Own b vI vE) S U:=g0.trans (m3.mono fun _ _ h=>(h:False).elim);rw[show faP 1 false 1 (.ptr S1.next 0)=some (.ptr S1.next 1)from rfl,oB,m2.ld1 onU big2 (by decide) (show(qg4 (a,v)).get 1=some (sv v) by unfold qg4; rw[Tr.get_ofList]; rfl),oB]at hF3;dsimp only at hF3;rw[qab,oB]at hF3;dsimp only at hF3;rw[show V.int .i64 200=.int .i64 ((200:Nat):Int)from rfl,leqN,oB,hU.must (m+2) 4,qdv]at hF3;rw[oB];by_cases h200:v.length<=200
      . rw[iP (dT h200)]at hF3
        have hlt:qa4 E0 .lss 3 false true (.int .i64 (d.env.length:Int)) (.int .i64 16)=some (.bool (decide (d.env.length<16))):=by
         rw[binV_ii,intsV_lss]
         congr 2
         simp;omega
        rw[hlt,oB,hU.must (m+2) ((3:Nat):Int),qdv]at hF3;by_cases h16:d.env.length<16
        . rw[iP (dT h16)]at hF3
          rw[iP ⟨h200,h16⟩];obtain⟨Y,v',z1,z2,z3⟩:=env_end hU hne le m2;exact⟨Y,vI,v',rq10 (hF3.trans (z1 _)),z2,gU.trans z3⟩
        . rw[iN (by simpa using h16)]at hF3
          rw[iN fun e=>h16 e.2];exact⟨U,_,rq10 hF3,gU⟩
      . rw[iN (by simpa using h200)]at hF3
        rw[iN fun e=>h200 e.1];exact⟨U,4,rq10 hF3,gU⟩
   . rw[iN hv]at hF2
     rw[iN fun e=>hv ⟨e.2.1,(lastOk_iff _ _).2 e.2.2⟩];exact⟨S1,4,rq10 hF2,g0⟩
 . have hno:ql9 qdt t d ws=none:=by
    unfold ql9;split
    . rw[iN fun e=>hc ⟨e.1,rfl⟩]
    . rfl
   rw[hno]
   have hb:(decide (t=1\/t=2\/t=3)&&decide ((w0::ws).length=3))=false:=by
    by_cases h0:t=1\/t=2\/t=3
    . rw[dF (fun e=>hc ⟨h0,e⟩),Bool.and_false]
    . rw[dF h0]; rfl
   rw[hb,iN (by simp)]at hF;exact⟨S1,4,rq10 hF,g0⟩
end
theorem qcx:4<big:=by unfold big; decide
theorem big1':1<big:=by unfold big; decide
structure DrvT (T:Tr V) (nm:Bs) (vI vE:V) (scr:Bs):Prop where
 nm:T.get 0=some (sv nm)
 ins:T.get 1=some vI
 env:T.get 2=some vE
 scr:T.get 3=some (sv scr)
noncomputable def ZD:Tr V:=Tr.ofListFrom .nil [(sv []),.nilslice,.nilslice,(sv [])] 0
theorem build_25:qd3 E0 25 []=some (.agg 4 ZD):=by kernel_rfl
theorem qfd {c:Tr (Tr V)} {esz off k i:Nat} {acc t:Tr V} {v:V} (h1:c.get ((off+i)/esz)=some t) (h2:t.get ((off+i)%esz)=some v):qf3 c esz off (k+1) i acc=qf3 c esz off k (i+1) (acc.set v i):=by
 rw[qf3,h1];simp only[oB,h2,Tr.setC_eq]
section
variable {S T U W:St} {b N0:Nat} {d:DD} {n:Int} {vI vE:V} {t:Nat}
theorem drv_ld (ho:S.on=false) {t:Tr V} (h1:AgAt S b 58 6 t) {nm scr last:Bs} (h2:RdT t nm vI vE scr n last):∃T,ldA 4 (.ptr b 0) S=some (.agg 4 T,S)/\DrvT T nm vI vE scr:=by
 obtain⟨c,c1,c2⟩:=h1;refine⟨(((Tr.nil.set (sv nm) 0).set vI 1).set vE 2).set (sv scr) 3,?_,⟨?_,?_,?_,?_⟩⟩
 . unfold ldA
   dsimp only;unfold ldK;rw[c1];dsimp only;rw[show(Nat.ble (0+4) (6*1)&&Nat.blt (6*1) big)=true by rw[ble_true.2 (by omega),blt_true.2 (by unfold big; decide)]; rfl,cT];unfold qes;rw[show(Nat.beq 4 6&&Nat.beq (0%6) 0)=false from rfl,cF];rw[qfd (t:=t) (i:=0) c2 h2.nm,qfd (t:=t) (i:=0+1) c2 h2.ins,qfd (t:=t) (i:=0+1+1) c2 h2.env,qfd (t:=t) (i:=0+1+1+1) c2 h2.scr];unfold qf3;rw[oB,qaw ho,oB]
 . rw[qgq _ _ _ _ (by decide),qgq _ _ _ _ (by decide),qgq _ _ _ _ (by decide),setS]
 . rw[qgq _ _ _ _ (by decide),qgq _ _ _ _ (by decide),setS]
 . rw[qgq _ _ _ _ (by decide),setS]
 . rw[setS]
variable {self:EV} {a:Ac} {pd pe:Nat}
theorem lv4 (h2:evO E0 a (.tmp 2)=some (.ptr pd 0)) (h3:evO E0 a (.tmp 3)=some (.ptr pe 0)) (ho:S.on=false) {u:Tr V} {v:V} (hp0:AgAt S pd 25 4 u) (hp1:AgAt S pe 33 1 (Ev.one v)) :
 lvK E0 self Tryz.f11 a [] .ret S=some (.ret (.tuple [.agg 4 u,v]),S):=by
 have h:lvK E0 self Tryz.f11 a [] .ret S=(evO E0 a (.tmp 2)).bind fun v=>(ldRes E0 25 v S).bind fun p=>(evO E0 a (.tmp 3)).bind fun w=>(ldRes E0 33 w p.2).bind fun q=>some (.ret (.tuple [p.1,q.1]),q.2):=by kernel_rfl
 rw[h,h2,oB,show ldRes E0 25 (.ptr pd 0) S=ldrA 4 (.ptr pd 0) S by kernel_rfl,hp0.ldrA ho qcx,oB,h3,oB];dsimp only;rw[show ldRes E0 33 (.ptr pe 0) S=ldr1 (.ptr pe 0) S by kernel_rfl,hp1.ldr_one ho,oB]
theorem fin4 (hd:a.defers=[ad 26 [] [.ptr pd 0,.ptr pe 0]]) (h2:evO E0 a (.tmp 2)=some (.ptr pd 0)) (h3:evO E0 a (.tmp 3)=some (.ptr pe 0)) (ho:S.on=false) {u:Tr V} {v:V} (hp0:AgAt S pd 25 4 u) (hp1:AgAt S pe 33 1 (Ev.one v)) :
 finR E0 self Tryz.f11 a S=some (.ret (.tuple [.agg 4 u,v]),S):=by
 rw[finR_defer hd];refine qnd (ALe.refl a) ?_;rw[E26r,show qa4 E0 .neq 20 false true .niliface .niliface=some (.bool false) by kernel_rfl,oB,ifK_bool,cF];exact lv4 h2 h3 ho hp0 hp1
theorem pan4 {c m:Int} (hd:a.defers=[ad 26 [] [.ptr pd 0,.ptr pe 0]]) (h2:evO E0 a (.tmp 2)=some (.ptr pd 0)) (h3:evO E0 a (.tmp 3)=some (.ptr pe 0)) (ho:S.on=false) {u v:Tr V} (hp0:AgAt S pd 25 4 u) (hp1:AgAt S pe 33 1 v) (h0n:pd<S.next) (h1n:pe<S.next) (h01:pd≠pe) :
 ∃U x,qb9 E0 self Tryz.f11 a a.defers (.pan (qe7 c m)) S=some (.ret (.tuple [.agg 4 ZD,.iface 55 (.ptr x 0)]),U)/\Grew (fun x=>x=pd\/x=pe) S U:=by
 obtain⟨a1,a2,a3⟩:=qbt ho 53 2 (Tr.ofListFrom .nil [(.int .i64 0),(.int .i64 0)] 0);have on1:=a2.on.trans ho;obtain⟨S2,b1,b2,b3,b4⟩:=a1.stA on1 big2 (faultT c m);have on2:=b3.on.trans on1;have g2:Grew (fun _=>False) S S2:=a2.own (lR _) b3;have hp02:=hp0.grew h0n (fun h=>h) g2;have hp12:=hp1.grew h1n (fun h=>h) g2;obtain⟨S3,c1,c2,c3,c4⟩:=hp02.stA on2 qcx ZD;have on3:=c3.on.trans on2;have hp13:=hp12.grew (Nat.lt_of_lt_of_le h1n g2.next) (fun e=>h01 e.symm) c3;obtain⟨S4,d1,d2,d3,d4⟩:=hp13.st_one on3 (.iface 55 (.ptr S.next 0)) rfl rfl rfl;have on4:=d3.on.trans on3;have hp04:=c2.grew (by have:=g2.next; have:=c3.next; omega) (fun e=>h01 e) d3;refine⟨S4,S.next,?_,((g2.mono fun _ _ h=>(h:False).elim).trans (c3.mono fun x _ h=>.inl h)).trans (d3.mono fun x _ h=>.inr h)⟩;rw[hd];refine qnd (ALe.refl a) ?_;rw[E26p,fault_neq,oB,ifK_bool,cT,fault_is,oB,ex0,ex1,oB,oB,oB,qe2,b1,oB];dsimp only;rw[unV_not,oB,Bool.not_true,ifK_bool,cF,build_25,oB,c1,oB];dsimp only;rw[d1,oB];dsimp only;exact lv4 h2 h3 on4 hp04 d2
end
theorem spl_len:∀s:Bs,(qgx s).length<=s.length+1
 | []=>lR _
 | c::s=>by
  have ih:=spl_len s;rw[qgx];split
  . simp; omega
  . split<;>simp_all<;>omega
theorem spl_word:∀(s w:Bs),w∈qgx s->w.length<=s.length
 | [],w,h=>by
  rw[qgx,List.mem_singleton]at h;rw[h]; exact lR _
 | c::s,w,h=>by
  have ih:=spl_word s;rw[qgx]at h;split at h
  . rcases List.mem_cons.1 h with rfl|h
    . simp
    . have:=ih w h; simp; omega
  . cases hs:qgx s with
    | nil=>exact absurd hs (splB_ne s)
    | cons v l=>
     rw[hs]at h ih;rcases List.mem_cons.1 h with rfl|h
     . have:=ih v (List.mem_cons_self ..); simp; omega
     . have:=ih w (mO _ h); simp; omega
noncomputable def esM (b:Nat):List ME:=[{k:=sv wDrv,v:=.fn (.func 27) [.ptr b 0] [],born:=0},{k:=sv wIn,v:=.fn (.func 28) [.ptr b 0] [],born:=1},{k:=sv wEnv,v:=.fn (.func 29) [.ptr b 0] [],born:=2},{k:=sv wRun,v:=.fn (.func 30) [.ptr b 0] [],born:=3}]
def fnW (w:Bs):Option Nat:=if w=wDrv then some 27 else if w=wIn then some 28 else if w=wEnv then some 29 else if w=wRun then some 30 else none
section
variable {S T U W:St} {b N0:Nat} {d:DD} {n:Int} {vI vE:V} {t:Nat}
theorem mfind_w (w:Bs):∃i,qgu (sv w) (esM b) 0=some ((fnW w).map fun f=>(i,.fn (.func f) [.ptr b 0] [])):=by
 have h:qgu (sv w) (esM b) 0=bif sEq w.length (qb3 w) wDrv.length (qb3 wDrv)then some (some (0,.fn (.func 27) [.ptr b 0] []))else bif sEq w.length (qb3 w) wIn.length (qb3 wIn)then some (some (0+1,.fn (.func 28) [.ptr b 0] []))else bif sEq w.length (qb3 w) wEnv.length (qb3 wEnv)then some (some (0+1+1,.fn (.func 29) [.ptr b 0] []))else bif sEq w.length (qb3 w) wRun.length (qb3 wRun)then some (some (0+1+1+1,.fn (.func 30) [.ptr b 0] []))else some none:=rfl;rw[h,qg2,qg2,qg2,qg2];unfold fnW;by_cases h1:w=wDrv
 . rw[iP h1,beq_iff_eq.2 h1]; exact⟨0,rfl⟩
 rw[iN h1,beq_false_of_ne h1];by_cases h2:w=wIn
 . rw[iP h2,beq_iff_eq.2 h2]; exact⟨1,rfl⟩
 rw[iN h2,beq_false_of_ne h2];by_cases h3:w=wEnv
 . rw[iP h3,beq_iff_eq.2 h3]; exact⟨2,rfl⟩
 rw[iN h3,beq_false_of_ne h3];by_cases h4:w=wRun
 . rw[iP h4,beq_iff_eq.2 h4]; exact⟨3,rfl⟩
 rw[iN h4,beq_false_of_ne h4];exact⟨0,rfl⟩
theorem und43:und E0 60=some (.map 9 59):=by kernel_rfl
theorem zero42:qfs E0 59=some .nilfn:=by kernel_rfl
theorem look_w (ho:S.on=false) {r c:Nat} (h:S.heap.get r=some (.map (esM b) c)) (w:Bs) :
 qd0 E0 60 (.map r) (sv w) true S=some (.tuple [match fnW w with|some f=>.fn (.func f) [.ptr b 0] []|none=>.nilfn,.bool (fnW w).isSome],S):=by
 obtain⟨i,hi⟩:=mfind_w (b:=b) w;unfold qd0;rw[und43,oB];simp only;rw[und9,oB];simp only[show qi8 .string (sv w)=true from rfl,cT];rw[qg9 ho h,oB];simp only;rw[oB];dsimp only;rw[hi,oB];cases fnW w with
 | none=>simp only[Option.map_none]; rw[zero42]; rfl
 | some f=>rfl
theorem upd_w (ho:S.on=false) {r clock:Nat} {es:List ME} {k:Bs} {v:V} (h:S.heap.get r=some (.map es clock)) (hf:qgu (sv k) es 0=some none):qbc E0 60 (.map r) (sv k) v S=some (S.put r (.map (es++[{k:=sv k,v:=v,born:=clock}]) (clock+1))):=by
 unfold qbc;rw[und43,oB];simp only;rw[und9,oB];simp only[show qi8 .string (sv k)=true from rfl,cT];rw[qg9 ho h,oB];simp only;rw[hf,oB];simp only;rw[qgh ho]
theorem Rd.ne (h:Rd S b N0 d n (qdq t) vI vE):∀x,qcj vI=some x->qcj vE≠some x:=fun x h1 h2=>by
 rcases h.ins with⟨_,rfl⟩|⟨r,rfl,h3,_⟩
 . cases h1
 . rcases h.env with⟨_,rfl⟩|⟨q,rfl,h4,_⟩
   . cases h2
   . cases h1; cases h2
     obtain⟨c,c1,_⟩:=h3.row;obtain⟨c',c2,_⟩:=h4.row;rw[c1]at c2;cases c2
theorem body_w:(E0.ext.get 27=none/\qat E0 27=true)/\(E0.ext.get 28=none/\qat E0 28=true)/\(E0.ext.get 29=none/\qat E0 29=true)/\(E0.ext.get 30=none/\qat E0 30=true):=⟨⟨by kernel_rfl,by kernel_rfl⟩,⟨by kernel_rfl,by kernel_rfl⟩,⟨by kernel_rfl,by kernel_rfl⟩,by kernel_rfl,by kernel_rfl⟩
theorem say_last {t t':Nat} {d d':DD} {w0:Bs} {ws:List Bs} (h:sayD qcr qai qdt t d (w0::ws)=some (t',d')):qdq t'=w0/\t'<=4/\d'.scr=d.scr:=by
 rw[sayD]at h;split at h
 . rename_i h0
   unfold ql8 at h;split at h
   . split at h
     . simp only[oS,pM]at h
       obtain⟨rfl,rfl⟩:=h;exact⟨h0.symm,by omega,rfl⟩
     . cases h
   . cases h
 split at h
 . rename_i h0
   unfold sayIn at h;split at h
   . split at h
     . simp only[oS,pM]at h
       obtain⟨rfl,rfl⟩:=h;exact⟨h0.symm,by omega,rfl⟩
     . cases h
   . cases h
 split at h
 . rename_i h0
   unfold ql9 at h;split at h
   . split at h
     . rw[oI]at h
       obtain⟨v,_,h⟩:=h;split at h
       . simp only[oS,pM]at h
         obtain⟨rfl,rfl⟩:=h;exact⟨h0.symm,by omega,rfl⟩
       . cases h
     . cases h
   . cases h
 split at h
 . rename_i h0
   unfold sayRun at h;split at h
   . split at h
     . simp only[oS,pM]at h
       obtain⟨rfl,rfl⟩:=h;exact⟨h0.symm,by omega,rfl⟩
     . cases h
   . cases h
 . cases h
theorem say_run (h:Rd S b N0 d n (qdq t) vI vE) (ht:t<=4) (m:Nat) {vw:V} {w0:Bs} {ws:List Bs} (hw:TL S vw (w0::ws)) (hwo:∀r,qcj vw=some r->¬Own b vI vE r) (lw:(w0::ws).length<100000) (li:d.ins.length<1000) (le:d.env.length<1000) (hs:∀a∈ws,a.length<=20000) :
 match fnW w0 with
 | some f=>(∀S args,qc2 E0 (ev E0 KD (m+4)) (.fn (.func f) [.ptr b 0] []) args S=(ev E0 KD (m+4)).f f (.ptr b 0::args) S)/\Meth S b N0 n vw vI vE t (m+4) f (sayD qcr qai qdt t d (w0::ws))
 | none=>sayD qcr qai qdt t d (w0::ws)=none:=by
 rw[sayD];unfold fnW;by_cases h1:w0=wDrv
 . rw[iP h1,iP h1]
   exact⟨fun S args=>by rw[qb6 body_w.1.1 body_w.1.2,List.append_nil]; rfl,f8_run h ht m hw lw fun a ha=>by have:=hs a ha; omega⟩
 rw[iN h1,iN h1];by_cases h2:w0=wIn
 . rw[iP h2,iP h2]
   exact⟨fun S args=>by rw[qb6 body_w.2.1.1 body_w.2.1.2,List.append_nil]; rfl,f9_run h ht m hw hwo h.ne lw li fun a ha=>by have:=hs a ha; omega⟩
 rw[iN h2,iN h2];by_cases h3:w0=wEnv
 . rw[iP h3,iP h3]
   exact⟨fun S args=>by rw[qb6 body_w.2.2.1.1 body_w.2.2.1.2,List.append_nil]; rfl,f10_run h ht m hw h.ne lw le hs⟩
 rw[iN h3,iN h3];by_cases h4:w0=wRun
 . rw[iP h4,iP h4]
   exact⟨fun S args=>by rw[qb6 body_w.2.2.2.1 body_w.2.2.2.2,List.append_nil]; rfl,f11_run h ht m hw lw⟩
 rw[iN h4,iN h4]
end
def Out (r:Rs) (S:St) (pd N0:Nat):Option DD->Prop
 | some d=>∃U T vI vE,r=some (.ret (.tuple [.agg 4 T,.niliface]),U)/\DrvT T d.nm vI vE d.scr/\TLo U vI d.ins N0/\VLo U vE d.env N0/\U.on=false/\Grew (fun x=>pd<=x) S U
 | none=>∃U x,r=some (.ret (.tuple [.agg 4 ZD,.iface 55 (.ptr x 0)]),U)/\Grew (fun x=>pd<=x) S U
section
variable {S T U W:St} {b N0:Nat} {d:DD} {n:Int} {vI vE:V} {t:Nat}
theorem Out.from {S S':St} {r:Rs} {pd N0:Nat} {o:Option DD} (g:Grew (fun x=>pd<=x) S S') (h:Out r S' pd N0 o):Out r S pd N0 o:=by
 cases o with
 | none=>obtain⟨U,x,h1,h2⟩:=h; exact⟨U,x,h1,g.trans h2⟩
 | some d=>obtain⟨U,T,vI,vE,h1,h2,h3,h4,h5,h6⟩:=h; exact⟨U,T,vI,vE,h1,h2,h3,h4,h5,g.trans h6⟩
structure Round (S:St) (pd pe rm b N0:Nat):Prop where
 de:pd<pe
 eb:pe<b
 dm:pd<rm
 mN:rm<N0
 mb:rm≠b
 me:rm≠pe
 d:∃u,AgAt S pd 25 4 u
 e:∃u,AgAt S pe 33 1 u
 m:∃c,S.heap.get rm=some (.map (esM b) c)
theorem Round.grew {W:Nat->Prop} {pd pe rm:Nat} (h:Round S pd pe rm b N0) (hN:N0<=S.next) (hb:b<N0) (g:Grew W S U) (hw:∀x,W x->x=b\/N0<=x):Round U pd pe rm b N0:=by
 have h1:=h.de; have h2:=h.eb; have h3:=h.dm; have h4:=h.mN; have h5:=h.mb; have h6:=h.me;obtain⟨u,hu⟩:=h.d;obtain⟨v,hv⟩:=h.e;obtain⟨c,hc⟩:=h.m;refine⟨h1,h2,h3,h4,h5,h6,⟨u,hu.grew (by omega) (fun hx=>?_) g⟩,⟨v,hv.grew (by omega) (fun hx=>?_) g⟩,⟨c,?_⟩⟩
 . rcases hw _ hx with h|h<;>omega
 . rcases hw _ hx with h|h<;>omega
 . rw[g.keep rm (by omega) (fun hx=>by rcases hw _ hx with h|h<;>omega)]
   exact hc
theorem Rd.own_hi (h:Rd S b N0 d n (qdq t) vI vE) {x:Nat} (hx:Own b vI vE x):x=b\/N0<=x:=by
 rcases hx with rfl|hx|hx
 . exact .inl rfl
 . rcases h.ins with⟨_,rfl⟩|⟨r,rfl,_,_,h3,_⟩
   . cases hx
   . cases hx; exact .inr h3
 . rcases h.env with⟨_,rfl⟩|⟨r,rfl,_,_,h3,_⟩
   . cases hx
   . cases hx; exact .inr h3
theorem neq_run {t:Nat} (ht:t<=4):qa4 E0 .neq 9 false true (sv (qdq t)) (sv [114,117,110])=some (.bool (!decide (t=4))):=by
 rw[qlj]
 match t,ht with
 | 0,_|1,_|2,_|3,_|4,_=>rfl
set_option maxRecDepth 100000 in
theorem parse_end {pd pe rm:Nat} (m N:Nat) (hR:Round S pd pe rm b N0) (h:Rd S b N0 d n (qdq 4) vI vE) (s:Bs) (nk:Ac->St->Rs) (hnk:nk=qb5 E0 (ev E0 KD (m+5)) Tryz.f11) (ek:Nat->Ac->St->Rs) :
 Out (R11_22 (ev E0 KD (m+5)) N nk ek (frD 83 [(0,sv s),(2,.ptr pd 0),(3,.ptr pe 0),(4,.ptr b 0)] [ad 26 [] [.ptr pd 0,.ptr pe 0]]) S) S pd N0 (if s.length<=4000 then some {d with scr:=s}else none):=by
 have hN:=h.hi;have hb:=h.lt;have h1:=hR.de; have h2:=hR.eb;have ho:=h.on;obtain⟨u,hu⟩:=hR.d;obtain⟨v,hv⟩:=hR.e;rw[R11_22_eq,qab,oB];dsimp only;rw[show V.int .i64 4000=.int .i64 ((4000:Nat):Int)from rfl,leqN,oB,h.must (m+4) 3];by_cases hl:s.length<=4000
 . rw[iP (dT hl),iP hl,qdh,nilP,oB,show faP 0 true 4 (.ptr b 0)=some (.ptr b 0)from rfl,oB,show faP 3 false 1 (.ptr b 0)=some (.ptr b 3)from rfl,oB]
   obtain⟨U,k1,k2,k3⟩:=h.put 3 (by decide) (sv s) (qep s) (d':={d with scr:=s}) (n':=n) (last':=qdq 4) (vI':=vI) (vE':=vE) h.ins h.env (fun t ht=>⟨(qgq _ _ _ _ (by decide)).trans ht.nm,(qgq _ _ _ _ (by decide)).trans ht.ins,(qgq _ _ _ _ (by decide)).trans ht.env,setS _ _ _,(qgq _ _ _ _ (by decide)).trans ht.n,(qgq _ _ _ _ (by decide)).trans ht.last⟩);have onU:=k2.on;have nU:=k3.next
   rw[k1,oB];dsimp only;rw[oB,show faP 0 true 4 (.ptr b 0)=some (.ptr b 0)from rfl,oB];obtain⟨t6,c1,c2⟩:=k2.ex;obtain⟨T,d1,d2⟩:=drv_ld onU c1 c2;rw[d1,oB];dsimp only;have hu':=hu.grew (by omega) (by omega) k3;have hv':=hv.grew (by omega) (by omega) k3;obtain⟨X,x1,x2,x3,x4⟩:=hu'.stA onU qcx T;have onX:=x3.on.trans onU;rw[x1,oB];dsimp only;have hv2:=hv'.grew (by omega) (by omega) x3;obtain⟨Y,y1,y2,y3,y4⟩:=hv2.st_one onX .niliface rfl rfl rfl;rw[y1,oB];dsimp only
   have gI:∀x,qcj vI=some x->N0<=x:=fun x hx=>by
    rcases h.ins with⟨_,rfl⟩|⟨r,rfl,_,_,h6,_⟩
    . cases hx
    . cases hx; exact h6
   have gE:∀x,qcj vE=some x->N0<=x:=fun x hx=>by
    rcases h.env with⟨_,rfl⟩|⟨r,rfl,_,_,h6,_⟩
    . cases hx
    . cases hx; exact h6
   refine⟨Y,T,vI,vE,fin4 rfl (by kernel_rfl) (by kernel_rfl) (y3.on.trans onX) (x2.grew (by omega) (by omega) y3) y2,d2,?_,?_,y3.on.trans onX,(k3.mono fun x _ e=>by omega).trans ((x3.mono fun x _ e=>by omega).trans (y3.mono fun x _ e=>by omega))⟩
   . exact(k2.ins.grewW x3 fun x hx e=>by have:=gI x hx; omega).grewW y3 fun x hx e=>by have:=gI x hx; omega
   . exact(k2.env.grew x3 fun x hx e=>by have:=gE x hx; omega).grew y3 fun x hx e=>by have:=gE x hx; omega
 . rw[iN (by simpa using hl),iN hl,qht]
   obtain⟨U,x,k1,k2⟩:=pan4 (self:=ev E0 KD (m+5)) (a:=frD 83 [(0,sv s),(2,.ptr pd 0),(3,.ptr pe 0),(4,.ptr b 0),(69,.ptr b 0),(70,sv s),(71,.int .i64 (s.length:Int)),(72,.bool (decide (s.length<=4000)))] [ad 26 [] [.ptr pd 0,.ptr pe 0]]) (c:=3) (m:=n) rfl (by kernel_rfl) (by kernel_rfl) ho hu hv (by omega) (by omega) (by omega);exact⟨U,x,k1,k2.mono fun x _ hx=>by omega⟩
end
section
variable {S T U W:St} {b N0:Nat} {d:DD} {n:Int} {vI vE:V} {t:Nat}
theorem pan_out {pd pe rm:Nat} {c q:Int} (m:Nat) (hR:Round S pd pe rm b N0) (hN:N0<=S.next) (hb:b<N0) (ho:S.on=false) {a:Ac} (hd:a.defers=[ad 26 [] [.ptr pd 0,.ptr pe 0]]) (h2:evO E0 a (.tmp 2)=some (.ptr pd 0)) (h3:evO E0 a (.tmp 3)=some (.ptr pe 0)) :
 Out (qb9 E0 (ev E0 KD (m+5)) Tryz.f11 a a.defers (.pan (qe7 c q)) S) S pd N0 none:=by
 have h1:=hR.de; have h4:=hR.dm; have h5:=hR.mN; have h6:=hR.eb;obtain⟨u,hu⟩:=hR.d;obtain⟨v,hv⟩:=hR.e;obtain⟨U,x,k1,k2⟩:=pan4 (self:=ev E0 KD (m+5)) (a:=a) (c:=c) (m:=q) hd h2 h3 ho hu hv (by omega) (by omega) (by omega);exact⟨U,x,k1,k2.mono fun x _ hx=>by omega⟩
set_option maxRecDepth 100000 in
theorem parse_loop {pd pe rm:Nat} (m N:Nat) (nk:Ac->St->Rs) (hnk:nk=qb5 E0 (ev E0 KD (m+5)) Tryz.f11) :
 ∀(f t:Nat) (d:DD) (s:Bs) (k i:Nat) (S:St) (vI vE:V),Round S pd pe rm b N0->Rd S b N0 d (k:Int) (qdq t) vI vE->Iv qcr qai qdt t d->s.length<f->k+s.length<=20000->s.length<i->
 Out (L11_40 (ev E0 KD (m+5)) N (R11_22 (ev E0 KD (m+5)) N nk qak) (exB 0 (R11_22 (ev E0 KD (m+5)) N nk qak) qak) i [ad 26 [] [.ptr pd 0,.ptr pe 0]] (sv s) (.ptr pd 0) (.ptr pe 0) (.ptr b 0) (.map rm) S) S pd N0 (prsL qcr qai qdt f t d s)
 | 0,_,_,_,_,_,_,_,_,_,_,_,hf,_,_=>by omega
 | f+1,_,_,_,_,0,_,_,_,_,_,_,_,_,hi=>by omega
 | f+1,t,d,s,k,i+1,S,vI,vE,hR,h,hI,hf,hk,hi=>by
  have ht:=hI.t4;have hN:=h.hi;have hb:=h.lt;have ho:=h.on;obtain⟨t6,c1,c2⟩:=h.ex;rw[L11_40_eq,nilP,oB,show faP 5 false 1 (.ptr b 0)=some (.ptr b 5)from rfl,oB,c1.ld1 ho big6 (by decide) c2.last,oB];dsimp only;rw[neq_run ht,oB,ifK_bool,prsL];by_cases h4:t=4
  . subst h4
    rw[iP rfl,show(!decide (4=4))=false from rfl,cF,exB_same];exact parse_end m N hR h s nk hnk qak
  . rw[iN h4,dF h4,nF,cT,show ev E0 KD (m+5)=ev E0 KD (m+1+4)from rfl,f12_run ho (m+1) s (by omega),qdh,ex0,oB,ex1,oB,ex2,oB]
    have hl:(qj8 s).1.length<=s.length:=by
     cases hc:(qj8 s).2 with
     | none=>
      have:(qj8 s).1=s:=by
       cases hf:s.findIdx? (fun x=>x==10)with
       | none=>rw[cut_none s hf]
       | some j=>obtain⟨_,e⟩:=cut_some s j hf; rw[e]at hc; cases hc
      rw[this]; exact lR _
     | some r=>
      have:=congrArg List.length (qmu s hc);rw[lAq,List.length_cons]at this;omega
    obtain⟨S1,a1,a2,a3⟩:=f13_run ho m (qj8 s).1 (by omega);have h1:=h.grew0 a3;have hR1:=hR.grew hN hb a3 fun _ hx=>(hx:False).elim;have on1:=h1.on;rw[show ev E0 KD (m+1+4)=ev E0 KD (m+5)from rfl,a1,qdh];have hsl:=spl_len (qj8 s).1;have hsw:=spl_word (qj8 s).1;cases hsp:qgx (qj8 s).1 with
    | nil=>exact absurd hsp (splB_ne _)
    | cons w0 ws=>
     rw[hsp]at a2 hsl hsw;have hN1:=h1.hi;obtain⟨p,p1,p2⟩:=w_ix a2 on1 (i:=0) (a:=w0) rfl;rw[show V.int .i64 0=.int .i64 ((0:Nat):Int)from rfl,p1,oB,p2,oB];dsimp only;obtain⟨mc,hm⟩:=hR1.m;rw[look_w on1 hm,oB];dsimp only;rw[ex0,oB,ex1,oB,h1.must (m+4) 18]
     have hwo:∀r,qcj (V.slice S.next 0 (w0::ws).length (w0::ws).length)=some r->¬Own b vI vE r:=fun r hr hx=>by
      have:=h.own_lt hx;cases hr;omega
     have hsay:=say_run h1 ht (m+1) a2 hwo (by omega) (by have:=hI.lins; omega) (by have:=hI.lenv; omega) (fun a ha=>by have:=hsw a (mO _ ha); omega);have g1:Grew (fun x=>pd<=x) S S1:=a3.mono fun _ _ h=>(h:False).elim;cases hfw:fnW w0 with
     | none=>
      rw[hfw]at hsay;rw[hsay,Option.bind_none,iN (by simp),qht];exact Out.from g1 (pan_out m hR1 hN1 hb on1 rfl (by kernel_rfl) (by kernel_rfl))
     | some fm=>
      rw[hfw]at hsay;obtain⟨hcall,hmeth⟩:=hsay;rw[iP (show(some fm).isSome=true from rfl),qdh];dsimp only;have hcall':=hcall S1 [V.slice S.next 0 (w0::ws).length (w0::ws).length];rw[show ev E0 KD (m+1+4)=ev E0 KD (m+5)from rfl]at hcall';rw[hcall'];cases hsd:sayD qcr qai qdt t d (w0::ws)with
      | none=>
       rw[hsd]at hmeth;obtain⟨U,c,u1,u2⟩:=hmeth;have hu:=hR1.grew hN1 hb u2 fun x hx=>h1.own_hi hx;have gU:Grew (fun x=>pd<=x) S1 U:=u2.mono fun x _ hx=>by have:=h1.own_hi hx; have:=hR.de; have:=hR.eb; have:=hR.dm; have:=hR.mN; omega
       rw[show(ev E0 KD (m+5)).f fm [.ptr b 0,V.slice S.next 0 (w0::ws).length (w0::ws).length] S1=_ from u1,qht,Option.bind_none];exact Out.from g1 (Out.from gU (pan_out m hu (Nat.le_trans hN1 u2.next) hb (u2.on.trans on1) rfl (by kernel_rfl) (by kernel_rfl)))
      | some q=>
       obtain⟨t',d'⟩:=q;rw[hsd]at hmeth;obtain⟨U,vI',vE',u1,u2,u3⟩:=hmeth;have hu:=hR1.grew hN1 hb u3 fun x hx=>h1.own_hi hx;have gU:Grew (fun x=>pd<=x) S1 U:=u3.mono fun x _ hx=>by have:=h1.own_hi hx; have:=hR.de; have:=hR.eb; have:=hR.dm; have:=hR.mN; omega
       rw[show(ev E0 KD (m+5)).f fm [.ptr b 0,V.slice S.next 0 (w0::ws).length (w0::ws).length] S1=_ from u1,qdh,u2.must (m+4) 4,oB];cases hc:(qj8 s).2 with
       | none=>
        rw[iN (by simp),qht,Option.bind_none];exact Out.from g1 (Out.from gU (pan_out m hu u2.hi hb u2.on rfl (by kernel_rfl) (by kernel_rfl)))
       | some r=>
        have hlr:=cutB_len s hc;rw[iP (show(some r).isSome=true from rfl),qdh,oB,oB];have hwU:TL U (V.slice S.next 0 (w0::ws).length (w0::ws).length) (w0::ws):=a2.grew (fun r' e hr _ hx=>hwo r' hr hx) u3;obtain⟨p',q1,q2⟩:=w_ix hwU u2.on (i:=0) (a:=w0) rfl;rw[p1]at q1;cases q1;obtain⟨hl0,hl1,hl2⟩:=say_last hsd;rw[q2,oB];dsimp only;rw[oB,show faP 5 false 1 (.ptr b 0)=some (.ptr b 5)from rfl,oB];obtain⟨X,x1,x2,x3⟩:=u2.put 5 (by decide) (sv w0) (qep w0) (d':=d') (n':=(k:Int)) (last':=qdq t') (vI':=vI') (vE':=vE') u2.ins u2.env (fun t ht=>⟨(qgq _ _ _ _ (by decide)).trans ht.nm,(qgq _ _ _ _ (by decide)).trans ht.ins,(qgq _ _ _ _ (by decide)).trans ht.env,(qgq _ _ _ _ (by decide)).trans ht.scr,(qgq _ _ _ _ (by decide)).trans ht.n,by rw[hl0]; exact setS _ _ _⟩);have hX:=hu.grew u2.hi hb x3 fun x hx=>.inl hx;rw[x1,oB];dsimp only;obtain⟨t7,y1,y2⟩:=x2.ex;rw[oB,show faP 4 false 1 (.ptr b 0)=some (.ptr b 4)from rfl,oB,y1.ld1 x2.on big6 (by decide) y2.n,oB];dsimp only;rw[qds (by omega),oB,oB,show faP 4 false 1 (.ptr b 0)=some (.ptr b 4)from rfl,oB]
        obtain⟨Y,z1,z2,z3⟩:=x2.put 4 (by decide) (.int .i64 ((k+1:Nat):Int)) ⟨rfl,rfl,rfl,rfl⟩ (d':=d') (n':=((k+1:Nat):Int)) (last':=qdq t') (vI':=vI') (vE':=vE') x2.ins x2.env (fun t ht=>⟨(qgq _ _ _ _ (by decide)).trans ht.nm,(qgq _ _ _ _ (by decide)).trans ht.ins,(qgq _ _ _ _ (by decide)).trans ht.env,(qgq _ _ _ _ (by decide)).trans ht.scr,setS _ _ _,(qgq _ _ _ _ (by decide)).trans ht.last⟩);have hY:=hX.grew x2.hi hb z3 fun x hx=>.inl hx;rw[z1,oB];dsimp only;obtain⟨i1,_,_⟩:=say_ok (s:=(qj8 s).1) hI (by rw[hsp]; exact hsd);have gb:Grew (fun x=>pd<=x) U Y:=(x3.trans z3).mono fun x _ hx=>by have:=hR.de; have:=hR.eb; omega
        exact Out.from g1 (Out.from gU (Out.from gb (parse_loop m N nk hnk f t' d' r (k+1) i Y vI' vE' hY z2 i1 (by omega) (by omega) (by omega))))
end
theorem build_58:qd3 E0 58 []=some (vAgg [sv [],.nilslice,.nilslice,sv [],.int .i64 0,sv []]):=by kernel_rfl
section
variable {S:St}
theorem qm5 (ho:S.on=false) {r clock:Nat} {es:List ME} {k:Bs} {v:V} (h:S.heap.get r=some (.map es clock)) (hf:qgu (sv k) es 0=some none):∃U,vu (qbc E0 60 (.map r) (sv k) v S)=some (.tuple [],U)/\U.heap.get r=some (.map (es++[{k:=sv k,v:=v,born:=clock}]) (clock+1))/\Grew (fun x=>x=r) S U/\U.next=S.next:=
 ⟨_,by rw[upd_w ho h hf]; rfl,by rw[qc1,iP rfl],qcu _ _,rfl⟩
set_option maxRecDepth 100000 in
theorem parse_run (ho:S.on=false) (m:Nat) (s:Bs) (hs:s.length<=20000):∃N0,S.next<N0/\Out ((ev E0 KD (m+6)).f 11 [sv s] S) S S.next N0 (prsD qcr qai qdt s):=by
 obtain⟨a1,a2,a3⟩:=qbt ho 25 4 ZD;have on1:=a2.on.trans ho;have hF:=F11_eq (ev E0 KD (m+5)) qa1 (sv s) S;rw[oB,qe2,show nwP 25 4 (Tr.ofListFrom .nil [(sv []),.nilslice,.nilslice,(sv [])] 0) S=nwP 25 4 ZD S from rfl]at hF;generalize (nwP 25 4 ZD S).2=S1 at a1 a2 a3 on1 hF;obtain⟨b1,b2,b3⟩:=qbt on1 33 1 (Ev.one .niliface);have on2:=b2.on.trans on1;rw[oB,qe2]at hF;generalize (nwP 33 1 (Ev.one .niliface) S1).2=S2 at b1 b2 b3 on2 hF;rw[build_58,oB]at hF;obtain⟨S3,c1,c2,c3,c4⟩:=box_new on2 58 [sv [],.nilslice,.nilslice,sv [],.int .i64 0,sv []];have on3:=c3.on.trans on2;rw[c1,oB]at hF;dsimp only at hF;rw[show qi0 E0 60 none S3=some (.map S3.next,nw S3 (.map [] 0))from rfl,oB]at hF;dsimp only at hF;have g4:=qc9 on3 (fun _=>False) (.map [] 0);have h4:(nw S3 (.map [] 0)).heap.get S3.next=some (.map [] 0):=by rw[qe9,iP rfl]
 have on4:(nw S3 (.map [] 0)).on=false:=nw_on on3 _;have n4:(nw S3 (.map [] 0)).next=S3.next+1:=rfl
 generalize nw S3 (.map [] 0)=S4 at g4 h4 on4 n4 hF;obtain⟨S5,u5,h5,g5,n5⟩:=qm5 (k:=wDrv) (v:=.fn (.func 27) [.ptr S2.next 0] []) on4 h4 rfl;have on5:=g5.on.trans on4;rw[show vu (qbc E0 60 (.map S3.next) (sv [100,114,118]) (.fn (.func 27) [.ptr S2.next 0] []) S4)=_ from u5,oB]at hF;dsimp only at hF;obtain⟨S6,u6,h6,g6,n6⟩:=qm5 (k:=wIn) (v:=.fn (.func 28) [.ptr S2.next 0] []) on5 h5 rfl;have on6:=g6.on.trans on5;rw[show vu (qbc E0 60 (.map S3.next) (sv [105,110]) (.fn (.func 28) [.ptr S2.next 0] []) S5)=_ from u6,oB]at hF;dsimp only at hF;obtain⟨S7,u7,h7,g7,n7⟩:=qm5 (k:=wEnv) (v:=.fn (.func 29) [.ptr S2.next 0] []) on6 h6 rfl;have on7:=g7.on.trans on6;rw[show vu (qbc E0 60 (.map S3.next) (sv [101,110,118]) (.fn (.func 29) [.ptr S2.next 0] []) S6)=_ from u7,oB]at hF;dsimp only at hF;obtain⟨S8,u8,h8,g8,n8⟩:=qm5 (k:=wRun) (v:=.fn (.func 30) [.ptr S2.next 0] []) on7 h7 rfl;have on8:=g8.on.trans on7;rw[show vu (qbc E0 60 (.map S3.next) (sv [114,117,110]) (.fn (.func 30) [.ptr S2.next 0] []) S7)=_ from u8,oB]at hF;dsimp only at hF;have gm:Grew (fun x=>x=S3.next) S3 S8:=(((g4.mono fun _ _ h=>(h:False).elim).trans (g5.trans (g6.trans (g7.trans g8)))))
 have hag:AgAt S8 S2.next 58 6 (Tr.ofListFrom .nil [sv [],.nilslice,.nilslice,sv [],.int .i64 0,sv []] 0):=by
  refine AgAt.grew (s:=S3) ⟨_,c2,?_⟩ (by omega) (by omega) gm;rw[Tr.get_ofList]; rfl
 have hp0:AgAt S8 S.next 25 4 ZD:=(((a1.grew (by omega) (fun h=>h) b2).grew (by omega) (fun h=>h) c3).grew (by omega) (by omega) gm)
 have hp1:AgAt S8 S1.next 33 1 (Ev.one .niliface):=((b1.grew (by omega) (fun h=>h) c3).grew (by omega) (by omega) gm)
 have hRd:Rd S8 S2.next S8.next ⟨[],[],[],[]⟩ ((0:Nat):Int) (qdq 0) .nilslice .nilslice:=⟨on8,by omega,lR _,⟨_,hag,⟨by rw[Tr.get_ofList]; rfl,by rw[Tr.get_ofList]; rfl,by rw[Tr.get_ofList]; rfl,by rw[Tr.get_ofList]; rfl,by rw[Tr.get_ofList]; rfl,by rw[Tr.get_ofList]; rfl⟩⟩,.inl ⟨rfl,rfl⟩,.inl ⟨rfl,rfl⟩⟩
 have hRo:Round S8 S.next S1.next S3.next S2.next S8.next:=⟨by omega,by omega,by omega,by omega,by omega,by omega,⟨_,hp0⟩,⟨_,hp1⟩,⟨_,h8⟩⟩
 have hIv:Iv qcr qai qdt 0 ⟨[],[],[],[]⟩:=⟨by omega,fun h=>by omega,rfl,rfl,by simp,rfl,rfl,by simp,fun _=>rfl,fun _=>rfl⟩
 have hL:=parse_loop m qa1 (qb5 E0 (ev E0 KD (m+5)) Tryz.f11) rfl (s.length+2) 0 ⟨[],[],[],[]⟩ s 0 qa1 S8 _ _ hRo hRd hIv (by omega) (by omega) (by unfold qa1; omega);refine⟨S8.next,by omega,?_⟩;have gA:Grew (fun x=>S.next<=x) S S8:=((((a2.trans b2).trans c3).mono fun _ _ h=>(h:False).elim).trans (gm.mono fun x _ e=>by omega))
 have hO:=Out.from gA hL;have key:∀r,F11 (ev E0 KD (m+5)) qa1 (sv s) S=some r->(ev E0 KD (m+6)).f 11 [sv s] S=some r:=fun r e=>rq4 e;unfold prsD;cases hp:prsL qcr qai qdt (s.length+2) 0 ⟨[],[],[],[]⟩ s with
 | none=>
  rw[hp]at hO;obtain⟨U,x,k1,k2⟩:=hO;exact⟨U,x,key _ (hF.trans k1),k2⟩
 | some d=>
  rw[hp]at hO;obtain⟨U,T,vI,vE,k1,k2⟩:=hO;exact⟨U,T,vI,vE,key _ (hF.trans k1),k2⟩
end
section
variable {S T U:St} {q pn N:Nat} {d:DD} {vI vE vN:V} {Tt:Tr V}
structure Dv (S:St) (q N:Nat) (Tt:Tr V) (d:DD) (vI vE:V):Prop where
 on:S.on=false
 lt:q<S.next
 ag:AgAt S q 25 4 Tt
 t:DrvT Tt d.nm vI vE d.scr
 ins:TLo S vI d.ins N
 env:VLo S vE d.env N
 li:d.ins.length<=1000
 le:d.env.length<=1000
 ln:d.nm.length<=20000
 lp:∀p∈d.ins,p.length<=20000
 lv:∀p∈d.env,p.1.length<=20000
 lw:∀p∈d.env,p.2.length<=1000
 ls:d.scr.length<=20000
theorem Dv.grew0 (h:Dv S q N Tt d vI vE) (g:Grew (fun _=>False) S U):Dv U q N Tt d vI vE:=
 ⟨g.on.trans h.on,Nat.lt_of_lt_of_le h.lt g.next,h.ag.grew h.lt (fun h=>h) g,h.t,h.ins.grew g,h.env.grew g fun _ _ h=>h,h.li,h.le,h.ln,h.lp,h.lv,h.lw,h.ls⟩
theorem f30_run (h:Dv S q N Tt d vI vE) (m:Nat):(ev E0 KD (m+2)).f 39 [.ptr q 0] S=some (.ret (.bool (qcr d.nm)),S):=rq30 (by
 show F39 (ev E0 KD (m+1)) qa1 (.ptr q 0) S=_;rw[F39_eq,show faP 0 false 1 (.ptr q 0)=some (.ptr q 0)from rfl,oB,h.ag.ld1 h.on qcx (by decide) h.t.nm,oB];dsimp only
 rw[check_k m d.nm (by have:=h.ln; omega) S,callP_ret,chk_eql,oB])
theorem f31_run (h:Dv S q N Tt d vI vE) (m:Nat):(ev E0 KD (m+1)).f 40 [.ptr q 0] S=some (.ret (.bool (decide (d.ins.length<=8/\d.env.length<=16))),S):=rq31 (by
 show F40 (ev E0 KD m) qa1 (.ptr q 0) S=_;have e1:qa4 E0 .leq 3 false true (.int .i64 (d.ins.length:Int)) (.int .i64 8)=some (.bool (decide (d.ins.length<=8))):=leqN _ 8;have e2:qa4 E0 .leq 3 false true (.int .i64 (d.env.length:Int)) (.int .i64 16)=some (.bool (decide (d.env.length<=16))):=leqN _ 16;rw[F40_eq,show faP 1 false 1 (.ptr q 0)=some (.ptr q 1)from rfl,oB,h.ag.ld1 h.on qcx (by decide) h.t.ins,oB];dsimp only;rw[h.ins.tl.len,oB];dsimp only;rw[e1,oB];by_cases h8:d.ins.length<=8
 . rw[dT h8]
   simp only[qam,oB,cT,pickV_bool,show faP 2 false 1 (.ptr q 0)=some (.ptr q 2)from rfl,h.ag.ld1 h.on qcx (show 2<4 by decide) h.t.env,h.env.len,e2,h8,true_and]
 . rw[dF h8,dF (fun e=>h8 e.1)]
   rfl)
theorem body34:E0.ext.get 43=none/\qat E0 43=true:=⟨by kernel_rfl,by kernel_rfl⟩
theorem f34_run (m:Nat) (s:Bs) (hs:s.length<=20000) (S:St):(ev E0 KD (m+2)).f 43 [sv s] S=some (.ret (.bool (!qai s)),S):=rq34 (by
 show F43 (ev E0 KD (m+1)) qa1 (sv s) S=_
 rw[F43_eq,path_k m s (by omega) S,callP_ret,unV_not,oB])
theorem L59_spec {m M:Nat} (ho:S.on=false) (nk:Ac->St->Rs) (ek:Nat->Ac->St->Rs) {v:V} {l:List Bs} (h:TL S v l) (hl:l.length<=1000) (hp:∀p∈l,p.length<=20000) :
 ∀(r:List Bs) (i n:Nat),l.drop i=r->r.length<n->
 ∃j:Nat,L77_6 (ev E0 KD (m+2)) M nk ek n v (.fn (.func 43) [] []) (.int .i64 (l.length:Int)) (.int .i64 (i:Int)) S=if r.all qai then ek 0 (fr 19 []) S else some (.ret (.int .i64 (j:Int)),S)
 | _,_,0,_,hn=>by omega
 | [],i,n+1,hi,_=>⟨0,by
  rw[L77_6_eq,qff,dF (Nat.not_lt.2 (qbe hi)),oB,ifK_bool,cF]
  rfl⟩
 | a::r,i,n+1,hi,hn=>by
  obtain⟨hlt,hc,hr',hm⟩:=qbv hi;obtain⟨j,ih⟩:=L59_spec (m:=m) (M:=M) ho nk ek h hl hp r (i+1) n hr' (by simpa using hn);obtain⟨p,x1,x2⟩:=h.ld ho (show l[i]?=some a by rw[List.getElem?_eq_getElem hlt,hc]);rw[L77_6_eq,qff,dT hlt,oB,ifK_bool,cT,x1,oB,x2,oB];dsimp only;rw[qb6 body34.1 body34.2];show ∃j:Nat,(qaa ((ev E0 KD (m+2)).f 43 [sv a] S) _)=_;rw[f34_run m a (hp a hm) S,callP_ret,ifK_bool,List.all_cons];cases qai a with
  | false=>exact⟨i,rfl⟩
  | true=>exact⟨j,by rw[Bool.not_true,cF,qds (by omega),oB,ih,Bool.true_and]⟩
theorem f32_run (h:Dv S q N Tt d vI vE) (m:Nat):(ev E0 KD (m+5)).f 41 [.ptr q 0] S=some (.ret (.bool (d.ins.all qai)),S):=rq32 (by
 show F41 (ev E0 KD (m+4)) qa1 (.ptr q 0) S=_;obtain⟨j,hj⟩:=L59_spec (m:=m) (M:=qa1) h.on (R77_1 (ev E0 KD (m+2)) qa1 (qb5 E0 (ev E0 KD (m+2)) Tryz.f77) qak) (exB 0 (R77_1 (ev E0 KD (m+2)) qa1 (qb5 E0 (ev E0 KD (m+2)) Tryz.f77) qak) qak) h.ins.tl h.li h.lp d.ins 0 qa1 rfl (by have:=h.li; unfold qa1; omega)
 have h59:(ev E0 KD (m+3)).f 77 [vI,.fn (.func 43) [] []] S=some (.ret (.int .i64 (if d.ins.all qai then -1 else(j:Int))),S):=rq59 (by
  show F77 (ev E0 KD (m+2)) qa1 vI (.fn (.func 43) [] []) S=_;rw[F77_eq,h.ins.tl.len,oB];dsimp only;rw[show V.int .i64 0=.int .i64 ((0:Nat):Int)from rfl,hj];cases d.ins.all qai with
  | false=>rfl
  | true=>rw[iP rfl,exB_same,R77_1_eq]; rfl)
 have h33:(ev E0 KD (m+4)).f 42 [vI,.fn (.func 43) [] []] S=some (.ret (.bool (!d.ins.all qai)),S):=rq33 (by
  show F42 (ev E0 KD (m+3)) qa1 vI (.fn (.func 43) [] []) S=_;rw[F42_eq,h59,callP_ret,binV_ii,intsV_geq];cases d.ins.all qai with
  | true=>rfl
  | false=>rw[iN (by simp),oB,dT (by omega)]; rfl)
 rw[F41_eq,show faP 1 false 1 (.ptr q 0)=some (.ptr q 1)from rfl,oB,h.ag.ld1 h.on qcx (by decide) h.t.ins,oB];dsimp only
 rw[h33,callP_ret,unV_not,oB,Bool.not_not])
theorem f35_run (h:Dv S q N Tt d vI vE) (hN:AgAt S pn 22 1 (Ev.one vN)) {M:Nat} (hn:TLo S vN (d.env.map Prod.fst) M) (m:Nat):(ev E0 KD (m+2)).f 45 [.ptr q 0,.ptr pn 0] S=some (.ret (.bool (qd9 d.ins&&qd9 (d.env.map Prod.fst))),S):=rq35 (by
 show F45 (ev E0 KD (m+1)) qa1 (.ptr q 0) (.ptr pn 0) S=_;rw[F45_eq,show faP 1 false 1 (.ptr q 0)=some (.ptr q 1)from rfl,oB,h.ag.ld1 h.on qcx (by decide) h.t.ins,oB];dsimp only;rw[f24_run h.on m h.ins.tl (by have:=h.li; omega),callP_ret];cases qd9 d.ins with
 | false=>rfl
 | true=>
  simp only[qam,oB,cT];rw[hN.ld1 h.on big1' (by decide) rfl,oB];dsimp only
  rw[f24_run h.on m hn.tl (by rw[lM]; have:=h.le; omega),callP_ret,pickV_bool,cT,oB,Bool.true_and])
theorem f39_run (h:Dv S q N Tt d vI vE) (m:Nat):(ev E0 KD (m+1)).f 51 [.ptr q 0] S=some (.ret (.bool (decide (d.scr.length<=4000))),S):=rq39 (by
 show F51 (ev E0 KD m) qa1 (.ptr q 0) S=_;rw[F51_eq,show faP 3 false 1 (.ptr q 0)=some (.ptr q 3)from rfl,oB,h.ag.ld1 h.on qcx (by decide) h.t.scr,oB];dsimp only;rw[qab,oB];dsimp only
 rw[show V.int .i64 4000=.int .i64 ((4000:Nat):Int)from rfl,leqN,oB])
def varOk (p:Bs×Bs):Bool:=qdt p.1&&decide (p.2.length<=200)
theorem VLo.ldA {v:V} {l:List (Bs×Bs)} {N:Nat} (h:VLo S v l N) (ho:S.on=false) {i:Nat} {p:Bs×Bs} (hp:l[i]?=some p):∃x,ixP 2 v (.int .i64 (i:Int))=some x/\Ev.ldA 2 x S=some (.agg 2 (qg4 p),S):=by
 obtain⟨hi,he⟩:=List.getElem?_eq_some_iff.1 hp;rcases h with⟨rfl,_⟩|⟨r,rfl,h1,h2,h3,h4⟩
 . simp at hp
 . refine⟨.ptr r (0+i*2),?_,?_⟩
   . have h0:ixP 2 (.oslice r 0 l.length 2) (.int .i64 (i:Int))=bif Nat.blt i l.length then some (.ptr r (0+i*2))else none:=rfl
     rw[h0,blt_true.2 hi,cT]
   . unfold Ev.ldA
     dsimp only;rw[Nat.zero_add,h1.ldK ho (i:=i) (t:=qg4 p) (by rw[List.getElem?_map,hp]; rfl),oB]
theorem body38:E0.ext.get 49=none/\qat E0 49=true:=⟨by kernel_rfl,by kernel_rfl⟩
theorem f38_run (ho:S.on=false) (m:Nat) (p:Bs×Bs) (h1:p.1.length<=20000) (h2:p.2.length<=20000):∃U,(ev E0 KD (m+3)).f 49 [.agg 2 (qg4 p)] S=some (.ret (.bool (!varOk p)),U)/\Grew (fun _=>False) S U:=by
 obtain⟨U,a1,a2,a3,a4⟩:=box_new ho 41 [sv p.1,sv p.2];have on1:=a3.on.trans ho;have hag:AgAt U S.next 41 2 (qg4 p):=⟨_,a2,by rw[Tr.get_ofList]; rfl⟩
 refine⟨U,rq38 ?_,a3⟩;show F49 (ev E0 KD (m+2)) qa1 (.agg 2 (qg4 p)) S=_
 have e1:qa4 E0 .gtr 3 false true (.int .i64 (p.2.length:Int)) (.int .i64 200)=some (.bool (decide (200<p.2.length))):=by
  rw[binV_ii,intsV_gtr]
  congr 2
  simp;omega
 rw[F49_eq,show qle 41 (.agg 2 (qg4 p)) S=_ from a1,oB];dsimp only;rw[show faP 0 false 1 (.ptr S.next 0)=some (.ptr S.next 0)from rfl,oB,hag.ld1 on1 big2 (by decide) (show(qg4 p).get 0=some (sv p.1) by unfold qg4; rw[Tr.get_ofList]; rfl),oB];dsimp only;rw[f25_run m p.1 (by omega) U,callP_ret,unV_not,oB];unfold varOk;cases qdt p.1 with
 | false=>rfl
 | true=>
  simp only[qaj,oB,cT,pickV_bool,Bool.not_true,nF,cF,show faP 1 false 1 (.ptr S.next 0)=some (.ptr S.next 1)from rfl,hag.ld1 on1 big2 (show 1<2 by decide) (show(qg4 p).get 1=some (sv p.2) by unfold qg4; rw[Tr.get_ofList]; rfl),qab,e1,Bool.true_and]
  congr 5
  by_cases h:p.2.length<=200
  . rw[dT h,dF (by omega)]; rfl
  . rw[dF h,dT (by omega)]; rfl
theorem L60_spec {m M:Nat} (nk:Ac->St->Rs) (ek:Nat->Ac->St->Rs) {v:V} {l:List (Bs×Bs)} (hl:l.length<=1000) (hp:∀p∈l,p.1.length<=20000/\p.2.length<=20000) :
 ∀(r:List (Bs×Bs)) (i n:Nat) (S:St),S.on=false->VLo S v l N->l.drop i=r->r.length<n->
 ∃(j:Nat) (U:St),L78_6 (ev E0 KD (m+3)) M nk ek n v (.fn (.func 49) [] []) (.int .i64 (l.length:Int)) (.int .i64 (i:Int)) S=(if r.all varOk then ek 0 (fr 19 []) U else some (.ret (.int .i64 (j:Int)),U))/\Grew (fun _=>False) S U
 | _,_,0,_,_,_,_,hn=>by omega
 | [],i,n+1,S,ho,_,hi,_=>⟨0,S,by
  rw[L78_6_eq,qff,dF (Nat.not_lt.2 (qbe hi)),oB,ifK_bool,cF]
  rfl,Grew.refl _ _⟩
 | a::r,i,n+1,S,ho,h,hi,hn=>by
  obtain⟨hlt,hc,hr',hm⟩:=qbv hi;obtain⟨x,x1,x2⟩:=h.ldA ho (show l[i]?=some a by rw[List.getElem?_eq_getElem hlt,hc]);obtain⟨U1,u1,u2⟩:=f38_run ho m a (hp a hm).1 (hp a hm).2;obtain⟨j,U,ih,g⟩:=L60_spec (m:=m) (M:=M) nk ek hl hp r (i+1) n U1 (u2.on.trans ho) (h.grew u2 fun _ _ h=>h) hr' (by simpa using hn);rw[L78_6_eq,qff,dT hlt,oB,ifK_bool,cT,x1,oB,x2,oB];dsimp only;rw[qb6 body38.1 body38.2];show ∃(j:Nat) (U:St),(qaa ((ev E0 KD (m+3)).f 49 [.agg 2 (qg4 a)] S) _)=_/\_;rw[u1,callP_ret,ifK_bool,List.all_cons];cases varOk a with
  | false=>exact⟨i,U1,rfl,u2⟩
  | true=>exact⟨j,U,by rw[Bool.not_true,cF,qds (by omega),oB,ih,Bool.true_and],u2.trans g⟩
theorem f36_run (h:Dv S q N Tt d vI vE) (m:Nat):∃U,(ev E0 KD (m+6)).f 47 [.ptr q 0] S=some (.ret (.bool (d.env.all varOk)),U)/\Grew (fun _=>False) S U:=by
 obtain⟨j,U,hj,hg⟩:=L60_spec (N:=N) (m:=m) (M:=qa1) (R78_1 (ev E0 KD (m+3)) qa1 (qb5 E0 (ev E0 KD (m+3)) Tryz.f78) qak) (exB 0 (R78_1 (ev E0 KD (m+3)) qa1 (qb5 E0 (ev E0 KD (m+3)) Tryz.f78) qak) qak) h.le (fun p hp=>⟨h.lv p hp,by have:=h.lw p hp; omega⟩) d.env 0 qa1 S h.on h.env rfl (by have:=h.le; unfold qa1; omega);refine⟨U,rq36 ?_,hg⟩;show F47 (ev E0 KD (m+5)) qa1 (.ptr q 0) S=_
 have h60:(ev E0 KD (m+4)).f 78 [vE,.fn (.func 49) [] []] S=some (.ret (.int .i64 (if d.env.all varOk then -1 else(j:Int))),U):=rq60 (by
  show F78 (ev E0 KD (m+3)) qa1 vE (.fn (.func 49) [] []) S=_;rw[F78_eq,h.env.len,oB];dsimp only;rw[show V.int .i64 0=.int .i64 ((0:Nat):Int)from rfl,hj];cases d.env.all varOk with
  | false=>rfl
  | true=>rw[iP rfl,exB_same,R78_1_eq]; rfl)
 have h37:(ev E0 KD (m+5)).f 48 [vE,.fn (.func 49) [] []] S=some (.ret (.bool (!d.env.all varOk)),U):=rq37 (by
  show F48 (ev E0 KD (m+4)) qa1 vE (.fn (.func 49) [] []) S=_;rw[F48_eq,h60,callP_ret,binV_ii,intsV_geq];cases d.env.all varOk with
  | true=>rfl
  | false=>rw[iN (by simp),oB,dT (by omega)]; rfl)
 rw[F47_eq,show faP 2 false 1 (.ptr q 0)=some (.ptr q 2)from rfl,oB,h.ag.ld1 h.on qcx (by decide) h.t.env,oB];dsimp only;rw[h37,callP_ret,unV_not,oB,Bool.not_not]
end
end Go.Proofs.YtpgegoeghaplkaaGreatDoor.W
