/-
  WHAT THE FUNCTIONS COME TO: each is read by the evaluator,printed,and told as a function of data,part 11 of 14 (no condition).
-/
import Derived.Test.YtbihlgcdnhoknaaW10
namespace Go.Proofs.Ytbihlgcdnhoknaa.W
open Go.Proofs.Ytbihlgcdnhoknaa.Ev Go.RowKit
set_option maxRecDepth 100000
section
variable {S U:St} {rb:Nat} {vL vE:V} {R:RT}
theorem ixB_any (c:UInt8) (l:Bs):decide (ixB l c<0)=!(l.any (·==c)):=by
 unfold ixB;cases h:l.findIdx? (fun x=>x==c)with
 | some i=>
  have:l.any (·==c)=true:=by
   rw[List.any_eq_true];obtain⟨hi,h1,_⟩:=List.findIdx?_eq_some_iff_getElem.1 h;exact⟨l[i],List.getElem_mem hi,h1⟩
  rw[this]; simp
 | none=>
  have:l.any (·==c)=false:=by
   rw[List.any_eq_false];exact fun x hx=>by simpa using(List.findIdx?_eq_none_iff.1 h) x hx
  rw[this]; rfl
theorem isLink_any (data:Bs):qf4 data=(!(data==[])&&decide (data.length<=255)&&!(data.any (·==0))):=by
 unfold qf4;rw[ixB_any]
theorem neStr (c d:Bool) (a e:Bs):qa6 E0 .neq 9 c d (sv a) (sv e)=some (.bool (!(a==e))):=by rw[binV_ss,strOp_neq]
theorem gTuF:qa3 false (.tuple [])=some false:=rfl
theorem qnk (m:Nat) (kind mode:Int) (data:Bs) (hd:data.length<9223372036854775808) (A B:St->Rs) :
 ((qa6 E0 .lss 3 false true (.int .i64 kind) (.int .i64 1)).bind fun t13=>
   (qa3 false t13).bind fun g15=>(bif g15 then some (.int .i64 kind)else some (.tuple [])).bind fun t15=>
   (qa3 false t13).bind fun g16=>(bif g16 then qa6 E0 .gtr 3 false true t15 (.int .i64 3)else some (.tuple [])).bind fun t16=>
   (qaw t13 (some (.bool true)) (some t16)).bind fun t17=>
   (qa3 false t17).bind fun g19=>(bif g19 then some (.int .i64 mode)else some (.tuple [])).bind fun t19=>
   (qa3 false t17).bind fun g20=>(bif g20 then qa6 E0 .lss 3 false true t19 (.int .i64 0)else some (.tuple [])).bind fun t20=>
   (qaw t17 (some (.bool true)) (some t20)).bind fun t21=>
   (qa3 false t21).bind fun g23=>(bif g23 then some (.int .i64 mode)else some (.tuple [])).bind fun t23=>
   (qa3 false t21).bind fun g24=>(bif g24 then qa6 E0 .gtr 3 false true t23 (.int .i64 511)else some (.tuple [])).bind fun t24=>
   (qaw t21 (some (.bool true)) (some t24)).bind fun t25=>
   (qa3 false t25).bind fun g27=>(bif g27 then some (.int .i64 kind)else some (.tuple [])).bind fun t27=>
   (qa3 false t25).bind fun g28=>(bif g28 then qa6 E0 .eql 3 false true t27 (.int .i64 2)else some (.tuple [])).bind fun t28=>
   (qa3 false t25).bind fun g29=>(bif g29 then some t28 else some (.tuple [])).bind fun t29=>
   (qa3 true t29).bind fun g30=>(bif g30 then some (sv data)else some (.tuple [])).bind fun t30=>
   (qa3 true t29).bind fun g31=>(bif g31 then qa6 E0 .neq 9 false true t30 (sv [])else some (.tuple [])).bind fun t31=>
   (qa3 false t25).bind fun g32=>(bif g32 then qaw t29 (some t31) (some (.bool false))else some (.tuple [])).bind fun t32=>
   (qaw t25 (some (.bool true)) (some t32)).bind fun t33=>
   (qa3 false t33).bind fun g35=>(bif g35 then some (.int .i64 kind)else some (.tuple [])).bind fun t35=>
   (qa3 false t33).bind fun g36=>(bif g36 then qa6 E0 .eql 3 false true t35 (.int .i64 3)else some (.tuple [])).bind fun t36=>
   (qa3 false t33).bind fun g37=>(bif g37 then some t36 else some (.tuple [])).bind fun t37=>
   (qa3 true t37).bind fun g38=>(bif g38 then some (sv data)else some (.tuple [])).bind fun t38=>
   (qa3 true t37).bind fun g39=>(bif g39 then qa6 E0 .eql 9 false true t38 (sv [])else some (.tuple [])).bind fun t39=>
   (qa3 true t37).bind fun g40=>(bif g40 then some t39 else some (.tuple [])).bind fun t40=>
   (qa3 false t40).bind fun g41=>(bif g41 then some (sv data)else some (.tuple [])).bind fun t41=>
   (qa3 false t40).bind fun g42=>(bif g42 then qeb t41 S else some (.tuple [],S)).bind fun p42=>
   (qa3 false t40).bind fun g43=>(bif g43 then qa6 E0 .gtr 3 false true p42.1 (.int .i64 255)else some (.tuple [])).bind fun t43=>
   (qa3 true t37).bind fun g44=>(bif g44 then qaw t40 (some (.bool true)) (some t43)else some (.tuple [])).bind fun t44=>
   (qa3 true t37).bind fun g45=>(bif g45 then some t44 else some (.tuple [])).bind fun t45=>
   (qa3 false t45).bind fun g46=>(bif g46 then some (sv data)else some (.tuple [])).bind fun t46=>
   (qa3 false t45).bind fun g47=>qah (bif g47 then(ev E0 KD (m+1)).f 68 [t46,(.int .u8 0)] p42.2 else some (.ret (.tuple []),p42.2)) fun t47 S47=>
   (qa3 true t37).bind fun g48=>(bif g48 then qaw t45 (some (.bool true)) (some t47)else some (.tuple [])).bind fun t48=>
   (qa3 false t33).bind fun g49=>(bif g49 then qaw t37 (some t48) (some (.bool false))else some (.tuple [])).bind fun t49=>
   (qaw t33 (some (.bool true)) (some t49)).bind fun t50=>
   ifK t50 (A S47) (B S47))=bif qgp kind data&&decide (0<=mode)&&decide (mode<=511)then B S else A S:=by
 by_cases h1:kind<1
 . have hk:qgp kind data=false:=by unfold qgp; rw[iN (by omega),iN (by omega),iN (by omega)]
   simp only[qjc,dT h1,gFT,oB,cF,pickV_bool,cT,callP_ret,gTu',gTuF,ifK_bool,hk,Bool.false_and]
 simp only[qjc,dF h1,gFF,oB,cT,qm3];by_cases h2:3<kind
 . have hk:qgp kind data=false:=by unfold qgp; rw[iN (by omega),iN (by omega),iN (by omega)]
   simp only[dT h2,gFT,oB,cF,pickV_bool,cT,callP_ret,gTu',gTuF,ifK_bool,hk,Bool.false_and]
 simp only[dF h2,gFF,oB,cT,cF,pickV_bool,qjc];by_cases h3:mode<0
 . have:decide (0<=mode)=false:=dF (by omega)
   simp only[dT h3,gFT,oB,cF,pickV_bool,cT,callP_ret,gTu',gTuF,ifK_bool,this,Bool.and_false,Bool.false_and]
 have h3':decide (0<=mode)=true:=dT (by omega);simp only[dF h3,gFF,oB,cT,cF,pickV_bool,qm3,h3',Bool.and_true];by_cases h4:511<mode
 . have:decide (mode<=511)=false:=dF (by omega)
   simp only[dT h4,gFT,oB,cF,pickV_bool,cT,callP_ret,gTu',gTuF,ifK_bool,this,Bool.and_false]
 have h4':decide (mode<=511)=true:=dT (by omega);simp only[dF h4,gFF,oB,cT,cF,pickV_bool,h4',Bool.and_true,qbl];by_cases h5:kind=2
 . have hk:qgp kind data=(data==[]):=by unfold qgp; rw[iN (by omega),iP h5]
   have h6:¬kind=3:=by omega
   rw[hk];simp only[dT h5,gTT,oB,cT,neStr];cases hb:(data==[])with
   | false=>simp only[nF,gFT,oB,cF,cT,pickV_bool,gTu',gTuF,callP_ret,ifK_bool]
   | true=>simp only[Bool.not_true,gFF,oB,cF,cT,pickV_bool,gTu',gTuF,callP_ret,ifK_bool,qbl,dF h6,gTF]
 simp only[dF h5,gTF,oB,cF,cT,pickV_bool,gFF,qbl];by_cases h6:kind=3
 . have hk:qgp kind data=qf4 data:=by unfold qgp; rw[iN (by omega),iN (by omega),iP h6]
   rw[hk,isLink_any];simp only[dT h6,gTT,oB,cT,eqStr];cases hb:(data==[])with
   | true=>simp only[gFT,oB,cF,cT,pickV_bool,callP_ret,gTu',gTuF,ifK_bool,Bool.not_true,Bool.false_and]
   | false=>
    simp only[gFF,oB,cT,lnStr_sv,qm3,pickV_bool,cF];by_cases h7:255<data.length
    . rw[dT (show(255:Int)<(data.length:Int) by omega),dF (show ¬data.length<=255 by omega)]
      simp only[gFT,oB,cF,cT,pickV_bool,callP_ret,ifK_bool,Bool.and_false,Bool.false_and]
    . rw[dF (show ¬(255:Int)<(data.length:Int) by omega),dT (show data.length<=255 by omega)]
      simp only[gFF,oB,cT];rw[show V.int .u8 0=.int .u8 (((0:UInt8).toNat:Nat):Int)from rfl,has_run m 0 data hd];simp only[callP_ret,oB,pickV_bool,cF,cT,ifK_bool,nF,Bool.true_and];cases data.any (·==0)<;>rfl
 . have hk:qgp kind data=true:=by
    unfold qgp;rw[iP (by omega)]
   simp only[dF h6,gTF,oB,cF,cT,pickV_bool,gFF,callP_ret,ifK_bool,hk,gTu',gTuF]
theorem qds {W:Nat->Prop} {b c:St} (h1:c.heap=b.heap) (h2:c.next=b.next) (h3:c.on=b.on):Grew W b c:=⟨by rw[h2]; exact lR _,h3,fun x _ _=>by rw[h1]⟩
theorem RAt.pushL (h:RAt S rb vL vE R) (hf:Fw R) (x:RIno) (zt:Tr V):∃y T1 v' T2 U,bsP 35 4 1 zt [(0,qbz x.cells)] S=some (y,T1)/\apP 35 4 40 vL y T1=some (v',T2)/\stP 1 (.ptr rb 2) v' T2=some (.tuple [],U)/\RAft S U rb vL vE v' vE {R with L:=R.L++[x]}:=by
 obtain⟨y,T1,a1,a2,a3,a4,_⟩:=bs_struct h.on 35 4 zt x.cells rfl (by omega) (by omega);have h1:=h.grew0 a3;obtain⟨v',T2,b1,b2,b3,b4,_⟩:=h1.L.cat h1.on (by omega) a2 (by have:=hf.l; rw[qd1]; simp; omega) (B:=40) (by omega);have hb:Bx T2 rb 86 [.int .i64 R.qi,.int .i64 R.qb,vL,vE]:=h1.bx.grew h1.lt (fun q=>(h1.apart q).1 rfl) b3;have hE:RV T2 vE 98 3 (qke R.E):=h1.E.grew (fun r hr q=>(h1.apartE hr).2 q) b3;obtain⟨U,c1,c2,c3,c4,_⟩:=RAt.putL (L:=R.L++[x]) (b3.on.trans h1.on) hb (Nat.lt_of_lt_of_le h1.lt b3.next) (by rw[rowRI_push]; exact b2) hE;refine⟨y,T1,v',T2,U,a1,b1,c1,c2,?_,fun x hx=>?_⟩
 . exact((a3.mono fun _ _ h=>h.elim).trans (b3.mono fun x _ q=>.inr (.inl q))).trans (c3.mono fun x _ q=>.inl q)
 . rcases hx with q|q|q
   . exact .inl (.inl q)
   . rcases b4 x q with q|q
     . exact .inl (.inr (.inl q))
     . exact .inr (by omega)
   . exact .inl (.inr (.inr q))
theorem bs_lg (ho:S.on=false) {e z n:Nat} {t:Tr V} {ps:List (Nat×V)} {y:V} {T:St} (h:bsP e z n t ps S=some (y,T)):bsP e z n t ps (S.lg [])=some (y,T.lg [⟨S.next,0,big,true⟩]):=by
 unfold bsP at h ⊢;rw[oI]at h ⊢;obtain⟨l,h1,h2⟩:=h;refine⟨l,h1,?_⟩;simp only[oS,pM]at h2;obtain⟨rfl,rfl⟩:=h2;rw[nw_lg ho]; rfl
theorem build35m (k m:Int) (d:Bs):qb9 E0 35 [(0,.int .i64 k),(1,.int .i64 m),(2,sv d)]=some (qbz (RIno.mk k m d).cells):=by kernel_rfl
theorem rd41 {n:Nat} {args:List V} {s:St} {r:En×St} (e:qb6 E0 (ev E0 KD n) qa4 Try.f41 B41 args s=some r):(ev E0 KD (n+1)).f 41 args s=some r:=qaa (c:=C41) (d:=B41) (by kernel_rfl) (by kernel_rfl) (qa5 C41 _ (by kernel_rfl)) rfl e
theorem rd73 {n:Nat} {args:List V} {s:St} {r:En×St} (e:qb6 E0 (ev E0 KD n) qa4 Try.f73 B73 args s=some r):(ev E0 KD (n+1)).f 73 args s=some r:=qaa (c:=C73) (d:=B73) (by kernel_rfl) (by kernel_rfl) (qa5 C73 _ (by kernel_rfl)) rfl e
def RT.makeE (R:RT) (d:Int) (a:Bs) (kind mode:Int) (data:Bs):Int:=qcf [R.placeE d a,qky kind mode data,R.freeE d a,R.roomE 1 data.length]
def RT.made (R:RT) (d:Int) (a:Bs) (kind mode:Int) (data:Bs):RT:={R with L:=R.L++[⟨kind,mode,data⟩],E:=R.E++[⟨d,a,(R.L.length:Int)+1⟩]}
def RT.make (R:RT) (d:Int) (a:Bs) (kind mode:Int) (data:Bs):RT:=if R.makeE d a kind mode data=0 then R.made d a kind mode data else R
def RT.makeN (R:RT) (d:Int) (a:Bs) (kind mode:Int) (data:Bs):Int:=if R.makeE d a kind mode data=0 then(R.L.length:Int)+1 else 0
theorem chain4 (a b c d:Int):qcf [a,b,c,d]=if a=0 then(if b=0 then(if c=0 then d else c)else b)else a:=by
 show(if a=0 then qcf [b,c,d]else a)=_;rw[chain3]
theorem rmake_run (h:RAt S rb vL vE R) (hf:Fw R) (hs:qkm R.L) (hl:R.L.length<1000) (m:Nat) (d:Int) (a:Bs) (kind mode:Int) (data:Bs) (ha:a.length<9223372036854775808) (hd:data.length<=1000) :
 ∃U vL' vE',(ev E0 KD (m+4)).f 41 [.ptr rb 0,.int .i64 d,sv a,.int .i64 kind,.int .i64 mode,sv data] S=some (.ret (.tuple [.int .i64 (R.makeN d a kind mode data),.int .i64 (R.makeE d a kind mode data)]),U)/\RAft S U rb vL vE vL' vE' (R.make d a kind mode data):=by
 have stop:∀{e:Int} {A:St},R.makeE d a kind mode data=e->e≠0->Grew (fun _=>False) S A->F41 (ev E0 KD (m+3)) qa4 (.ptr rb 0) (.int .i64 d) (sv a) (.int .i64 kind) (.int .i64 mode) (sv data) S=some (.ret (.tuple [.int .i64 0,.int .i64 e]),A)->∃U vL' vE',(ev E0 KD (m+4)).f 41 [.ptr rb 0,.int .i64 d,sv a,.int .i64 kind,.int .i64 mode,sv data] S=some (.ret (.tuple [.int .i64 (R.makeN d a kind mode data),.int .i64 (R.makeE d a kind mode data)]),U)/\RAft S U rb vL vE vL' vE' (R.make d a kind mode data):=fun{e A} he h0 hg hF=>by
  refine⟨A,vL,vE,?_,?_⟩
  . unfold RT.makeN
    rw[he,iN h0]; exact rd41 hF
  . unfold RT.make
    rw[he,iN h0];exact RAft.none h hg
 have hE:R.makeE d a kind mode data=if R.placeE d a=0 then(if qky kind mode data=0 then(if R.freeE d a=0 then R.roomE 1 data.length else R.freeE d a)else qky kind mode data)else R.placeE d a:=chain4 _ _ _ _
 by_cases h1:R.placeE d a=0
 . rw[iP h1]at hE
   have h67:=qed h hf m d a ha;rw[h1]at h67;cases hlk:(qgp kind data&&decide (0<=mode)&&decide (mode<=511))with
   | false=>
    have h2:qky kind mode data=2:=by unfold qky; rw[hlk]; rfl
    rw[h2,iN (by decide)]at hE;refine stop hE (by decide) (Grew.refl _ _) ?_;rw[F41_eq,h67,callP_ret,qna,dT rfl,oB,Bool.not_true,ifK_bool,cF];refine(qnk (m+2) kind mode data (by omega) _ _).trans ?_;rw[hlk]; rfl
   | true=>
    have h2:qky kind mode data=0:=by unfold qky; rw[hlk]; rfl
    rw[iP h2]at hE;cases hg:R.find d a with
    | some j=>
     have h3:R.freeE d a=6:=by unfold RT.freeE; rw[hg]; rfl
     rw[h3,iN (by decide)]at hE;obtain⟨k,hk,k1,_⟩:=qfr hg;refine stop hE (by decide) (Grew.refl _ _) ?_;rw[F41_eq,h67,callP_ret,qna,dT rfl,oB,Bool.not_true,ifK_bool,cF];refine(qnk (m+2) kind mode data (by omega) _ _).trans ?_;rw[hlk,cT,qcb h hf.e,callP_ret,k1,geqI,dT (by omega),oB,ifK_bool,cT]
    | none=>
     have h3:R.freeE d a=0:=by unfold RT.freeE; rw[hg]; rfl
     rw[iP h3]at hE;obtain⟨U1,u1,u2⟩:=roomV_run h hf hs (m+1) 1 (data.length:Int) (by omega) (by omega);have hU:=h.grew0 u2;cases hb:R.roomB 1 (data.length:Int)with
     | false=>
      have h4:R.roomE 1 data.length=10:=by unfold RT.roomE; rw[hb]; rfl
      rw[h4]at hE;refine stop hE (by decide) u2 ?_;rw[F41_eq,h67,callP_ret,qna,dT rfl,oB,Bool.not_true,ifK_bool,cF];refine(qnk (m+2) kind mode data (by omega) _ _).trans ?_;rw[hlk,cT,qcb h hf.e,callP_ret,qfq hg,geqI,dF (by omega),oB,ifK_bool,cF,lnStr_sv,oB];dsimp only;rw[u1,callP_ret,hb]; rfl
     | true=>
      have h4:R.roomE 1 data.length=0:=by unfold RT.roomE; rw[hb]; rfl
      rw[h4]at hE;obtain⟨y,T1,v',T2,U2,a1,a2,a3,a4⟩:=hU.pushL hf ⟨kind,mode,data⟩ (Tr.ofListFrom .nil [(.int .i64 0),(.int .i64 0),(sv []),(.int .i64 0)] 0);have hU2:=a4.at';have on2:=hU2.on;have hlt2:=hU2.lt;obtain⟨y2,T3,v2,T4,U3,b1,b2,b3,b4,on3,on4,hlog⟩:=hU2.pushE ⟨by simp; omega,hf.e⟩ ⟨d,a,(R.L.length:Int)+1⟩ (Tr.ofListFrom .nil [(.int .i64 0),(sv []),(.int .i64 0)] 0);have hU3:=b4.at';have fE:=qh4 on2 hU2.ldE [];have fL:=qh4 on2 hU2.ldL [];have hlen:((({R with L:=R.L++[⟨kind,mode,data⟩]}:RT).L.length:Nat):Int)=(R.L.length:Int)+1:=by simp
      obtain⟨La,b2'⟩:=lg_of (lg_apP _ _ _ _ _) b2 [];obtain⟨Lb,b3'⟩:=stP_lg on4 b3;have hm:meet ⟨rb,3,3+1,false⟩ ⟨U2.next,0,big,true⟩=false:=meet_ne (by show rb≠U2.next; omega);refine⟨U3,v',v2,?_,by unfold RT.make; rw[hE,iP rfl]; exact(a4.trans b4).pre u2⟩;unfold RT.makeN;rw[hE,iP rfl];refine rd41 ?_;show F41 (ev E0 KD (m+3)) qa4 (.ptr rb 0) (.int .i64 d) (sv a) (.int .i64 kind) (.int .i64 mode) (sv data) S=_;rw[F41_eq,h67,callP_ret,qna,dT rfl,oB,Bool.not_true,ifK_bool,cF];refine(qnk (m+2) kind mode data (by omega) _ _).trans ?_;rw[hlk,cT,qcb h hf.e,callP_ret,qfq hg,geqI,dF (by omega),oB,ifK_bool,cF,lnStr_sv,oB];dsimp only;rw[u1,callP_ret,hb,show unV .not (V.bool true)=some (.bool false)from rfl,oB,ifK_bool,cF,qc5,oB,qax,oB,Nat.zero_add,hU.ldL,oB];dsimp only;rw[build35m,oB,a1,oB];dsimp only;rw[a2,oB,oB,qax,oB,Nat.zero_add];dsimp only;rw[a3,oB];dsimp only;rw[oB,qax,oB,Nat.zero_add,show onS U2=U2.lg []from rfl,fE,oB];dsimp only;rw[oB,qax,oB,Nat.zero_add,show onS (U2.lg [⟨rb,3,3+1,false⟩])=U2.lg []from rfl,fL,oB];dsimp only;rw[hU2.lenL,oB];dsimp only;rw[hlen,build98,oB,show onS (onS (U2.lg [⟨rb,2,2+1,false⟩]))=U2.lg []from rfl,bs_lg on2 b1,oB];dsimp only;rw[show onS (T3.lg [⟨U2.next,0,big,true⟩])=T3.lg []from rfl,b2',oB,oB,qax,oB,Nat.zero_add];dsimp only;rw[show onS (T4.lg La)=T4.lg []from rfl,b3',oB];dsimp only
      rw[qca (by
       show(bif (bif qd5 [⟨rb,3,3+1,false⟩] [⟨rb,2,2+1,false⟩]then true else bif qd5 [⟨rb,3,3+1,false⟩] []then true else bif qd5 [⟨rb,3,3+1,false⟩] [⟨U2.next,0,big,true⟩]then true else false)then false else true)=true
       simp only[qd5,qem,qh6,hm,cF,cT]),qee on2 hU3.on hlog,oB,qax,oB,Nat.zero_add,hU3.ldL,oB]
      dsimp only;rw[hU3.lenL,oB];dsimp only;rw[hlen]
 . rw[iN h1]at hE
   refine stop hE h1 (Grew.refl _ _) ?_;rw[F41_eq,qed h hf m d a ha,callP_ret,qna,dF h1,oB,nF,ifK_bool,cT]
theorem und84:und E0 84=some (.slice 98):=by kernel_rfl
theorem size98:qav E0 98=some 3:=by kernel_rfl
theorem erase_td (l:List REnt) (i:Nat):l.take i++l.drop (i+1)=l.eraseIdx i:=(List.eraseIdx_eq_take_drop_succ l i).symm
theorem drop_run (h:RAt S rb vL vE R) (hf:Fw R) (m:Nat) {i:Nat} (hi:i<R.E.length):∃U vE',(ev E0 KD (m+1)).f 73 [.ptr rb 0,.int .i64 (i:Int)] S=some (.ret (.tuple []),U)/\RAft S U rb vL vE vL vE' {R with E:=R.E.eraseIdx i}:=by
 have hfe:=hf.e;obtain⟨y1,a1,a2⟩:=h.E.take h.on und84 size98 (by omega) (k:=i) (by rw[qg2]; omega);obtain⟨v1,T1,b1,b2,b3,b4,_⟩:=RV.cat (e:=98) (z:=3) (B:=32) (.inl ⟨rfl,rfl⟩:RV S .nilslice 98 3 []) h.on (by omega) a2 (by rw[List.length_take,qg2]; simp; omega) (by omega);have b3':Grew (fun _=>False) S T1:=b3.mono fun _ _ q=>by cases q
 rw[List.nil_append]at b2;have h1:=h.grew0 b3';obtain⟨y2,c1,c2⟩:=h1.E.drop h1.on und84 size98 (by omega) (k:=i+1) (by rw[qg2]; omega);obtain⟨v2,T2,d1,d2,d3,d4,_⟩:=b2.cat h1.on (by omega) c2 (by rw[List.length_take,List.length_drop,qg2]; omega) (B:=32) (by omega)
 have hnew:∀x,qel v1=some x->S.next<=x:=fun x q=>by
  rcases b4 x q with q|q
  . cases q
  . exact q
 have hb:Bx T2 rb 86 [.int .i64 R.qi,.int .i64 R.qb,vL,vE]:=h1.bx.grew h1.lt (fun q=>by have:=hnew _ q; have:=h.lt; omega) d3;have hL:RV T2 vL 35 4 (qg8 R.L):=h1.L.grew (fun r hr q=>by have:=hnew _ q; have:=h.L.blk_lt hr; omega) d3
 have hrow:(qke R.E).take i++(qke R.E).drop (i+1)=qke (R.E.eraseIdx i):=by
  rw[<- erase_td]; unfold qke; rw[List.map_append,List.map_take,List.map_drop]
 rw[hrow]at d2;obtain⟨U,e1,e2,e3,e4,_⟩:=RAt.putE (d3.on.trans h1.on) hb (Nat.lt_of_lt_of_le h1.lt d3.next) hL d2;refine⟨U,v2,rd73 ?_,e2,?_,fun x hx=>?_⟩
 . show F73 (ev E0 KD m) qa4 (.ptr rb 0) (.int .i64 (i:Int)) S=_
   rw[F73_eq,qc5,oB,qax,oB,Nat.zero_add,h.ldE,oB];dsimp only;rw[a1,oB];dsimp only;rw[b1,oB];dsimp only;rw[oB,qax,oB,Nat.zero_add,h1.ldE,oB];dsimp only;rw[qlt _ _ _ _ _ (by unfold qaj; omega) (by unfold qaj; omega),oB,show(i:Int)+1=((i+1:Nat):Int) by omega,c1,oB];dsimp only;rw[d1,oB,oB,qax,oB,Nat.zero_add];dsimp only;rw[e1,oB]
 . exact(Grew.into (W:=ROwn rb vL vE) (b3'.mono fun _ _ q=>q.elim) d3 (fun x hx q=>by have:=hnew x q; omega)).trans (e3.mono fun x _ q=>.inl q)
 . rcases hx with q|q|q
   . exact .inl (.inl q)
   . exact .inl (.inr (.inl q))
   . refine .inr ?_
     rcases d4 x q with q|q
     . exact hnew x q
     . exact Nat.le_trans b3'.next q
end
section
variable {S U:St} {rb:Nat} {vL vE:V} {R:RT}
theorem ltStr (c d:Bool) (a b:Bs):qa6 E0 .lss 9 c d (sv a) (sv b)=some (.bool (decide (a<b))):=by
 rw[binV_ss];show some (V.bool (qiu a.length a.length (qaz a) b.length (qaz b)))=_;rw[qe5]
 congr 2
 rw[Bool.eq_iff_iff,decide_eq_true_eq];exact bless_iff
def qet (x:Bs):List Bs->Nat
 | []=>0
 | y::l=>if y<x then qet x l+1 else 0
theorem placeN_le (x:Bs):∀l,qet x l<=l.length
 | []=>lR _
 | y::l=>by
  unfold qet;have:=placeN_le x l;rw[List.length_cons];split<;>omega
theorem placeN_ins (x:Bs):∀l,l.take (qet x l)++x::l.drop (qet x l)=insB x l
 | []=>rfl
 | y::l=>by
  unfold qet insB;by_cases h:y<x
  . rw[iP h,iP h,List.take_succ_cons,List.drop_succ_cons,List.cons_append,placeN_ins x l]
  . rw[iN h,iN h]; rfl
def qmt (d:Int):List REnt->List Bs->List Bs
 | [],out=>out
 | e::l,out=>qmt d l (if e.dir=d then insB e.name out else out)
def RT.namesR (R:RT) (d:Int):List Bs:=qmt d R.E []
theorem qe3 (l:List Bs):(qe2 l).length=l.length:=by unfold qe2; rw[lM]
theorem insB_len (x:Bs) (l:List Bs):(insB x l).length=l.length+1:=by rw[(qid x l).length_eq]; rfl
theorem RAt.entN (h:RAt S rb vL vE R) {i:Nat} (hi:i<R.E.length):∃r,ixP 3 vE (.int .i64 (i:Int))=some (.ptr r (i*3))/\ld1 (.ptr r (i*3+1)) S=some (sv R.E[i].name,S):=by
 obtain⟨r,q1,q2⟩:=h.ent hi;exact⟨r,q1,q2 1 (sv R.E[i].name) rfl⟩
theorem qny {self:EV} {N:Nat} (nk:Ac->St->Rs) (ek:Nat->Ac->St->Rs) (h:RAt S rb vL vE R) (hf:Fw R) {i:Nat} (hi:i<R.E.length) {vo:V} {out:List Bs} (ho:RV S vo 9 1 (qe2 out)) (hl:out.length<=1000) (d:Int) :
 ∀(w:List Bs) (k q:Nat),out.drop k=w->w.length<q->
 L52_55 self N nk ek q (.ptr rb 0) (.int .i64 d) vo (.int .i64 (i:Int)) (.int .i64 (k:Int)) S=ek 2 (fr 71 [(0,.ptr rb 0),(1,.int .i64 d),(5,vo),(6,.int .i64 (i:Int)),(7,.int .i64 ((k+qet R.E[i].name w:Nat):Int))]) S
 | _,_,0,_,hq=>by omega
 | [],k,q+1,hk,hq=>by
  have hge:out.length<=k:=List.drop_eq_nil_iff.1 hk;rw[L52_55_eq,ho.len,oB];dsimp only;rw[qe3,qjc,dF (by omega),oB];simp only[gTF,oB,cF,pickV_bool];rw[qca (by rfl),show onS (onS (onS (onS (onS S))))=S.lg []from rfl,qee h.on h.on rfl,ifK_bool,cF];rfl
 | y::w,k,q+1,hk,hq=>by
  obtain⟨hlt,hy,hw,_⟩:=qgl hk;have ih:=qny (self:=self) (N:=N) nk ek h hf hi ho hl d w (k+1) q hw (by simpa using hq);obtain⟨r,_,q1,q2,q3⟩:=ho.at (i:=k) (by rw[qe3]; exact hlt)
  have f1:ld1 (.ptr r (k*1)) S=some (sv y,S):=by
   rw[Nat.mul_one];exact q2.ld1 h.on (by unfold qe2; rw[List.getElem?_map,List.getElem?_eq_getElem hlt,hy]; rfl)
  have f1':=qh4 h.on f1 [];have fE:=qh4 h.on h.ldE [];obtain⟨r2,q4,q5⟩:=h.entN hi;have f2':=qh4 h.on q5 [];rw[L52_55_eq,ho.len,oB];dsimp only;rw[qe3,qjc,dT (by omega),oB];simp only[gTT,oB,cT];rw[q1,oB,show onS (onS S)=S.lg []from rfl,f1',oB];dsimp only;rw[qc5,oB,qax,oB,Nat.zero_add,show onS (S.lg [⟨r,k*1,k*1+1,false⟩])=S.lg []from rfl,fE,oB];dsimp only;rw[q4,oB,qax,oB,show onS (S.lg [⟨rb,3,3+1,false⟩])=S.lg []from rfl,f2',oB];dsimp only
  rw[ltStr,oB,pickV_bool,cT,oB,qca (by
   show(bif (bif qd5 [⟨r,k*1,k*1+1,false⟩] [⟨rb,3,3+1,false⟩]then true else bif qd5 [⟨r,k*1,k*1+1,false⟩] [⟨r2,i*3+1,i*3+1+1,false⟩]then true else false)then false else true)=true
   simp only[qd5,qem,qh6,cF,cT]),show onS (S.lg [⟨r2,i*3+1,i*3+1+1,false⟩])=S.lg []from rfl,qee h.on h.on rfl,ifK_bool]
  unfold qet;by_cases hc:y<R.E[i].name
  . rw[dT hc,cT,iP hc,qlt _ _ _ _ _ (by unfold qaj; omega) (by unfold qaj; omega),oB,show(k:Int)+1=((k+1:Nat):Int) by omega,ih,show k+1+qet R.E[i].name w=k+(qet R.E[i].name w+1) by omega]
  . rw[dF hc,cF,iN hc]
    rfl
theorem R52_29_run {self:EV} {N:Nat} (nk:Ac->St->Rs) (ek:Nat->Ac->St->Rs) (h:RAt S rb vL vE R) {i:Nat} (hi:i<R.E.length) {vo:V} {out:List Bs} (ho:RV S vo 9 1 (qe2 out)) (hl:out.length<=1000) (d:Int) :
 ∃v U,R52_29 self N nk ek (fr 71 [(0,.ptr rb 0),(1,.int .i64 d),(5,vo),(6,.int .i64 (i:Int)),(7,.int .i64 ((qet R.E[i].name out:Nat):Int))]) S=nk (fr 71 [(0,.ptr rb 0),(1,.int .i64 d),(5,v),(6,.int .i64 (i:Int))]) U/\RV U v 9 1 (qe2 (insB R.E[i].name out))/\Grew (fun _=>False) S U:=by
 have hp:=placeN_le R.E[i].name out;obtain⟨y1,a1,a2⟩:=ho.take h.on und30 size9 (by omega) (k:=qet R.E[i].name out) (by rw[qe3]; exact hp);obtain⟨v1,T1,b1,b2,b3,b4,_⟩:=RV.cat (e:=9) (z:=1) (B:=16) (.inl ⟨rfl,rfl⟩:RV S .nilslice 9 1 []) h.on (by omega) a2 (by rw[List.length_take,qe3]; simp; omega) (by omega);have g1:Grew (fun _=>False) S T1:=b3.mono fun _ _ q=>by cases q
 rw[List.nil_append]at b2;have h1:=h.grew0 g1;obtain⟨r,q1,q2⟩:=h1.entN hi;obtain⟨T2,c1,c2,c3,c4⟩:=bsP_one h1.on 9 (Ev.one (sv [])) (qfx R.E[i].name);have h2:=h1.grew0 c3;have b2':=b2.grew (W:=fun _=>False) (fun _ _ q=>q) c3;obtain⟨v2,T3,d1,d2,d3,d4,_⟩:=b2'.cat h2.on (by omega) (RowAt.pv h2.on c2 1) (by rw[List.length_take,qe3]; simp; omega) (B:=16) (by omega)
 have hnew1:∀x,qel v1=some x->S.next<=x:=fun x q=>by
  rcases b4 x q with q|q
  . cases q
  . exact q
 have hn12:S.next<=T2.next:=Nat.le_trans g1.next c3.next
 have g3:Grew (fun _=>False) S T3:=Grew.into (g1.trans c3) d3 fun x hx q=>by have:=hnew1 x q; omega
 have h3:=h.grew0 g3;have ho3:=ho.grew (W:=fun _=>False) (fun _ _ q=>q) g3;obtain⟨y3,e1,e2⟩:=ho3.drop h3.on und30 size9 (by omega) (k:=qet R.E[i].name out) (by rw[qe3]; exact hp);obtain⟨v4,T4,f1,f2,f3,f4,_⟩:=d2.cat h3.on (by omega) e2 (by rw[lAq,List.length_take,List.length_drop,qe3]; simp; omega) (B:=16) (by omega)
 have hnew2:∀x,qel v2=some x->S.next<=x:=fun x q=>by
  rcases d4 x q with q|q
  . exact hnew1 x q
  . omega
 refine⟨v4,T4,?_,?_,Grew.into g3 f3 fun x hx q=>by have:=hnew2 x q; omega⟩
 . rw[R52_29_eq,a1,oB]
   dsimp only;rw[b1,oB];dsimp only;rw[qc5,oB,qax,oB,Nat.zero_add,h1.ldE,oB];dsimp only;rw[q1,oB,qax,oB,q2,oB];dsimp only;rw[c1,oB];dsimp only;rw[d1,oB];dsimp only;rw[e1,oB];dsimp only;rw[f1,oB]
 . rw[<- placeN_ins]
   have:(qe2 out).take (qet R.E[i].name out)++[Ev.one (sv R.E[i].name)]++(qe2 out).drop (qet R.E[i].name out)=qe2 (out.take (qet R.E[i].name out)++R.E[i].name::out.drop (qet R.E[i].name out)):=by
    unfold qe2;rw[List.map_append,List.map_cons,List.map_take,List.map_drop,List.append_assoc]; rfl
   rw[<- this]; exact f2
theorem L52_end {self:EV} {N:Nat} (nk:Ac->St->Rs) (ek:Nat->Ac->St->Rs) (h:RAt S rb vL vE R) (d:Int) (vo:V) {i:Nat} (q:Nat) (hge:R.E.length<=i):L52_6 self N nk ek (q+1) (.ptr rb 0) (.int .i64 d) vo (.int .i64 (i:Int)) S=ek 0 (fr 71 [(5,vo)]) S:=by
 rw[L52_6_eq,qc5,oB,qax,oB,Nat.zero_add,h.ldE,oB];dsimp only;rw[h.lenE,oB];dsimp only;rw[qjc,dF (by omega),oB,ifK_bool,cF]
theorem L52_adv (hf:Fw R) {i:Nat} (hil:i<R.E.length):(qa6 E0 .add 3 false true (.int .i64 (i:Int)) (.int .i64 1))=some (.int .i64 ((i+1:Nat):Int)):=by
 have hfe:=hf.e;rw[qlt _ _ _ _ _ (by unfold qaj; omega) (by unfold qaj; omega)]; congr 2
theorem L52_head {self:EV} {N:Nat} (nk:Ac->St->Rs) (ek:Nat->Ac->St->Rs) (h:RAt S rb vL vE R) (d:Int) (vo:V) {i:Nat} (q:Nat) (hil:i<R.E.length):L52_6 self N nk ek (q+1) (.ptr rb 0) (.int .i64 d) vo (.int .i64 (i:Int)) S=bif !decide (R.E[i].dir=d)then qfm self N (qjz self N nk ek q) ek (fr 71 [(0,.ptr rb 0),(1,.int .i64 d),(5,vo),(6,.int .i64 (i:Int))]) S else
 L52_55 self N (R52_29 self N (qfm self N (qjz self N nk ek q) ek) (exB 1 (qfm self N (qjz self N nk ek q) ek) ek)) (exB 2 (R52_29 self N (qfm self N (qjz self N nk ek q) ek) (exB 1 (qfm self N (qjz self N nk ek q) ek) ek)) (exB 1 (qfm self N (qjz self N nk ek q) ek) ek)) N (.ptr rb 0) (.int .i64 d) vo (.int .i64 (i:Int)) (.int .i64 0) S:=by
 obtain⟨x,q1,q2⟩:=h.ent hil;have f0:=q2 0 (.int .i64 R.E[i].dir) rfl;rw[L52_6_eq,qc5,oB,qax,oB,Nat.zero_add,h.ldE,oB];dsimp only;rw[h.lenE,oB];dsimp only;rw[qjc,dT (by omega),oB,ifK_bool,cT,oB,qax,oB,Nat.zero_add,h.ldE,oB];dsimp only;rw[q1,oB,qax,oB,f0,oB];dsimp only;rw[qna,oB,ifK_bool]
theorem L52_skip {self:EV} {N:Nat} (nk:Ac->St->Rs) (ek:Nat->Ac->St->Rs) (h:RAt S rb vL vE R) (hf:Fw R) (d:Int) (vo:V) {i:Nat} (q:Nat) (hil:i<R.E.length) (hd:¬R.E[i].dir=d):L52_6 self N nk ek (q+1) (.ptr rb 0) (.int .i64 d) vo (.int .i64 (i:Int)) S=L52_6 self N nk ek q (.ptr rb 0) (.int .i64 d) vo (.int .i64 ((i+1:Nat):Int)) S:=by
 rw[L52_head nk ek h d vo q hil,dF hd,nF,cT,R52_14_eq,L52_adv hf hil,oB,N52_6_eq]
theorem L52_take {self:EV} {N:Nat} (hN:1000<N) (nk:Ac->St->Rs) (ek:Nat->Ac->St->Rs) (h:RAt S rb vL vE R) (hf:Fw R) (d:Int) {vo:V} {out:List Bs} (ho:RV S vo 9 1 (qe2 out)) (hl:out.length<=1000) {i:Nat} (q:Nat) (hil:i<R.E.length) (hd:R.E[i].dir=d):∃v1 U1,L52_6 self N nk ek (q+1) (.ptr rb 0) (.int .i64 d) vo (.int .i64 (i:Int)) S=L52_6 self N nk ek q (.ptr rb 0) (.int .i64 d) v1 (.int .i64 ((i+1:Nat):Int)) U1/\RV U1 v1 9 1 (qe2 (insB R.E[i].name out))/\Grew (fun _=>False) S U1:=by
 obtain⟨v1,U1,t1,t2,t3⟩:=R52_29_run (self:=self) (N:=N) (qfm self N (qjz self N nk ek q) ek) (exB 1 (qfm self N (qjz self N nk ek q) ek) ek) h hil ho hl d;refine⟨v1,U1,?_,t2,t3⟩;rw[L52_head nk ek h d vo q hil,dT hd,Bool.not_true,cF,show V.int .i64 0=.int .i64 ((0:Nat):Int)from rfl];refine(qny _ _ h hf hil ho hl d out 0 N rfl (by omega)).trans ?_;rw[Nat.zero_add,exB_same,t1,R52_14_eq,L52_adv hf hil,oB,N52_6_eq]
theorem L52_6_spec {self:EV} {N:Nat} (hN:1000<N) (nk:Ac->St->Rs) (ek:Nat->Ac->St->Rs) (hf:Fw R) (d:Int) (r:List REnt) :
 ∀(i q:Nat) (S:St) (vo:V) (out:List Bs),R.E.drop i=r->r.length<q->RAt S rb vL vE R->RV S vo 9 1 (qe2 out)->out.length<=i->
 ∃v U,L52_6 self N nk ek q (.ptr rb 0) (.int .i64 d) vo (.int .i64 (i:Int)) S=ek 0 (fr 71 [(5,v)]) U/\RV U v 9 1 (qe2 (qmt d r out))/\Grew (fun _=>False) S U:=by
 have hfe:=hf.e
 induction r with
 | nil=>
  intro i q S vo out hi hq h ho hl;cases q with
  | zero=>omega
  | succ q=>exact⟨vo,S,L52_end nk ek h d vo q (List.drop_eq_nil_iff.1 hi),ho,Grew.refl _ _⟩
 | cons e r ih=>
  intro i q S vo out hi hq h ho hl;cases q with
  | zero=>omega
  | succ q=>
   obtain⟨hil,he,hr,_⟩:=qgl hi;have hq':r.length<q:=by simpa using hq
   unfold qmt;by_cases hd:e.dir=d
   . rw[iP hd]
     have hd':R.E[i].dir=d:=by rw[he]; exact hd
     obtain⟨v1,U1,t1,t2,t3⟩:=L52_take (self:=self) hN nk ek h hf d ho (by omega) q hil hd';obtain⟨v,U,u1,u2,u3⟩:=ih (i+1) q U1 v1 (insB R.E[i].name out) hr hq' (h.grew0 t3) t2 (by rw[insB_len]; omega);rw[he]at u2;exact⟨v,U,t1.trans u1,u2,t3.trans u3⟩
   . rw[iN hd]
     have hd':¬R.E[i].dir=d:=by rw[he]; exact hd
     obtain⟨v,U,u1,u2,u3⟩:=ih (i+1) q S vo out hr hq' h ho (by omega);exact⟨v,U,(L52_skip nk ek h hf d vo q hil hd').trans u1,u2,u3⟩
theorem rd52 {n:Nat} {args:List V} {s:St} {r:En×St} (e:qb6 E0 (ev E0 KD n) qa4 Try.f52 B52 args s=some r):(ev E0 KD (n+1)).f 52 args s=some r:=qaa (c:=C52) (d:=B52) (by kernel_rfl) (by kernel_rfl) (qa5 C52 _ (by kernel_rfl)) rfl e
theorem RV.tl {v:V} {l:List Bs} (h:RV S v 9 1 (qe2 l)):TL S v l:=by
 rcases h with⟨h1,rfl⟩|⟨r,h1,h2,h3,h4⟩
 . have:l=[]:=by
    cases l with
    | nil=>rfl
    | cons a l=>cases h1
   subst this; exact .nil
 . rw[qe3]at h4
   rcases h4 with rfl|rfl
   . exact .own h1 h2
   . exact .sli h1 h2
theorem namesV_run (h:RAt S rb vL vE R) (hf:Fw R) (m:Nat) (d:Int):∃v U,(ev E0 KD (m+1)).f 52 [.ptr rb 0,.int .i64 d] S=some (.ret v,U)/\TL U v (R.namesR d)/\Grew (fun _=>False) S U:=by
 obtain⟨v,U,t1,t2,t3⟩:=L52_6_spec (self:=ev E0 KD m) (N:=qa4) (by unfold qa4; omega) (R52_2 (ev E0 KD m) qa4 (qc0 E0 (ev E0 KD m) Try.f52) qbd) (exB 0 (R52_2 (ev E0 KD m) qa4 (qc0 E0 (ev E0 KD m) Try.f52) qbd) qbd) hf d R.E 0 qa4 S .nilslice [] rfl (by have:=hf.e; unfold qa4; omega) h (.inl ⟨rfl,rfl⟩) (lR _);refine⟨v,U,rd52 ?_,t2.tl,t3⟩;show F52 (ev E0 KD m) qa4 (.ptr rb 0) (.int .i64 d) S=_;rw[F52_eq,show V.int .i64 0=.int .i64 ((0:Nat):Int)from rfl];refine t1.trans ?_;rw[exB_same,R52_2_eq]
end
section
variable {S U:St} {rb:Nat} {vL vE:V} {R:RT}
theorem rd51 {n:Nat} {args:List V} {s:St} {r:En×St} (e:qb6 E0 (ev E0 KD n) qa4 Try.f51 B51 args s=some r):(ev E0 KD (n+1)).f 51 args s=some r:=qaa (c:=C51) (d:=B51) (by kernel_rfl) (by kernel_rfl) (qa5 C51 _ (by kernel_rfl)) rfl e
theorem L51_spec {self:EV} {N:Nat} (nk:Ac->St->Rs) (ek:Nat->Ac->St->Rs) (ho:S.on=false) {v w:V} {l:List Bs} (hv:TL S v l) (hw:TL S w l) (hl:l.length<1000000) (r:List Bs):∀(i q:Nat),l.drop i=r->r.length<q->
 L51_10 self N nk ek q v w (.int .i64 (i:Int)) S=ek 0 (fr 26 []) S:=by
 induction r with
 | nil=>
  intro i q hi hq;cases q with
  | zero=>omega
  | succ q=>
   have hge:l.length<=i:=List.drop_eq_nil_iff.1 hi;rw[L51_10_eq,hv.len,oB];dsimp only;rw[qjc,dF (by omega),oB,ifK_bool,cF]
 | cons a r ih=>
  intro i q hi hq;cases q with
  | zero=>omega
  | succ q=>
   obtain⟨hil,ha,hr,_⟩:=qgl hi;obtain⟨p1,L1,a1,a2,a3⟩:=hv.ldL ho hil;obtain⟨p2,L2,b1,b2,b3⟩:=hw.ldL ho hil;rw[L51_10_eq,hv.len,oB];dsimp only;rw[qjc,dT (by omega),oB,ifK_bool,cT,a1,oB,a2,oB];dsimp only;rw[b1,oB,show onS (S.lg [L1])=onS S from rfl,b2,oB];dsimp only
   rw[neStr,beq_self_eq_true,oB,qca (by
    have hm:meet L1 L2=false:=by
     obtain⟨x1,y1,z1,w1⟩:=L1;obtain⟨x2,y2,z2,w2⟩:=L2;simp only at a3 b3;subst a3; subst b3;exact qh6 ..
    show(bif (bif qd5 [L1] [L2]then true else false)then false else true)=true
    simp only[qd5,qem,hm,cF,cT]),show onS (S.lg [L2])=S.lg []from rfl,qee ho ho rfl,Bool.not_true,ifK_bool,cF,qlt _ _ _ _ _ (by unfold qaj; omega) (by unfold qaj; omega),oB,show(i:Int)+1=((i+1:Nat):Int) by omega]
   exact ih (i+1) q hr (by simpa using hq)
theorem texts_same (ho:S.on=false) {v w:V} {l:List Bs} (hv:TL S v l) (hw:TL S w l) (hl:l.length<1000000) (m:Nat):(ev E0 KD (m+1)).f 51 [v,w] S=some (.ret (.bool true),S):=rd51 (by
 show F51 (ev E0 KD m) qa4 v w S=_;rw[F51_eq,hv.len,oB];dsimp only;rw[hw.len,oB];dsimp only
 rw[qna,dT rfl,oB,Bool.not_true,ifK_bool,cF,show V.int .i64 0=.int .i64 ((0:Nat):Int)from rfl,L51_spec _ _ ho hv hw hl l 0 qa4 rfl (by unfold qa4; omega),exB_same,R51_7_eq])
theorem RAt.setW (h:RAt S rb vL vE R) {i:Nat} (hi:i<R.L.length) (x:RIno):∃r U,ixP 4 vL (.int .i64 (i:Int))=some (.ptr r (i*4))/\stP 4 (.ptr r (i*4)) (qbz x.cells) S=some (.tuple [],U)/\RAft S U rb vL vE vL vE {R with L:=R.L.set i x}:=by
 obtain⟨r,q0,q1,q2,q3⟩:=h.L.at (i:=i) (by rw[qd1]; exact hi)
 obtain⟨U,u1,u2,u3,u4⟩:=q2.stK h.on (i:=i) (by rw[qd1]; exact hi) x.tree;have hap:=h.apart q0;refine⟨r,U,q1,?_,⟨u3.on.trans h.on,h.bx.grew h.lt (fun e=>hap.1 e.symm) u3,?_,h.E.grew (fun r' hr' e=>hap.2 (by subst e; exact hr')) u3,by rw[u4]; exact h.lt⟩,u3.mono fun y _ e=>by subst e; exact .inr (.inl q0),fun y hy=>.inl hy⟩
 . show vu (stK S r (i*4) 4 x.tree)=_
   rw[u1]; rfl
 have hrow:qg8 (R.L.set i x)=(qg8 R.L).set i x.tree:=by unfold qg8; rw[List.map_set]
 rw[<- hrow]at u2;rcases h.L with⟨h1,h2⟩|⟨r',h1,h2,h3,h4⟩
 . rw[h2]at q0; cases q0
 . have hrr:r'=r:=by
    rcases h4 with h4|h4<;>(rw[h4]at q0; exact Option.some.inj q0)
   subst hrr;have hlen:(qg8 (R.L.set i x)).length=(qg8 R.L).length:=by rw[qd1,qd1,List.length_set]
   exact .inr ⟨r',u2,by rw[u4]; exact h2,by rw[hlen]; exact h3,by rw[hlen]; exact h4⟩
theorem rd43 {n:Nat} {args:List V} {s:St} {r:En×St} (e:qb6 E0 (ev E0 KD n) qa4 Try.f43 B43 args s=some r):(ev E0 KD (n+1)).f 43 args s=some r:=qaa (c:=C43) (d:=B43) (by kernel_rfl) (by kernel_rfl) (qa5 C43 _ (by kernel_rfl)) rfl e
def RT.unlinkE (R:RT) (d:Int) (a:Bs):Int:=if R.dirE d=0 then(match R.find d a with|none=>5|some i=>if R.namesR i=[]then 0 else 20)else R.dirE d
def RT.less (R:RT) (d:Int) (a:Bs):RT:={R with E:=R.E.eraseIdx (qg6 d a R.E 0).toNat}
def RT.linksR (R:RT) (i:Int):Int:=if i=1 then 1 else(cntE i R.E:Int)
def RT.unlink (R:RT) (d:Int) (a:Bs):RT:=if R.unlinkE d a=0 then(match R.find d a with|none=>R|some i=>if(R.less d a).linksR i=0 then(R.less d a).upd i (fun _=>⟨0,0,[]⟩)else R.less d a)else R
theorem node_live {i:Int} (hk:R.kind i≠0):∃k m d,(R.node i)=(qbz [.int .i64 k,.int .i64 m,sv d,.int .i64 (R.linksR i)],true):=by
 obtain⟨h1,hi,_⟩:=RT.kind_some hk;unfold RT.node RT.linksR;rw[iN hk,List.getElem?_eq_getElem hi];exact⟨_,_,_,rfl⟩
theorem less_kind (d:Int) (a:Bs) (i:Int):(R.less d a).kind i=R.kind i:=rfl
theorem runlink_run (h:RAt S rb vL vE R) (hf:Fw R) (m:Nat) (d:Int) (a:Bs) (hlive:∀i,R.find d a=some i->R.kind i≠0):∃U vE',(ev E0 KD (m+3)).f 43 [.ptr rb 0,.int .i64 d,sv a] S=some (.ret (.int .i64 (R.unlinkE d a)),U)/\RAft S U rb vL vE vL vE' (R.unlink d a):=by
 have stop:∀{e:Int} {A:St},R.unlinkE d a=e->e≠0->Grew (fun _=>False) S A->F43 (ev E0 KD (m+2)) qa4 (.ptr rb 0) (.int .i64 d) (sv a) S=some (.ret (.int .i64 e),A)->∃U vE',(ev E0 KD (m+3)).f 43 [.ptr rb 0,.int .i64 d,sv a] S=some (.ret (.int .i64 (R.unlinkE d a)),U)/\RAft S U rb vL vE vL vE' (R.unlink d a):=fun{e A} he h0 hg hF=>by
  refine⟨A,vE,by rw[he]; exact rd43 hF,?_⟩;unfold RT.unlink;rw[iN (by rw[he]; exact h0)];exact RAft.none h hg
 have hfl:=hf.l;by_cases h1:R.dirE d=0
 . have h72:=qkv h hf m d
   rw[h1]at h72;cases hg:R.find d a with
   | none=>
    refine stop (e:=5) (by unfold RT.unlinkE; rw[iP h1,hg]) (by decide) (Grew.refl _ _) ?_;rw[F43_eq,h72,callP_ret,qna,dT rfl,oB,Bool.not_true,ifK_bool,cF,qcb h hf.e,callP_ret,qfq hg,qjc,dT (by omega),oB,ifK_bool,cT]
   | some i=>
    obtain⟨k,hk,k1,k2,_⟩:=qfr hg;obtain⟨x,q1,q2⟩:=h.ent hk;have f2:=q2 2 (.int .i64 i) (by rw[<- k2]; rfl);obtain⟨v,U1,u1,u2,u3⟩:=namesV_run h hf (m+1) i;have hU:=h.grew0 u3;have hlv:=hlive i hg
    have head:∀Q,((lnS v U1).bind fun p29=>
     (qa6 E0 .gtr 3 false true p29.1 (.int .i64 0)).bind fun t30=>
     ifK t30 (
     some (.ret (.int .i64 20),p29.2)) (
     qah ((ev E0 KD (m+2)).f 73 [.ptr rb 0,.int .i64 (k:Int)] p29.2) fun t34 S34=>
     qah ((ev E0 KD (m+2)).f 49 [.ptr rb 0,.int .i64 i] S34) fun t37 S37=>
     (qab t37 0).bind fun t39=>
     (qab t37 1).bind fun t40=>
     (some (nwP 35 4 (Tr.ofListFrom .nil [(.int .i64 0),(.int .i64 0),(sv []),(.int .i64 0)] 0) S37)).bind fun p41=>
     (stP 4 p41.1 t39 p41.2).bind fun p42=>
     (faP 3 false 1 p41.1).bind fun t44=>
     (ld1 t44 p42.2).bind fun p45=>
     (qa6 E0 .eql 3 false true p45.1 (.int .i64 0)).bind fun t46=>
     ifK t46 (
     (some (V.ptr rb 0)).bind fun t48=>
     (faP 2 false 1 t48).bind fun t49=>
     (ld1 t49 p45.2).bind fun p50=>
     (qa6 E0 .sub 3 false true (.int .i64 i) (.int .i64 1)).bind fun t52=>
     (qb9 E0 35 []).bind fun t53=>
     (ixP 4 p50.1 t52).bind fun t54=>
     (stP 4 t54 t53 p50.2).bind fun p55=>
     some (.ret (.int .i64 0),p55.2)) (
     some (.ret (.int .i64 0),p45.2))))=Q->F43 (ev E0 KD (m+2)) qa4 (.ptr rb 0) (.int .i64 d) (sv a) S=Q:=fun Q hQ=>by
     rw[F43_eq,h72,callP_ret,qna,dT rfl,oB,Bool.not_true,ifK_bool,cF,qcb h hf.e,callP_ret,k1,qjc,dF (by omega),oB,ifK_bool,cF,qc5,oB,qax,oB,Nat.zero_add,h.ldE,oB];dsimp only;rw[q1,oB,qax,oB,f2,oB];dsimp only;rw[u1,callP_ret];exact hQ
    have hE:R.unlinkE d a=if R.namesR i=[]then 0 else 20:=by unfold RT.unlinkE; rw[iP h1,hg]
    by_cases hn:R.namesR i=[]
    . rw[iP hn]at hE
      have hless:({R with E:=R.E.eraseIdx k}:RT)=R.less d a:=by unfold RT.less; rw[k1]; rfl
      obtain⟨U2,vE',c1,c2⟩:=drop_run hU hf (m+1) hk;rw[hless]at c2;have hf2:Fw (R.less d a):=⟨hf.l,by rw[<- hless]; exact Nat.le_trans (List.length_eraseIdx_le ..) hf.e⟩
      have hU2:=c2.at';obtain⟨U3,d1,d2⟩:=nodeV_run hU2 hf2 m i;have hU3:=hU2.grew0 d2;obtain⟨kk,mm,dd,hnode⟩:=node_live (R:=R.less d a) (i:=i) (by rw[less_kind]; exact hlv);rw[hnode]at d1;obtain⟨U4,e1,e2,e3,e4⟩:=qf2 hU3.on 35 4 (Tr.ofListFrom .nil [(.int .i64 0),(.int .i64 0),(sv []),(.int .i64 0)] 0) [.int .i64 kk,.int .i64 mm,sv dd,.int .i64 ((R.less d a).linksR i)] rfl (by omega) qi6;have hU4:=hU3.grew0 e3;have f3:=Bx6.ld hU4.on e2 qi6 (i:=3) rfl;have gA:RAft S U4 rb vL vE vL vE' (R.less d a):=(c2.pre u3).trans (RAft.none c2.at' (d2.trans e3))
      have hun:R.unlink d a=if(R.less d a).linksR i=0 then(R.less d a).upd i (fun _=>⟨0,0,[]⟩)else R.less d a:=by
       unfold RT.unlink;rw[iP hE,hg]
      have mid:∀Q,((qa6 E0 .eql 3 false true (.int .i64 ((R.less d a).linksR i)) (.int .i64 0)).bind fun t46=>
       ifK t46 (
       (some (V.ptr rb 0)).bind fun t48=>
       (faP 2 false 1 t48).bind fun t49=>
       (ld1 t49 U4).bind fun p50=>
       (qa6 E0 .sub 3 false true (.int .i64 i) (.int .i64 1)).bind fun t52=>
       (qb9 E0 35 []).bind fun t53=>
       (ixP 4 p50.1 t52).bind fun t54=>
       (stP 4 t54 t53 p50.2).bind fun p55=>
       some (.ret (.int .i64 0),p55.2)) (
       some (.ret (.int .i64 0),U4)))=Q->F43 (ev E0 KD (m+2)) qa4 (.ptr rb 0) (.int .i64 d) (sv a) S=Q:=fun Q hQ=>head _ (by
        rw[u2.len,hn,oB];dsimp only;rw[qm3,show decide ((0:Int)<((([]:List Bs).length:Nat):Int))=false from rfl,oB,ifK_bool,cF,c1,callP_ret,d1,callP_ret];rw[show ∀(p q:V),qab (.tuple [p,q]) 0=some p from fun _ _=>rfl,oB,show ∀(p q:V),qab (.tuple [p,q]) 1=some q from fun _ _=>rfl,oB,oB,qdz,e1,oB,qax,oB,Nat.zero_add];dsimp only;rw[f3,oB]
        exact hQ)
      by_cases hz:(R.less d a).linksR i=0
      . obtain⟨i1,hi,_⟩:=RT.kind_some (R:=R.less d a) (i:=i) (by rw[less_kind]; exact hlv)
        obtain⟨r,U5,s1,s2,s3⟩:=hU4.setW hi ⟨0,0,[]⟩;have hil:(i-1).toNat<R.L.length:=hi;refine⟨U5,vE',?_,by rw[hun,iP hz,RT.upd_at hi]; exact gA.trans s3⟩;rw[hE];refine rd43 (mid _ ?_);rw[qbl,dT hz,oB,ifK_bool,cT,oB,qax,oB,Nat.zero_add,hU4.ldL,oB];dsimp only;rw[sub1 i1 (by omega),oB,build35e,oB,s1,oB,show inoV 0 0 [] 0=qbz (RIno.mk 0 0 []).cells from rfl,s2,oB]
      . refine⟨U4,vE',?_,by rw[hun,iN hz]; exact gA⟩
        rw[hE];refine rd43 (mid _ ?_);rw[qbl,dF hz,oB,ifK_bool,cF]
    . rw[iN hn]at hE
      refine stop hE (by decide) u3 (head _ ?_);have hp:0<(R.namesR i).length:=List.length_pos_iff.2 hn;rw[u2.len,oB];dsimp only;rw[qm3,dT (by omega),oB,ifK_bool,cT]
 . refine stop (e:=R.dirE d) (by unfold RT.unlinkE; rw[iN h1]) h1 (Grew.refl _ _) ?_
   rw[F43_eq,qkv h hf m d,callP_ret,qna,dF h1,oB,nF,ifK_bool,cT]
end
end Go.Proofs.Ytbihlgcdnhoknaa.W
