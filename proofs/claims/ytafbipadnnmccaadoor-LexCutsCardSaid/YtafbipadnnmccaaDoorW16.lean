/-
  WHAT THE FUNCTIONS COME TO: each is read by the evaluator,printed,and told as a function of data,part 16 of 17 (no condition).
-/
import Derived.Test.YtafbipadnnmccaaDoorW15
noncomputable section
namespace Go.Proofs.YtafbipadnnmccaaDoor.W
open Go.Proofs.YtafbipadnnmccaaDoor.Ev Go.RowKit
def docq9 (self:EV) (v4:V) (X:St) (k:V->St->Rs):Rs:=
(lnS v4 (onS X)).bind fun p265=>
(qa4 E0 .gtr 3 false true p265.1 (.int .i64 0)).bind fun t266=>
(qa0 true t266).bind fun g268=>(bif g268 then some v4 else some (.tuple [])).bind fun t268=>
(qa0 true t266).bind fun g269=>(bif g269 then some v4 else some (.tuple [])).bind fun t269=>
(qa0 true t266).bind fun g270=>(bif g270 then lnS t269 (onS p265.2)else some (.tuple [],(onS p265.2))).bind fun p270=>
(qa0 true t266).bind fun g271=>(bif g271 then qa4 E0 .sub 3 false true p270.1 (.int .i64 1)else some (.tuple [])).bind fun t271=>
(qa0 true t266).bind fun g272=>(bif g272 then ixP 5 t268 t271 else some (.tuple [])).bind fun t272=>
(qa0 true t266).bind fun g273=>(bif g273 then faP 0 false 1 t272 else some (.tuple [])).bind fun t273=>
(qa0 true t266).bind fun g274=>(bif g274 then ld1 t273 (onS p270.2)else some (.tuple [],(onS p270.2))).bind fun p274=>
(qa0 true t266).bind fun g275=>(bif g275 then qa4 E0 .eql 3 false true p274.1 (.int .i64 1)else some (.tuple [])).bind fun t275=>
(qac t266 (some t275) (some (.bool false))).bind fun t276=>
(qa0 true t276).bind fun g278=>(bif g278 then some v4 else some (.tuple [])).bind fun t278=>
(qa0 true t276).bind fun g279=>(bif g279 then some v4 else some (.tuple [])).bind fun t279=>
(qa0 true t276).bind fun g280=>(bif g280 then lnS t279 (onS p274.2)else some (.tuple [],(onS p274.2))).bind fun p280=>
(qa0 true t276).bind fun g281=>(bif g281 then qa4 E0 .sub 3 false true p280.1 (.int .i64 1)else some (.tuple [])).bind fun t281=>
(qa0 true t276).bind fun g282=>(bif g282 then ixP 5 t278 t281 else some (.tuple [])).bind fun t282=>
(qa0 true t276).bind fun g283=>(bif g283 then faP 1 false 1 t282 else some (.tuple [])).bind fun t283=>
(qa0 true t276).bind fun g284=>(bif g284 then ld1 t283 (onS p280.2)else some (.tuple [],(onS p280.2))).bind fun p284=>
(qa0 true t276).bind fun g285=>(bif g285 then some v4 else some (.tuple [])).bind fun t285=>
(qa0 true t276).bind fun g286=>(bif g286 then some v4 else some (.tuple [])).bind fun t286=>
(qa0 true t276).bind fun g287=>(bif g287 then lnS t286 (onS p284.2)else some (.tuple [],(onS p284.2))).bind fun p287=>
(qa0 true t276).bind fun g288=>(bif g288 then qa4 E0 .sub 3 false true p287.1 (.int .i64 1)else some (.tuple [])).bind fun t288=>
(qa0 true t276).bind fun g289=>(bif g289 then ixP 5 t285 t288 else some (.tuple [])).bind fun t289=>
(qa0 true t276).bind fun g290=>(bif g290 then faP 1 false 1 t289 else some (.tuple [])).bind fun t290=>
(qa0 true t276).bind fun g291=>(bif g291 then ld1 t290 (onS p287.2)else some (.tuple [],(onS p287.2))).bind fun p291=>
(qa0 true t276).bind fun g292=>(bif g292 then qbf p291.1 (onS p291.2)else some (.tuple [],(onS p291.2))).bind fun p292=>
(qa0 true t276).bind fun g293=>(bif g293 then qa4 E0 .sub 3 false true p292.1 (.int .i64 2)else some (.tuple [])).bind fun t293=>
(qa0 true t276).bind fun g294=>(bif g294 then qi6 maxV t293 [(.int .i64 0)] (onS p292.2)else some (.tuple [],(onS p292.2))).bind fun p294=>
(qa0 true t276).bind fun g295=>qkp (qax E0 (B9.r.r.r.r.r.r.l.l.l.l.r.l.r.r.l.r.l.r.r.l.r.r.r.r.r.l).ops) X 31 [[],p265.2.log,[],[],[],[],p270.2.log,[],[],[],p274.2.log,[],[],[],[],[],p280.2.log,[],[],[],p284.2.log,[],[],p287.2.log,[],[],[],p291.2.log,p292.2.log,[],p294.2.log] (bif g295 then self.f 26 [p284.1,p294.1,(sv [60,60])] (onS p294.2)else some (.ret (.tuple []),(onS p294.2))) fun t295 S295=>
(qac t276 (some t295) (some (.bool false))).bind fun t296=>
qhh [(16,[23,27,28,30]),(20,[23,27,28,30])] X [[],p265.2.log,[],[],[],[],p270.2.log,[],[],[],p274.2.log,[],[],[],[],[],p280.2.log,[],[],[],p284.2.log,[],[],p287.2.log,[],[],[],p291.2.log,p292.2.log,[],p294.2.log,S295.log,[],[]] (onS S295) fun S298=>
k t296 S298
def tail9 (self:EV) (N:Nat) (nk:Ac->St->Rs) (ek:Nat->Ac->St->Rs) (v0 v3 v4 v5 v6 v7 nV:V) (S:St):Rs:=
(qa4 E0 .add 3 false false v7 nV).bind fun t210=>
callP (self.f 30 [v0,t210] S) fun t211 S211=>
(qa4 E0 .neq 9 false true t211 (sv [])).bind fun t214=>
ifK t214 (
(qa4 E0 .add 3 false false v7 nV).bind fun t220=>
(qbf t211 S211).bind fun p222=>
(qa4 E0 .add 3 false false t220 p222.1).bind fun t223=>
(qah E0 9 v0 (some v7) (some t223) none p222.2).bind fun p224=>
(qa7 E0 39 [(0,(.int .i64 1)),(1,p224.1),(4,v7)]).bind fun t226=>
(bsP 39 5 1 (Tr.ofListFrom .nil [(.int .i64 0),(sv []),.nilslice,(.bool false),(.int .i64 0)] 0) [(0,t226)] p224.2).bind fun p227=>
(apP 39 5 64 v4 p227.1 p227.2).bind fun p228=>
(qa4 E0 .add 3 false false v7 nV).bind fun t232=>
(qbf t211 p228.2).bind fun p234=>
(qa4 E0 .add 3 false false t232 p234.1).bind fun t235=>
ek 1 (fr 293 [(0,v0),(3,v3),(4,p228.1),(5,v5),(6,v6),(7,t235)]) p234.2) (
(ixS v0 v7).bind fun t239=>
(qa4 E0 .eql 5 false true t239 (.int .u8 38)).bind fun t240=>
ifK t240 (
callP (self.f 28 [v7] S211) fun t242 S242=>
(stP 2 v3 t242 S242).bind fun p244=>
(ldrA 2 v3 p244.2).bind fun p245=>
some (.ret (.tuple [.nilslice,p245.1]),p245.2)) (
callP (self.f 29 [v0,v7,(.int .i64 0),(.int .i64 0)] S211) fun t248 S248=>
(qa6 t248 0).bind fun t250=>
(qa6 t248 1).bind fun t251=>
(qa6 t248 2).bind fun t252=>
(some (nwP 29 2 (Tr.ofListFrom .nil [(.int .i64 0),(.int .i64 0)] 0) S248)).bind fun p253=>
(stP 2 p253.1 t252 p253.2).bind fun p256=>
(faP 0 false 1 p253.1).bind fun t257=>
(ld1 t257 p256.2).bind fun p258=>
(qa4 E0 .neq 27 false true p258.1 (.int .i64 0)).bind fun t259=>
ifK t259 (
(ldA 2 p253.1 (onS p258.2)).bind fun p260=>
(stP 2 v3 p260.1 (onS p260.2)).bind fun p262=>
(ldrA 2 v3 (qbk p258.2 p262.2 [p260.2.log,[],p262.2.log])).bind fun p263=>
some (.ret (.tuple [.nilslice,p263.1]),p263.2)) (
docq9 self v4 p258.2 fun t296 S298=>
(qa7 E0 39 [(0,(.int .i64 0)),(2,t250),(4,v7)]).bind fun t302=>
(bsP 39 5 1 (Tr.ofListFrom .nil [(.int .i64 0),(sv []),.nilslice,(.bool false),(.int .i64 0)] 0) [(0,t302)] S298).bind fun p303=>
(apP 39 5 64 v4 p303.1 p303.2).bind fun p304=>
ifK t296 (
callP (self.f 31 [t250] p304.2) fun t308 S308=>
(qa6 t308 0).bind fun t310=>
(qa6 t308 1).bind fun t311=>
(qa6 t308 2).bind fun t312=>
(unV .not t312).bind fun t317=>
ifK t317 (
callP (self.f 28 [v7] S308) fun t319 S319=>
(stP 2 v3 t319 S319).bind fun p321=>
(ldrA 2 v3 p321.2).bind fun p322=>
some (.ret (.tuple [.nilslice,p322.1]),p322.2)) (
(lnS p304.1 S308).bind fun p325=>
(bsP 3 1 1 (Ev.one (.int .i64 0)) [(0,p325.1)] p325.2).bind fun p326=>
(apP 3 1 8 v5 p326.1 p326.2).bind fun p327=>
(bsP 9 1 1 (Ev.one (sv [])) [(0,t310)] p327.2).bind fun p331=>
(apP 9 1 16 v6 p331.1 p331.2).bind fun p332=>
(qa7 E0 39 [(0,(.int .i64 3)),(3,t311),(4,v7)]).bind fun t337=>
(bsP 39 5 1 (Tr.ofListFrom .nil [(.int .i64 0),(sv []),.nilslice,(.bool false),(.int .i64 0)] 0) [(0,t337)] p332.2).bind fun p338=>
(apP 39 5 64 p304.1 p338.1 p338.2).bind fun p339=>
nk (fr 293 [(0,v0),(3,v3),(4,p339.1),(5,p327.1),(6,p332.1),(7,t251)]) p339.2)) (
nk (fr 293 [(0,v0),(3,v3),(4,p304.1),(5,v5),(6,v6),(7,t251)]) p304.2))))
theorem R9_35_step (self:EV) (N:Nat) (nk:Ac->St->Rs) (ek:Nat->Ac->St->Rs) ( v0 v3 v4 v5 v6 v7:V) (S:St):R9_35 self N nk ek (fr 293 [(0,v0),(3,v3),(4,v4),(5,v5),(6,v6),(7,v7)]) S =
(ixS v0 v7).bind fun t39=>
(qa4 E0 .geq 5 false true t39 (.int .u8 48)).bind fun t40=>
(qa0 true t40).bind fun g42=>(bif g42 then some v0 else some (.tuple [])).bind fun t42=>
(qa0 true t40).bind fun g43=>(bif g43 then some v7 else some (.tuple [])).bind fun t43=>
(qa0 true t40).bind fun g44=>(bif g44 then ixS t42 t43 else some (.tuple [])).bind fun t44=>
(qa0 true t40).bind fun g45=>(bif g45 then qa4 E0 .leq 5 false true t44 (.int .u8 50)else some (.tuple [])).bind fun t45=>
(qac t40 (some t45) (some (.bool false))).bind fun t46=>
(qa0 true t46).bind fun g48=>(bif g48 then some v7 else some (.tuple [])).bind fun t48=>
(qa0 true t46).bind fun g49=>(bif g49 then qa4 E0 .add 3 false true t48 (.int .i64 1)else some (.tuple [])).bind fun t49=>
(qa0 true t46).bind fun g50=>(bif g50 then some v0 else some (.tuple [])).bind fun t50=>
(qa0 true t46).bind fun g51=>(bif g51 then qbf t50 S else some (.tuple [],S)).bind fun p51=>
(qa0 true t46).bind fun g52=>(bif g52 then qa4 E0 .lss 3 false false t49 p51.1 else some (.tuple [])).bind fun t52=>
(qac t46 (some t52) (some (.bool false))).bind fun t53=>
(qa0 true t53).bind fun g55=>(bif g55 then some v0 else some (.tuple [])).bind fun t55=>
(qa0 true t53).bind fun g56=>(bif g56 then some v7 else some (.tuple [])).bind fun t56=>
(qa0 true t53).bind fun g57=>(bif g57 then qa4 E0 .add 3 false true t56 (.int .i64 1)else some (.tuple [])).bind fun t57=>
(qa0 true t53).bind fun g58=>(bif g58 then ixS t55 t57 else some (.tuple [])).bind fun t58=>
(qa0 true t53).bind fun g59=>(bif g59 then qa4 E0 .eql 5 false true t58 (.int .u8 60)else some (.tuple [])).bind fun t59=>
(qa0 true t53).bind fun g60=>(bif g60 then some t59 else some (.tuple [])).bind fun t60=>
(qa0 false t60).bind fun g61=>(bif g61 then some v0 else some (.tuple [])).bind fun t61=>
(qa0 false t60).bind fun g62=>(bif g62 then some v7 else some (.tuple [])).bind fun t62=>
(qa0 false t60).bind fun g63=>(bif g63 then qa4 E0 .add 3 false true t62 (.int .i64 1)else some (.tuple [])).bind fun t63=>
(qa0 false t60).bind fun g64=>(bif g64 then ixS t61 t63 else some (.tuple [])).bind fun t64=>
(qa0 false t60).bind fun g65=>(bif g65 then qa4 E0 .eql 5 false true t64 (.int .u8 62)else some (.tuple [])).bind fun t65=>
(qa0 true t53).bind fun g66=>(bif g66 then qac t60 (some (.bool true)) (some t65)else some (.tuple [])).bind fun t66=>
(qac t53 (some t66) (some (.bool false))).bind fun t67=>
ifK t67 (tail9 self N nk ek v0 v3 v4 v5 v6 v7 (.int .i64 1) p51.2) (tail9 self N nk ek v0 v3 v4 v5 v6 v7 (.int .i64 0) p51.2):=by kernel_rfl
theorem at_last (t:Bs):atD t (t.length-2) [60,60]=(t.drop (t.length-2)==[60,60]):=by
 unfold atD;rw[List.take_of_length_le (by rw[List.length_drop]; simp; omega)]
theorem maxN (a:Nat) (S:St):qi6 maxV (.int .i64 ((a:Int)-2)) [.int .i64 0] S=some (.int .i64 ((a-2:Nat):Int),S):=by
 rw[foldK_max]
 congr 3
 omega
theorem sub2 {a:Nat} (h:a<1000000000):qa4 E0 .sub 3 false true (.int .i64 (a:Int)) (.int .i64 2)=some (.int .i64 ((a:Int)-2)):=by
 rw[binV_ii,intsV_sub,qe6 (by omega) (by omega)]
section
variable {K:FuncId->Option KF} {S U T:St} {i j N P:Nat} {s:Bs} {toks:List Tok} {waits:List (Nat×Bs)} {v4 v5 v6:V} {X Y:Tr V} {d q:Nat} {nk:Ac->St->Rs} {ek:Nat->Ac->St->Rs}
theorem docq9_run (hK:RefL K) (m:Nat) (h:DX S N toks waits v4 v5 v6) (htx:∀x∈toks,x.text.length<1000000) (hl:toks.length<1000000) (k:V->St->Rs):docq9 (ev E0 K (m+1)) v4 S k=k (.bool (docQ toks)) S:=by
 obtain⟨rT,r1,r2⟩:=h.tk;have ho:=h.on;have e1:=r2.1;unfold docq9 docQ;rw[qee,r1.len,b_s];dsimp only;rw[gtr0,b_s,e1];rcases Nat.eq_zero_or_pos toks.length with h0|h0
 . have:toks=[]:=List.eq_nil_of_length_eq_zero h0
   subst this;rw[show decide (0<([]:List Tok).length)=false from rfl];simp only[g_t,qf1,b_s,c_f,p_b,qbs,qee,llg];rw[qcb (by rfl),qco ho];rfl
 . obtain⟨x,hx⟩:∃x,toks.getLast?=some x:=by
    cases hg:toks.getLast? with
    | none=>rw[List.getLast?_eq_none_iff]at hg; subst hg; simp at h0
    | some x=>exact⟨x,rfl⟩
   have hxi:toks[toks.length-1]?=some x:=by rw[<- List.getLast?_eq_getElem?]; exact hx
   have hxm:x∈toks:=List.mem_of_getElem? hxi;obtain⟨r,v,a1,a2,a3,a6,a7⟩:=h.tok hxi;have l0:=a6 0 _ (by omega) (rowT0 x v);have l1:=a6 1 _ (by omega) (rowT1 x v);have hlen:∀Y,lnS v4 Y=some (.int .i64 (toks.length:Int),Y):=fun Y=>by rw[r1.len,e1]
   have hsub:=subC 1 (i:=toks.length) (by omega) (by omega);rw[show(V.int .i64 ((1:Nat):Int))=.int .i64 1 from rfl]at hsub;have g0:∀L,ld1 (.ptr r ((toks.length-1)*5+0)) (S.lg L)=some (.int .i64 (x.kind:Int),S.lg (⟨r,(toks.length-1)*5+0,(toks.length-1)*5+0+1,false⟩::L)):=fun L=>qbj ho l0 L;have g1:∀L,ld1 (.ptr r ((toks.length-1)*5+1)) (S.lg L)=some (sv x.text,S.lg (⟨r,(toks.length-1)*5+1,(toks.length-1)*5+1+1,false⟩::L)):=fun L=>qbj ho l1 L;have f0:faP 0 false 1 (.ptr r ((toks.length-1)*5))=some (.ptr r ((toks.length-1)*5+0)):=faPg 0 0 _ false r;have f1:faP 1 false 1 (.ptr r ((toks.length-1)*5))=some (.ptr r ((toks.length-1)*5+1)):=faPg 1 0 _ false r;have e3:=i3eq x.kind 1;rw[show(V.int .i64 ((1:Nat):Int))=.int .i64 1 from rfl]at e3;have htl:=htx x hxm;have e5:=sub2 (a:=x.text.length) (by omega);have e6:=fun Y=>maxN x.text.length Y;have e7:=fun Y=>qdy hK m x.text (x.text.length-2) [60,60] (by omega) (by decide) (by decide) Y;rw[dT h0,hx];by_cases hk:x.kind=1
   . rw[dT hk]at e3
     simp only[g_t,b_s,c_t,p_b,hlen,hsub,a2,f0,f1,g0,g1,e3,qfm,e5,e6,qee,llg];rw[e7,qbs,qcb (by rfl),llg,qco ho,at_last,show(x.kind==1)=true by simp[hk],Bool.true_and]
   . rw[dF hk]at e3
     simp only[g_t,qf1,b_s,c_t,c_f,p_b,hlen,hsub,a2,f0,g0,e3,qee,llg,qbs];rw[qcb (by rfl),qco ho,show(x.kind==1)=false by simp[hk],Bool.false_and]
end
theorem build_hq (n:Nat) (b:Bool):qa7 E0 39 [(0,(.int .i64 3)),(3,.bool b),(4,.int .i64 (n:Int))]=some (.agg 5 (qeb ⟨3,[],[],b,n⟩ .nilslice)):=by kernel_rfl
section
variable {K:FuncId->Option KF} {S U T:St} {i j N P:Nat} {s:Bs} {toks:List Tok} {waits:List (Nat×Bs)} {v4 v5 v6:V} {X Y:Tr V} {d q:Nat} {nk:Ac->St->Rs} {ek:Nat->Ac->St->Rs}
abbrev StpR (o:Except Flt (Nat×List Tok×List (Nat×Bs))) (S:St) (N:Nat) (r:Rs) (G:V->V->V->V->St->Rs):Prop:=match o with
 | .ok q=>∃U a4 a5 a6,r=G a4 a5 a6 (.int .i64 (q.1:Int)) U/\DX U N q.2.1 q.2.2 a4 a5 a6/\Grew (fun x=>N<=x) S U
 | .error e=>LxdR (.error e) S N r
theorem StpR.after {o:Except Flt (Nat×List Tok×List (Nat×Bs))} {r:Rs} {G:V->V->V->V->St->Rs} (g:Grew (fun x=>N<=x) S T) (h:StpR o T N r G):StpR o S N r G:=by
 cases o with
 | ok q=>
  obtain⟨U,a4,a5,a6,h1,h2,h3⟩:=h;exact⟨U,a4,a5,a6,h1,h2,g.trans h3⟩
 | error e=>exact LxdR.after (o:=.error e) g h
def mwD (s:Bs) (i:Nat) (toks:List Tok) (waits:List (Nat×Bs)):Except Flt (Nat×List Tok×List (Nat×Bs)):=match mrkD s i toks waits with
 | some r=>r
 | none=>wrdD s i toks waits
theorem tail9_run (hK:RefL K) (d:Nat) (hs:s.length<=5000) (hd:18*s.length+600<=d) (h:DX S N toks waits v4 v5 v6) (hI:Inv s i toks waits) (hi:i<s.length) {G:V->V->V->V->St->Rs}
 (hnk:∀a4 a5 a6 a7 U,nk (fr 293 [(0,sv s),(3,.ptr N 0),(4,a4),(5,a5),(6,a6),(7,a7)]) U=G a4 a5 a6 a7 U)
 (hek:∀a4 a5 a6 a7 U,ek 1 (fr 293 [(0,sv s),(3,.ptr N 0),(4,a4),(5,a5),(6,a6),(7,a7)]) U=G a4 a5 a6 a7 U) (M:Nat) :
 StpR (mwD s i toks waits) S N (tail9 (ev E0 K (d+2)) M nk ek (sv s) (.ptr N 0) v4 v5 v6 (.int .i64 (i:Int)) (.int .i64 ((if ql2 s i then 1 else 0:Nat):Int)) S) G:=by
 have hIt:=hI.t;have hIw:=hI.w;have hlt:=h.lt;obtain⟨U,m1,m2⟩:=dmark_run hK d h.on s (i+if ql2 s i then 1 else 0) (by split<;>omega);have hU:=h.move (m2.mono fun x _ h=>h.elim);have gU:Grew (fun x=>N<=x) S U:=m2.mono fun x _ h=>h.elim;generalize hR:tail9 (ev E0 K (d+2)) M nk ek (sv s) (.ptr N 0) v4 v5 v6 (.int .i64 (i:Int)) (.int .i64 ((if ql2 s i then 1 else 0:Nat):Int)) S=R;unfold tail9 at hR;have hadd:qa4 E0 .add 3 false false (.int .i64 (i:Int)) (.int .i64 ((if ql2 s i then 1 else 0:Nat):Int))=some (.int .i64 ((i+(if ql2 s i then 1 else 0):Nat):Int)):=addN (by split<;>omega);rw[hadd,b_s,m1,callP_ret,neStr,b_s,i_b]at hR;have hmk:=qlb s i;unfold mwD mrkD;cases hf:marT.find? fun o=>atD s (i+if ql2 s i then 1 else 0) o with
 | some o=>
  rw[hf]at hR hmk;obtain⟨f1,f2⟩:=ql4 hf;have hmk:qhi s i=(if ql2 s i then 1 else 0)+o.length:=hmk
  have hne:((some o:Option Bs).getD []==[])=false:=by
   cases o with
   | nil=>simp at f2
   | cons c o=>rfl
  rw[hne,nF,c_t,b_s,qfm,b_s]at hR;dsimp only at hR;rw[show(some o:Option Bs).getD []=o from rfl]at hR;rw[addN (by split<;>omega),b_s,qap qij s (qav .i64 .i64 (by omega) f1) f1,b_s]at hR;dsimp only at hR;rw[show(s.drop i).take (i+(if ql2 s i then 1 else 0)+o.length-i)=(s.drop i).take (qhi s i) by rw[hmk]; congr 1; omega,build_op,b_s]at hR;obtain⟨U2,v4',u1,u2,u3⟩:=hU.push (t:=⟨1,(s.drop i).take (qhi s i),[],false,i⟩) (qk8 ..) (by omega);rw[zT_eq,u1]at hR;dsimp only at hR;rw[b_s,qfm,b_s]at hR;dsimp only at hR;rw[addN (by split<;>omega),b_s,hek]at hR;rw[iP (by rw[hmk]; omega)];refine⟨U2,v4',v5,v6,?_,u2,gU.trans (hU.ge u3)⟩;rw[<- hR];show G _ _ _ _ _=G _ _ _ (.int .i64 ((i+qhi s i:Nat):Int)) _;rw[hmk,<- Nat.add_assoc]
 | none=>
  rw[hf]at hR hmk;have hmk:qhi s i=0:=hmk;rw[show((none:Option Bs).getD []==[])=true from rfl,Bool.not_true,c_f,qbl s .i64 i hi,qb9 hi,b_s]at hR;have e38:=u8c (byt s i) 38 (by decide);rw[show((38:Nat):Int)=38 from rfl,show UInt8.ofNat 38=38 from rfl]at e38;rw[e38,b_s,i_b]at hR;rw[iN (by rw[hmk]; simp),qbn hi];refine StpR.after gU ?_;by_cases h38:byt s i=38
  . rw[dT h38,c_t]at hR
    rw[dT h38,iP rfl,<- hR];exact wr9 hK (d+1) hU i
  . rw[dF h38,c_f]at hR
    rw[dF h38,iN (by simp)];show StpR (wrdD s i toks waits) U N R G;unfold wrdD;have hp:=partsd_run hK (qcz s) (d+2) U i s 0 0 hU.on hs (by omega) (by omega) (by unfold qcz; omega) (by unfold qcz; omega) (by unfold qcz; omega);rw[show V.int .i64 ((0:Nat):Int)=.int .i64 0 from rfl]at hp;cases hq:qam (qcz s) s 0 0 i [] []with
    | error e=>
     rw[hq]at hp;obtain⟨U2,z,p1,p2,p3⟩:=hp;have h2:=hU.move (p3.mono fun x _ h=>h.elim);rw[p1,callP_ret,ex03,b_s,ex13,b_s,ex2,b_s,b_s,qan,fl0]at hR;obtain⟨n1,n2,n3⟩:=qar h2.on 29 2 (qb6 0 0);have on1:=n2.on.trans h2.on;obtain⟨V1,m1,m2,m3,m4⟩:=n1.stA on1 qda (qb6 e.1 e.2);have oV:=m3.on.trans on1;have nx2:=n2.next
     have gV:Grew (fun x=>U2.next<=x) U2 V1:=(n2.mono fun x _ h=>h.elim).trans (m3.mono fun x _ h=>by omega);have hV:=h2.move gV;rw[m1,b_s]at hR;dsimp only at hR;rw[f_0,b_s,m2.ld1 oV qda (by decide) (flt0 e.1 e.2),b_s]at hR;dsimp only at hR;rw[ne27,show(e.1 != 0)=true by simpa using p2,b_s,i_b,c_t]at hR;have q1:ldA 2 (.ptr U2.next 0) (V1.lg [])=some (.agg 2 (qb6 e.1 e.2),V1.lg [⟨U2.next,0,0+2,false⟩]):=m2.ldOn qda [];obtain⟨Y,hY⟩:=hV.box;obtain⟨V2,r1,r2,r3,r4⟩:=hY.stA oV qda (qb6 e.1 e.2);have oV2:=r3.on.trans oV;have r5:=qk5 oV r1 [];rw[show onS V1=V1.lg []from Eq.trans rfl rfl,q1,b_s]at hR;dsimp only at hR;rw[qee,llg,r5,b_s]at hR;dsimp only at hR;obtain⟨W,t1,t2,t3,t4⟩:=qcp oV V2 [⟨N,0,0+2,true⟩] [(V1.lg [⟨U2.next,0,0+2,false⟩]).log,[],(V2.lg [⟨N,0,0+2,true⟩]).log];rw[t1]at hR
     have a0:AgAt W N 29 2 (qb6 e.1 e.2):=by
      obtain⟨c,x1,x2⟩:=r2;exact⟨c,by rw[t2]; exact x1,x2⟩
     rw[a0.ldrA t4 qda,b_s]at hR;have hl2:=h2.lt;exact⟨W,hR.symm,p2,(p3.mono fun x _ h=>h.elim).trans ((gV.mono fun x _ h=>by omega).trans (qmh (r3.mono fun x _ h=>by omega) t2 t3 (t4.trans oV2.symm)))⟩
    | ok lj=>
     rw[hq]at hp;obtain⟨l,j⟩:=lj;obtain⟨U2,v,p1,⟨rows,p2,p3,p4⟩,p5⟩:=hp;have hle:=(qcc _).1 _ _ _ _ _ _ _ _ hq (by omega);have htl:=(pars_txt _).1 _ _ _ _ _ _ _ _ hq (by omega) (by simp) (shrt_nil s);have hsum:=sum_le htl;simp only[List.length_nil]at hle;have hll:l.length<=5000:=by omega
     have hsm:l.length*s.length<=5000*5000:=Nat.mul_le_mul hll hs;have h2:=hU.move (p5.mono fun x _ h=>h.elim);rw[p1,callP_ret,ex03,b_s,ex13,b_s,ex2,b_s,b_s,qan,fl0]at hR;obtain⟨n1,n2,n3⟩:=qar h2.on 29 2 (qb6 0 0);have on1:=n2.on.trans h2.on;obtain⟨V1,m1,m2,m3,m4⟩:=n1.stA on1 qda (qb6 0 0);have oV:=m3.on.trans on1;have nx2:=n2.next
     have gV:Grew (fun x=>U2.next<=x) U2 V1:=(n2.mono fun x _ h=>h.elim).trans (m3.mono fun x _ h=>by omega);have nx3:=gV.next
     have hV:=h2.move gV;rw[m1,b_s]at hR;dsimp only at hR;rw[f_0,b_s,m2.ld1 oV qda (by decide) (flt0 0 0),b_s]at hR;dsimp only at hR;rw[ne27,show((0:Nat) != 0)=false from rfl,b_s,i_b,c_f,docq9_run hK (d+1) hV (fun x hx=>by have:=hI.tx x hx; omega) (by omega)]at hR;have pV:RV V1 v 49 6 rows:=p2.grew (fun r hr hw=>by have:=p2.blk_lt hr; omega) gV;have b4:=hU.b4;have b5:∀r,qa8 v5=some r->r<U.next:=fun r hr=>hU.w.blk_lt hr
     have b6:∀r,qa8 v6=some r->r<U.next:=fun r hr=>hU.e.blk_lt hr
     have hlU:=hU.lt
     have tk:TkAt V1 (fun x=>N<x/\x<V1.next/\qa8 v4≠some x/\qa8 v5≠some x/\qa8 v6≠some x) ⟨0,[],l,false,i⟩ (qeb ⟨0,[],l,false,i⟩ v):=⟨v,rows,rfl,pV,(p3.grew gV fun x hx hw=>by omega).mono fun x hx=>⟨by omega,by omega,fun hv=>by have:=b4 _ hv; omega,fun hv=>by have:=b5 _ hv; omega,fun hv=>by have:=b6 _ hv; omega⟩,fun r hr=>by
      have g2:=p4 r hr;have g3:=p2.blk_lt hr
      exact⟨by omega,by omega,fun hv=>by have:=b4 _ hv; omega,fun hv=>by have:=b5 _ hv; omega,fun hv=>by have:=b6 _ hv; omega⟩⟩
     obtain⟨U3,v4',u1,u2,u3⟩:=hV.push tk (by omega);rw[build_wd pV l i,b_s,zT_eq,u1]at hR;dsimp only at hR;have g3:Grew (fun x=>N<=x) U U3:=(p5.mono fun x _ h=>h.elim).trans ((gV.mono fun x _ h=>by omega).trans (hV.ge u3));rw[i_b]at hR;dsimp only;cases hdq:docQ toks with
     | false=>
      rw[hdq,c_f,hnk]at hR;rw[iN (by simp)];exact⟨U3,v4',v5,v6,hR.symm,u2,g3⟩
     | true=>
      rw[hdq,c_t]at hR;rw[iP rfl];have pV3:RV U3 v 49 6 rows:=pV.grew (fun r hr hw=>by have:=p4 r hr; have:=b4 _ hw; omega) u3;have pP3:PrAt U3 (fun x=>U.next<=x/\x<U2.next) l rows:=(p3.grew gV fun x hx hw=>by omega).grew u3 fun x hx hw=>by have:=b4 _ hw; omega
      rw[end_run hK (d+1) u2.on pV3 pP3 (by omega) (by omega),callP_ret]at hR;cases hany:l.any fun p=>p.kind != 0&&p.kind != 1 with
      | true=>
       rw[hany,iP rfl,ex03,b_s,ex13,b_s,ex2,b_s,qfy,b_s,i_b,nF,c_t]at hR;rw[iP rfl,<- hR];exact LxdR.after (o:=.error (19,i)) g3 (wr9 hK (d+1) u2 i)
      | false=>
       rw[hany,iN (by simp),ex03,b_s,ex13,b_s,ex2,b_s,qfy,b_s,i_b,Bool.not_true,c_f]at hR;rw[iN (by simp)];obtain⟨rT,r1,r2⟩:=u2.tk;have e1:=r2.1;rw[r1.len,b_s,e1,lAq,List.length_singleton]at hR;dsimp only at hR;obtain⟨y,T1,v5',T2,y',T3,v6',U4,w1,w2,w3,w4,w5,w6⟩:=u2.wait (toks.length+1) (l.map Part.text).flatten (by omega);rw[w1,b_s]at hR;dsimp only at hR;rw[w2,b_s]at hR;dsimp only at hR;rw[w3,b_s]at hR;dsimp only at hR;rw[w4,b_s]at hR;dsimp only at hR;obtain⟨U5,v4'',z1,z2,z3⟩:=w5.push (t:=⟨3,[],[],l.any fun p=>p.kind==1,i⟩) (qk8 ..) (by rw[lAq,List.length_singleton]; omega);rw[build_hq,b_s,z1]at hR;dsimp only at hR;rw[hnk]at hR;refine⟨U5,v4'',v5',v6',hR.symm,?_,(g3.trans w6).trans (w5.ge z3)⟩;rw[List.append_assoc]at z2;exact z2
end
theorem proj9 (v0 v3 v4 v5 v6 v7:V) (k:Ac->Rs):qak [0,3,4,5,6,7] (fr 293 [(0,v0),(3,v3),(4,v4),(5,v5),(6,v6),(7,v7)]) k=k (fr 293 [(0,v0),(3,v3),(4,v4),(5,v5),(6,v6),(7,v7)]):=by kernel_rfl
section
variable {K:FuncId->Option KF} {S U T:St} {i j N P:Nat} {s:Bs} {toks:List Tok} {waits:List (Nat×Bs)} {v4 v5 v6:V} {X Y:Tr V} {d q:Nat} {nk:Ac->St->Rs} {ek:Nat->Ac->St->Rs}
theorem r35_run (self:EV) (M:Nat) (hs:s.length<=5000) (hi:i<s.length) (v3:V):R9_35 self M nk ek (fr 293 [(0,sv s),(3,v3),(4,v4),(5,v5),(6,v6),(7,.int .i64 (i:Int))]) S=tail9 self M nk ek (sv s) v3 v4 v5 v6 (.int .i64 (i:Int)) (.int .i64 ((if ql2 s i then 1 else 0:Nat):Int)) S:=by
 have hx:ixS (sv s) (.int .i64 (i:Int))=some (.int .u8 ((byt s i).toNat:Int)):=by rw[qbl s .i64 i hi,qb9 hi]
 have e48:=u8ge (byt s i) 48;have e50:=u8le (byt s i) 50;rw[show((48:Nat):Int)=48 from rfl]at e48;rw[show((50:Nat):Int)=50 from rfl]at e50;have ea:=qb0 (i:=i) (by omega);have el:=qdz (i+1) s.length;rw[R9_35_step,hx,b_s,e48,b_s,digM_eq];by_cases h1:i+1<s.length
 . have hx2:ixS (sv s) (.int .i64 ((i+1:Nat):Int))=some (.int .u8 ((byt s (i+1)).toNat:Int)):=by rw[qbl s .i64 (i+1) h1,qb9 h1]
   have e60:=u8c (byt s (i+1)) 60 (by decide);have e62:=u8c (byt s (i+1)) 62 (by decide);rw[show((60:Nat):Int)=60 from rfl,show UInt8.ofNat 60=60 from rfl]at e60;rw[show((62:Nat):Int)=62 from rfl,show UInt8.ofNat 62=62 from rfl]at e62;rw[dT h1]at el;rw[qbn h1,qbn h1];generalize decide (48<=(byt s i).toNat)=b1 at e48 ⊢;generalize decide ((byt s i).toNat<=50)=b2 at e50 ⊢;generalize decide (byt s (i+1)=60)=b3 at e60 ⊢;generalize decide (byt s (i+1)=62)=b4 at e62 ⊢;cases b1<;>cases b2<;>cases b3<;>cases b4<;>simp only[g_t,g_f,qf1,b_s,c_t,c_f,p_b,i_b,hx,hx2,e50,e60,e62,ea,el,qfm,Bool.not_true,nF]<;>rfl
 . rw[dF h1]at el
   rw[qit h1,qit h1];generalize decide (48<=(byt s i).toNat)=b1 at e48 ⊢;generalize decide ((byt s i).toNat<=50)=b2 at e50 ⊢;cases b1<;>cases b2<;>simp only[g_t,g_f,qf1,b_s,c_t,c_f,p_b,i_b,hx,e50,ea,el,qfm,Bool.not_true,nF]<;>rfl
theorem DX.drop (h:DX S N toks waits v4 v5 v6):DX S N toks [] v4 .nilslice .nilslice:=by
 obtain⟨rT,r1,r2⟩:=h.tk;have nn:∀x,qa8 .nilslice≠some x:=fun x hv=>by cases hv
 exact⟨h.on,h.lt,h.box,⟨rT,r1,r2.mono fun x hx=>⟨hx.1,hx.2.1,hx.2.2.1,nn x,nn x⟩⟩,qhx _ _,qhx _ _,fun r hr=>⟨(h.tb r hr).1,nn r,nn r⟩,fun r hr=>absurd hr (nn r),fun r hr=>absurd hr (nn r)⟩
theorem step9 (hK:RefL K) (d:Nat) (hs:s.length<=5000) (hd:18*s.length+600<=d) (h:DX S N toks waits v4 v5 v6) (hI:Inv s i toks waits) (hi:i<s.length) (q:Nat) :
 StpR (qk6 s i toks waits) S N (R9_29 (ev E0 K (d+2)) qa3 (qga (ev E0 K (d+2)) qa3 nk ek q) (exB 1 (qga (ev E0 K (d+2)) qa3 nk ek q) ek) (fr 293 [(0,sv s),(3,.ptr N 0),(4,v4),(5,v5),(6,v6),(7,.int .i64 (i:Int))]) S) (fun a4 a5 a6 a7 U=>L9_28 (ev E0 K (d+2)) qa3 nk ek q (sv s) (.ptr N 0) a4 a5 a6 a7 U):=by
 have hIt:=hI.t;have hIw:=hI.w;have hx:ixS (sv s) (.int .i64 (i:Int))=some (.int .u8 ((byt s i).toNat:Int)):=by rw[qbl s .i64 i hi,qb9 hi]
 have e35:=u8c (byt s i) 35 (by decide);have e10:=u8c (byt s i) 10 (by decide);rw[show((35:Nat):Int)=35 from rfl,show UInt8.ofNat 35=35 from rfl]at e35;rw[show((10:Nat):Int)=10 from rfl,show UInt8.ofNat 10=10 from rfl]at e10;have hek:∀a4 a5 a6 a7 U,exB 1 (qga (ev E0 K (d+2)) qa3 nk ek q) ek 1 (fr 293 [(0,sv s),(3,.ptr N 0),(4,a4),(5,a5),(6,a6),(7,a7)]) U=L9_28 (ev E0 K (d+2)) qa3 nk ek q (sv s) (.ptr N 0) a4 a5 a6 a7 U:=fun a4 a5 a6 a7 U=>by rw[exB_same,N9_28_eq]
 have hnk:∀a4 a5 a6 a7 U,(fun a s=>qak [0,3,4,5,6,7] a fun a=>(fun a s=>qak [0,3,4,5,6,7] a fun a=>(qga (ev E0 K (d+2)) qa3 nk ek q) a s) a s) (fr 293 [(0,sv s),(3,.ptr N 0),(4,a4),(5,a5),(6,a6),(7,a7)]) U=L9_28 (ev E0 K (d+2)) qa3 nk ek q (sv s) (.ptr N 0) a4 a5 a6 a7 U:=fun a4 a5 a6 a7 U=>by
  dsimp only;rw[proj9,proj9,N9_28_eq]
 rw[R9_29_eq,qfm,b_s];dsimp only;rw[geqN,dF (by omega),b_s,i_b,c_f,hx,b_s,e35,b_s,i_b];unfold qk6 linD remD;rw[qbn hi,qbn hi];by_cases h35:byt s i=35
 . rw[dT h35,c_t,show decide (byt s i=10)=false by rw[h35]; rfl,iN (by simp)]
   dsimp only;rw[iP rfl,scan447 _ _ _ _ (by omega) _ _ _ _ (s.length-i) i qa3 (by omega) (by unfold qa3; omega),exB_same,R9_446_eq,hek];exact⟨S,v4,v5,v6,rfl,h,Grew.refl _ _⟩
 . rw[dF h35,c_f,R9_34_eq,hx,b_s,e10,b_s,i_b]
   by_cases h10:byt s i=10
   . rw[dT h10,c_t,iP rfl]
     dsimp only;obtain⟨U,v4',u1,u2,u3⟩:=h.push (t:=⟨2,[],[],false,i⟩) (qk8 ..) (by omega);rw[build_ln,b_s,zT_eq,u1];dsimp only;rw[qb0 (by omega),b_s];refine StpR.after (h.ge u3) ?_;have hdl:=qjs (s:=s) (N:=N) (v4:=v4') (v5:=v5) (v6:=v6) hK (d+1) hs (by omega) (R9_358 (ev E0 K (d+2)) qa3 (R9_35 (ev E0 K (d+2)) qa3 (fun a s=>qak [0,3,4,5,6,7] a fun a=>(fun a s=>qak [0,3,4,5,6,7] a fun a=>(qga (ev E0 K (d+2)) qa3 nk ek q) a s) a s) (exB 1 (qga (ev E0 K (d+2)) qa3 nk ek q) ek)) (exB 1 (qga (ev E0 K (d+2)) qa3 nk ek q) ek)) (exB 6 (R9_358 (ev E0 K (d+2)) qa3 (R9_35 (ev E0 K (d+2)) qa3 (fun a s=>qak [0,3,4,5,6,7] a fun a=>(fun a s=>qak [0,3,4,5,6,7] a fun a=>(qga (ev E0 K (d+2)) qa3 nk ek q) a s) a s) (exB 1 (qga (ev E0 K (d+2)) qa3 nk ek q) ek)) (exB 1 (qga (ev E0 K (d+2)) qa3 nk ek q) ek)) (exB 1 (qga (ev E0 K (d+2)) qa3 nk ek q) ek)) waits 0 (i+1) qa3 (toks++[⟨2,[],[],false,i⟩]) U u2 rfl (fun w hw=>by have:=hI.ix w hw; rw[lAq]; omega) (by omega) (by unfold qa3; omega) (by omega);rw[show V.int .i64 ((0:Nat):Int)=.int .i64 0 from rfl]at hdl;cases hq:qek s waits (i+1) (toks++[⟨2,[],[],false,i⟩])with
     | error e=>
      rw[hq]at hdl;exact hdl
     | ok q2=>
      rw[hq]at hdl;obtain⟨U2,f1,f2,f3⟩:=hdl;refine⟨U2,v4',.nilslice,.nilslice,?_,f2.drop,f3⟩;rw[f1];dsimp only;rw[exB_same,R9_358_eq,hek]
   . rw[dF h10,c_f,iN (by simp)]
     dsimp only;rw[iN (by simp)];dsimp only;rw[r35_run _ _ hs hi];exact tail9_run hK d hs hd h hI hi hnk hek qa3
theorem lexd_loop (hK:RefL K) (d:Nat) (hs:s.length<=5000) (hd:18*s.length+600<=d) :
 ∀(n q i:Nat) (toks:List Tok) (waits:List (Nat×Bs)) (v4 v5 v6:V) (S:St),DX S N toks waits v4 v5 v6->Inv s i toks waits->i<=s.length->s.length+1<=n+i->n<q->
 LxdR (lexD n s i toks waits) S N (L9_28 (ev E0 K (d+2)) qa3 (R9_13 (ev E0 K (d+2)) qa3 (qbt E0 (ev E0 K (d+2)) Tryd.f9) qas) (exB 0 (R9_13 (ev E0 K (d+2)) qa3 (qbt E0 (ev E0 K (d+2)) Tryd.f9) qas) qas) q (sv s) (.ptr N 0) v4 v5 v6 (.int .i64 (i:Int)) S)
 | n,0,i,toks,waits,v4,v5,v6,S,h,hI,hi,hn,hq=>absurd hq (Nat.not_lt_zero _)
 | 0,q+1,i,toks,waits,v4,v5,v6,S,h,hI,hi,hn,hq=>by omega
 | n+1,q+1,i,toks,waits,v4,v5,v6,S,h,hI,hi,hn,hq=>by
  have ih:=lexd_loop hK d hs hd n q;generalize hNK:R9_13 (ev E0 K (d+2)) qa3 (qbt E0 (ev E0 K (d+2)) Tryd.f9) qas=NK at ih ⊢;rw[L9_28_eq,qml,skid_run hK (d+1) hs _ _ _ _ _ _ (s.length+1) i qa3 hi (by omega) (by unfold qa3; omega),exB_same];obtain⟨i1,i2,i3⟩:=qhe (s.length+1) s i hi (by omega);generalize qjn (s.length+1) s i=i' at *;have hIU:Inv s i' toks waits:=⟨by have:=hI.t; omega,by have:=hI.w; omega,hI.ix,hI.tx⟩
  by_cases hlt:i'<s.length
  . rw[iP hlt]
    have hra:=step9 (nk:=NK) (ek:=exB 0 NK qas) hK d hs hd h hIU hlt q;cases hst:qk6 s i' toks waits with
    | error e=>
     rw[hst]at hra;exact hra
    | ok r=>
     rw[hst]at hra;obtain⟨U2,a4,a5,a6,b1,b2,b3⟩:=hra;obtain⟨j1,j2,j3⟩:=qni hIU hlt (i3 hlt).1 (i3 hlt).2 hst;rw[b1];dsimp only;exact LxdR.after b3 (ih r.1 r.2.1 r.2.2 a4 a5 a6 U2 b2 j3 j2 (by omega) (by omega))
  . rw[iN hlt,R9_29_eq,qfm,b_s]
    dsimp only;rw[geqN,dT (by omega),b_s,i_b,c_t];rw[show ∀(A:Ac->St->Rs) (B:Nat->Ac->St->Rs) (a:Ac) (X:St),exB 1 A B 0 a X=B 0 a X from fun _ _ _ _=>rfl,exB_same,<- hNK,R9_13_eq,h.w.len,b_s,lM];dsimp only;rw[gtr0,b_s,i_b];by_cases hw:waits=[]
    . subst hw
      rw[iP rfl,show decide (0<([]:List (Nat×Bs)).length)=false from rfl,c_f,qel,b_s];obtain⟨Y,hY⟩:=h.box;obtain⟨U2,b1,b2,b3,b4⟩:=hY.stA h.on qda (qb6 0 0);rw[b1,b_s];dsimp only;rw[b2.ldrA (b3.on.trans h.on) qda,b_s];obtain⟨rT,r1,r2⟩:=h.tk;exact⟨U2,v4,rT,rfl,r1.grew (fun r hr hx=>by have:=(h.tb r hr).1; omega) b3,(r2.grew b3 fun x hx he=>by omega).mono fun x hx=>⟨by omega,by omega⟩,fun r hr=>by have:=(h.tb r hr).1; omega,b3.mono fun x _ hx=>by omega⟩
    . have hpos:0<waits.length:=List.length_pos_iff.2 hw
      rw[iN hw,dT hpos,c_t,qfm,b_s];dsimp only;exact wr9 hK (d+1) h s.length
theorem lexd_run (hK:RefL K) (d:Nat) (s:Bs) (ho:S.on=false) (hs:s.length<=5000) (hd:18*s.length+600<=d):LxdR (qin s) S S.next ((ev E0 K (d+3)).f 9 [sv s] S):=by
 have hF:∀r,F9 (ev E0 K (d+2)) qa3 (sv s) S=some r->(ev E0 K (d+3)).f 9 [sv s] S=some r:=fun r e=>rv9 hK e
 suffices hq:LxdR (qin s) S S.next (F9 (ev E0 K (d+2)) qa3 (sv s) S) by
  cases ho:qin s with
  | ok t=>
   rw[ho]at hq;obtain⟨U,v,rT,h1,h2⟩:=hq;exact⟨U,v,rT,hF _ h1,h2⟩
  | error e=>
   rw[ho]at hq;obtain⟨U,h1,h2⟩:=hq;exact⟨U,hF _ h1,h2⟩
 obtain⟨a1,a2,a3⟩:=qar ho 29 2 (qb6 0 0);have on1:=a2.on.trans ho;have g1:Grew (fun x=>S.next<=x) S (nwP 29 2 (qb6 0 0) S).2:=a2.mono fun x _ h=>h.elim;rw[F9_eq,fl0,b_s,qan,qfm,b_s];dsimp only;rw[show(V.int .i64 4000)=.int .i64 ((4000:Nat):Int)from rfl,binV_ii,intsV_gtr,b_s,i_b];refine LxdR.after g1 ?_;unfold qin;by_cases hl:4000<s.length
 . rw[iP hl,show decide (((s.length:Nat):Int)>((4000:Nat):Int))=true by simp; omega,c_t,build_fl,b_s]
   obtain⟨U2,b1,b2,b3,b4⟩:=a1.stA on1 qda (qb6 3 4000);rw[b1,b_s];dsimp only;rw[b2.ldrA (b3.on.trans on1) qda,b_s];exact⟨U2,rfl,(by decide:(3:Nat)≠0),b3.mono fun x _ hx=>by omega⟩
 . rw[iN hl,show decide (((s.length:Nat):Int)>((4000:Nat):Int))=false by simp; omega,c_f]
   have hD:DX (nwP 29 2 (qb6 0 0) S).2 S.next [] [] .nilslice .nilslice .nilslice:=⟨on1,by omega,⟨_,a1⟩,⟨[],qhx _ _,⟨rfl,fun i t h=>by simp at h⟩⟩,qhx _ _,qhx _ _,fun r hr=>(by cases hr),fun r hr=>(by cases hr),fun r hr=>(by cases hr)⟩
   exact lexd_loop hK d hs hd (s.length+1) qa3 0 [] [] .nilslice .nilslice .nilslice _ hD ⟨by simp,by simp,fun w hw=>by simp at hw,fun x hx=>by simp at hx⟩ (Nat.zero_le _) (by omega) (by unfold qa3; omega)
end
theorem wA0:shwD (qin [101,99,104,111,32,97,39,98,32,99,39,34,100,36,120,34,32,50,62,102])=[91,101,99,104,111,93,91,97,46,113,98,32,99,46,113,81,100,46,36,81,120,93,32,50,62,32,91,102,93]:=by kernel_rfl
theorem wB0:depA (qin [101,99,104,111,32,97,39,98,32,99,39,34,100,36,120,34,32,50,62,102])=true:=by kernel_rfl
theorem wA1:shwD (qin [97,59,98,38,38,99,32,35,32,120,10])=[91,97,93,32,59,32,91,98,93,32,38,38,32,91,99,93,47]:=by kernel_rfl
theorem wB1:depA (qin [97,59,98,38,38,99,32,35,32,120,10])=true:=by kernel_rfl
theorem wA2:shwD (qin [36,123,120,58,45,97,32,98,125,34,36,123,35,121,125,34,32,36,40,102,32,39,41,39,32,41])=[91,36,120,58,45,60,97,32,98,62,46,36,81,121,108,101,110,93,91,40,102,32,39,41,39,32,93]:=by kernel_rfl
theorem wB2:depA (qin [36,123,120,58,45,97,32,98,125,34,36,123,35,121,125,34,32,36,40,102,32,39,41,39,32,41])=true:=by kernel_rfl
theorem wA3:shwD (qin [99,97,116,32,60,60,69,59,120,10,104,105,32,36,121,10,69,10])=[91,99,97,116,93,32,60,60,32,91,69,93,123,104,105,32,36,121,10,58,113,81,104,105,32,46,36,81,121,46,113,81,10,125,32,59,32,91,120,93,47]:=by kernel_rfl
theorem wB3:depA (qin [99,97,116,32,60,60,69,59,120,10,104,105,32,36,121,10,69,10])=true:=by kernel_rfl
theorem wC0:qin [39,97]=.error (19,0):=by kernel_rfl
theorem wC1:qin [97,32,38]=.error (19,2):=by kernel_rfl
theorem wC2:qin [34,36,123,120,34]=.error (19,1):=by kernel_rfl
theorem wC3:qin [96]=.error (19,0):=by kernel_rfl
theorem eqS_t (c d:Bool) (a:Bs):qa4 E0 .eql 9 c d (sv a) (sv a)=some (.bool true):=by
 rw[eqStr];simp
section
variable {K:FuncId->Option KF} {S U T:St}
theorem qjg (hK:RefL K) (d:Nat) {s t:Bs} (h1:shwD (qin s)=t) (h2:depA (qin s)=true) (ho:S.on=false) (hs:s.length<=5000) (hd:18*s.length+600<=d) (ht:t.length<1000000000):∃U,(ev E0 K (d+22)).f 14 [sv s] S=some (.ret (sv t),U)/\Grew (fun _=>False) S U:=by
 subst h1;exact shown_run hK d s ho hs hd h2 ht
theorem works_run (hX:KnX K) (d:Nat) (hd:1200<=d) (ho:S.on=false) (hH:Hd S):∃U,(ev E0 K (d+23)).f 12 [] S=some (.ret (.bool true),U)/\Grew (fun _=>False) S U:=by
 obtain⟨S0,a0,g0⟩:=qjg (S:=S) hX.r d wA0 wB0 ho (by simp) (by simp; omega) (by simp);have o0:=g0.on.trans ho;obtain⟨S1,a1,g1⟩:=qjg (S:=S0) hX.r d wA1 wB1 o0 (by simp) (by simp; omega) (by simp);have o1:=g1.on.trans o0;obtain⟨S2,a2,g2⟩:=qjg (S:=S1) hX.r d wA2 wB2 o1 (by simp) (by simp; omega) (by simp);have o2:=g2.on.trans o1;obtain⟨S3,a3,g3⟩:=qjg (S:=S2) hX.r d wA3 wB3 o2 (by simp) (by simp; omega) (by simp);have o3:=g3.on.trans o2;have hH3:=(((hH.grew (fun h=>h) g0).grew (fun h=>h) g1).grew (fun h=>h) g2).grew (fun h=>h) g3;obtain⟨S4,a4,g4⟩:=qjk hX (S:=S3) d [39,97] o3 hH3 (by simp) (by simp; omega) wC0 (by decide);have o4:=g4.on.trans o3;have hH4:=hH3.grew (fun h=>h) g4;obtain⟨S5,a5,g5⟩:=qjk hX (S:=S4) d [97,32,38] o4 hH4 (by simp) (by simp; omega) wC1 (by decide);have o5:=g5.on.trans o4;have hH5:=hH4.grew (fun h=>h) g5;obtain⟨S6,a6,g6⟩:=qjk hX (S:=S5) d [34,36,123,120,34] o5 hH5 (by simp) (by simp; omega) wC2 (by decide);have o6:=g6.on.trans o5;have hH6:=hH5.grew (fun h=>h) g6;obtain⟨S7,a7,g7⟩:=qjk hX (S:=S6) d [96] o6 hH6 (by simp) (by simp; omega) wC3 (by decide);have o7:=g7.on.trans o6;have hH7:=hH6.grew (fun h=>h) g7;refine⟨S7,rv12 hX.r ?_,((((((g0.trans g1).trans g2).trans g3).trans g4).trans g5).trans g6).trans g7⟩;show F12 (ev E0 K (d+22)) qa3 S=_;rw[F12_eq,a0,callP_ret,eqS_t,b_s];simp only[g_t,b_s,c_t,p_b,callP_ret,eqS_t,a1,a2,a3]
 rw[show(V.int .i64 19)=.int .i64 ((19:Nat):Int)from rfl];rw[show(V.int .i64 0)=.int .i64 ((0:Nat):Int)from rfl,a4,callP_ret];simp only[g_t,b_s,c_t,p_b,callP_ret];rw[show(V.int .i64 2)=.int .i64 ((2:Nat):Int)from rfl,a5,callP_ret];simp only[g_t,b_s,c_t,p_b,callP_ret];rw[show(V.int .i64 1)=.int .i64 ((1:Nat):Int)from rfl,a6,callP_ret];simp only[g_t,b_s,c_t,p_b,callP_ret];rw[a7,callP_ret]
end
theorem knAs_lg (tE tP rT tErr gB bT:Nat) (args:List V):Lg.LocP fun s=>(knAs tE tP rT tErr gB bT).run args s:=by
 unfold knAs;dsimp only;split
 . exact Lg.LocP.ret _
 . refine Lg.Loc.cond ?_ Lg.Loc.none
   unfold asHit;refine Lg.Loc.bind (Lg.loc_ld _ _) fun q=>?_;dsimp only;exact Lg.Loc.cond (Lg.Loc.bindS (Lg.loc_stK _ _ _ _) (Lg.LocP.ret _)) Lg.Loc.none
 . exact Lg.Loc.none
theorem kfIs_lg (args:List V):Lg.LocP fun s=>kfIs.run args s:=by
 unfold kfIs;dsimp only;split
 . refine Lg.Loc.cond ?_ Lg.Loc.none
   refine Lg.Loc.bind (Lg.loc_ld _ _) fun q=>?_;dsimp only;exact Lg.Loc.cond (Lg.LocP.ret _) Lg.Loc.none
 . exact Lg.Loc.none
theorem lgX:Lg.KnLoc KX:=((Lg.knLoc_nil).add 32 fun _=>knAs_lg _ _ _ _ _ _ _).add 33 fun _=>kfIs_lg _
theorem lg_log (S:St) (l:List LE):(S.lg l).log=l:=Eq.trans rfl rfl
theorem lons' (S:St):onS S=S.lg []:=Eq.trans rfl rfl
theorem llg' (S:St) (l m:List LE):(S.lg l).lg m=S.lg m:=Eq.trans rfl rfl
theorem ne3s (n:Nat):qa4 E0 .neq 3 false false (.int .i64 (n:Int)) (.int .i64 (n:Int))=some (.bool false):=by
 rw[binV_ii,intsV_neq]
 congr 2
 simp
theorem ne9s (t:Bs):qa4 E0 .neq 9 false false (sv t) (sv t)=some (.bool false):=by
 rw[neStr];simp
theorem ne4s (b:Bool):qa4 E0 .neq 4 false false (.bool b) (.bool b)=some (.bool false):=by
 cases b<;>kernel_rfl
theorem pairs_same (a b c d e f g h i j k:List LE) (h1:qbr a b=false) (h2:qbr c d=false) (h3:qbr e f=false) (h4:qbr g h=false) (h5:qbr i j=false):qai [[],[],[],[],a,[],[],[],[],b,[],[],[],[],[],[],c,[],[],[],[],d,[],[],[],[],[],[],[],e,[],[],[],[],f,[],[],[],[],[],[],[],g,[],[],[],[],h,[],[],[],[],[],[],[],i,[],[],[],[],j,k,[],[]] [(4,[9]),(16,[21]),(29,[34]),(42,[47]),(55,[60])]=true:=by
 show(bif (bif qbr a b then true else false)then false else(bif (bif qbr c d then true else false)then false else(bif (bif qbr e f then true else false)then false else(bif (bif qbr g h then true else false)then false else(bif (bif qbr i j then true else false)then false else true)))))=true;rw[h1,h2,h3,h4,h5];rfl
section
variable {K:FuncId->Option KF} {S U T:St}
def SamOk (K:FuncId->Option KF) (d:Nat) (l:List Part):Prop:=∀(S:St) (v v':V) (rows rows':List (Tr V)) (Q Q':Nat->Prop),S.on=false->RV S v 49 6 rows->PrAt S Q l rows->RV S v' 49 6 rows'->PrAt S Q' l rows'->(ev E0 K d).f 34 [v,v'] S=some (.ret (.bool true),S)
set_option maxRecDepth 100000 in
theorem sam_loop (hL:Lg.KnLoc K) (d n:Nat) (ih:∀w,qdg w<n->SamOk K d w) (N:Nat) (nk:Ac->St->Rs) (ek:Nat->Ac->St->Rs) {v v':V} {rows rows':List (Tr V)} {Q Q':Nat->Prop} (ho:S.on=false) (hv:RV S v 49 6 rows) (hv':RV S v' 49 6 rows') :
 ∀(l:List Part) (j q:Nat) (rest rest':List (Tr V)),rows.drop j=rest->PrAt S Q l rest->rows'.drop j=rest'->PrAt S Q' l rest'->qdg l<=n->l.length<q->
 L34_10 (ev E0 K d) N nk ek q v v' (.int .i64 (j:Int)) S=ek 0 (fr 81 []) S
 | l,j,0,rest,rest',_,_,_,_,_,hq=>absurd hq (Nat.not_lt_zero _)
 | [],j,q+1,rest,rest',hr,hp,hr',hp',hn,hq=>by
  simp only[PrAt]at hp;rw[hp]at hr;have:=qc4 hr;rw[L34_10_eq,hv.len,b_s];dsimp only;rw[qdz,dF (by omega),b_s,i_b,c_f]
 | .mk k t o qd w::l,j,q+1,rest,rest',hr,hp,hr',hp',hn,hq=>by
  simp only[PrAt]at hp hp';obtain⟨c,rs,rfl,hc,hpt⟩:=hp;obtain⟨c',rs',rfl,hc',hpt'⟩:=hp';simp only[PtAt]at hc hc';obtain⟨u,ru,rfl,hu,hw,hb⟩:=hc;obtain⟨u',ru',rfl,hu',hw',hb'⟩:=hc';obtain⟨hlt,e1,e2,_⟩:=qcy hr;obtain⟨hlt',e1',e2',_⟩:=qcy hr';obtain⟨r,hr1,hr2,hr3,hr4⟩:=hv.at hlt;obtain⟨r',hr1',hr2',hr3',hr4'⟩:=hv'.at hlt';have hg:rows[j]?=some (qcr k t o qd u):=by rw[List.getElem?_eq_getElem hlt,e1]
  have hg':rows'[j]?=some (qcr k t o qd u'):=by rw[List.getElem?_eq_getElem hlt',e1']
  have f0:∀i,faP i false 1 (.ptr r (j*6))=some (.ptr r (j*6+i)):=fun i=>faPg i 0 _ false r;have f0':∀i,faP i false 1 (.ptr r' (j*6))=some (.ptr r' (j*6+i)):=fun i=>faPg i 0 _ false r';have a0:=fun L=>qbj ho (qbx ho hr3 hg (by decide) (rowP0 k t o qd u)) L;have a1:=fun L=>qbj ho (qbx ho hr3 hg (by decide) (rowP1 k t o qd u)) L;have a2:=fun L=>qbj ho (qbx ho hr3 hg (by decide) (rowP2 k t o qd u)) L;have a3:=fun L=>qbj ho (qbx ho hr3 hg (by decide) (rowP3 k t o qd u)) L;have a4:=fun L=>qbj ho (qbx ho hr3 hg (by decide) (rowP4 k t o qd u)) L;have b0:=fun L=>qbj ho (qbx ho hr3' hg' (by decide) (rowP0 k t o qd u')) L;have b1:=fun L=>qbj ho (qbx ho hr3' hg' (by decide) (rowP1 k t o qd u')) L;have b2:=fun L=>qbj ho (qbx ho hr3' hg' (by decide) (rowP2 k t o qd u')) L;have b3:=fun L=>qbj ho (qbx ho hr3' hg' (by decide) (rowP3 k t o qd u')) L;have b4:=fun L=>qbj ho (qbx ho hr3' hg' (by decide) (rowP4 k t o qd u')) L
  have hd':qdg w<n:=by
   simp only[qdg,depP]at hn;omega
  have hdl:qdg l<=n:=by
   simp only[qdg]at hn;omega
  have hj:j<9223372036854770000:=by
   have:=hr3.fit;unfold big at this;omega
  obtain⟨L,hs⟩:=Lg.ev_lg hL (ih w hd' S u u' ru ru' Q Q' ho hu hw hu' hw') [];have hlp:=sam_loop hL d n ih N nk ek ho hv hv' l (j+1) q rs rs' e2 hpt e2' hpt' hdl (by simp only[List.length_cons]at hq; omega);rw[L34_10_eq,hv.len,b_s];dsimp only;rw[qdz,dT hlt,b_s,i_b,c_t];simp only[hr2,hr2',b_s,f0,f0',lons',llg',a0,a1,a2,a3,a4,b0,b1,b2,b3,b4,ne3s,ne9s,ne4s,g_f,c_t,c_f,p_b,nF,lg_log];rw[hs,qbs];simp only[b_s,c_t,c_f,qjj,Bool.not_true,p_b,lg_log];rw[qf0 (pairs_same _ _ _ _ _ _ _ _ _ _ _ (qb3 _ _ _ _ _ _ _ (.inl rfl)) (qb3 _ _ _ _ _ _ _ (.inl rfl)) (qb3 _ _ _ _ _ _ _ (.inl rfl)) (qb3 _ _ _ _ _ _ _ (.inl rfl)) (qb3 _ _ _ _ _ _ _ (.inl rfl)))];rw[llg',qco ho,i_b,c_f,qb0 (by omega),b_s,hlp]
theorem sam_run (hK:RefL K) (hL:Lg.KnLoc K) (m:Nat):∀(n:Nat) (l:List Part),qdg l<=n->SamOk K (m+n+1) l
 | n,l,hn=>by
  intro S v v' rows rows' Q Q' ho hv hp hv' hp'
  have ih:∀w,qdg w<n->SamOk K (m+n) w:=fun w hw=>by
   obtain⟨n',rfl⟩:∃n',n=n'+1:=⟨n-1,by omega⟩
   exact sam_run hK hL m n' w (by omega)
  have hlq:l.length<qa3:=by
   have h1:=hp.len;rcases hv with⟨h,_⟩|⟨r,h2,_,_,_⟩
   . rw[h]at h1
     simp at h1;unfold qa3;omega
   . have:=h2.fit
     unfold big at this;unfold qa3;omega
  refine rv34 hK ?_;show F34 (ev E0 K (m+n)) qa3 v v' S=_;rw[F34_eq,hv.len,b_s];dsimp only;rw[hv'.len,b_s];dsimp only;rw[hp.len,hp'.len,ne3s,b_s,i_b,c_f,show(V.int .i64 0)=.int .i64 ((0:Nat):Int)from rfl,sam_loop hL (m+n) n ih qa3 _ _ ho hv hv' l 0 qa3 rows rows' rfl hp rfl hp' hn hlq,exB_same,R34_7_eq]
set_option maxRecDepth 100000 in
theorem same_loop (hK:RefL K) (hL:Lg.KnLoc K) (m D:Nat) (N:Nat) (nk:Ac->St->Rs) (ek:Nat->Ac->St->Rs) {v v':V} {rows rows':List (Tr V)} {Q Q':Nat->Prop} {toks:List Tok} (ho:S.on=false) (hv:RV S v 39 5 rows) (ht:TksAt S Q toks rows) (hv':RV S v' 39 5 rows') (ht':TksAt S Q' toks rows') (hdep:∀t∈toks,qdg t.parts<=D) :
 ∀(l:List Tok) (j q:Nat),toks.drop j=l->l.length<q->
 L11_10 (ev E0 K (m+D+1)) N nk ek q v v' (.int .i64 (j:Int)) S=ek 0 (fr 81 []) S
 | l,j,0,_,hq=>absurd hq (Nat.not_lt_zero _)
 | [],j,q+1,hr,hq=>by
  have:=qc4 hr;have h1:=ht.1;rw[L11_10_eq,hv.len,b_s];dsimp only;rw[qdz,dF (by omega),b_s,i_b,c_f]
 | t::l,j,q+1,hr,hq=>by
  obtain⟨hlt,e1,e2,hm⟩:=qcy hr;have h1:=ht.1;have h1':=ht'.1;have hjl:j<rows.length:=by omega
  have hjl':j<rows'.length:=by omega
  have hti:toks[j]?=some t:=by rw[List.getElem?_eq_getElem hlt,e1]
  obtain⟨r,hr1,hr2,hr3,hr4⟩:=hv.at hjl;obtain⟨r',hr1',hr2',hr3',hr4'⟩:=hv'.at hjl';obtain⟨c,hg,u,ru,rfl,hu,hw,hb⟩:=ht.2 j t hti;obtain⟨c',hg',u',ru',rfl,hu',hw',hb'⟩:=ht'.2 j t hti;have f0:∀i,faP i false 1 (.ptr r (j*5))=some (.ptr r (j*5+i)):=fun i=>faPg i 0 _ false r;have f0':∀i,faP i false 1 (.ptr r' (j*5))=some (.ptr r' (j*5+i)):=fun i=>faPg i 0 _ false r';have a0:=fun L=>qbj ho (qbx ho hr3 hg (by decide) (rowT0 t u)) L;have a1:=fun L=>qbj ho (qbx ho hr3 hg (by decide) (rowT1 t u)) L;have a2:=fun L=>qbj ho (qbx ho hr3 hg (by decide) (rowT2 t u)) L;have a3:=fun L=>qbj ho (qbx ho hr3 hg (by decide) (rowT3 t u)) L;have a4:=fun L=>qbj ho (qbx ho hr3 hg (by decide) (rowT4 t u)) L;have b0:=fun L=>qbj ho (qbx ho hr3' hg' (by decide) (rowT0 t u')) L;have b1:=fun L=>qbj ho (qbx ho hr3' hg' (by decide) (rowT1 t u')) L;have b2:=fun L=>qbj ho (qbx ho hr3' hg' (by decide) (rowT2 t u')) L;have b3:=fun L=>qbj ho (qbx ho hr3' hg' (by decide) (rowT3 t u')) L;have b4:=fun L=>qbj ho (qbx ho hr3' hg' (by decide) (rowT4 t u')) L
  have hj:j<9223372036854770000:=by
   have:=hr3.fit;unfold big at this;omega
  obtain⟨L,hs⟩:=Lg.ev_lg hL (sam_run hK hL m D t.parts (hdep t hm) S u u' ru ru' Q Q' ho hu hw hu' hw') [];have hlp:=same_loop hK hL m D N nk ek ho hv ht hv' ht' hdep l (j+1) q e2 (by simp only[List.length_cons]at hq; omega);rw[L11_10_eq,hv.len,b_s];dsimp only;rw[qdz,dT hjl,b_s,i_b,c_t];simp only[hr2,hr2',b_s,f0,f0',lons',llg',a0,a1,a2,a3,a4,b0,b1,b2,b3,b4,ne3s,ne9s,ne4s,g_f,c_t,c_f,p_b,nF,lg_log];rw[hs,qbs];simp only[b_s,c_t,c_f,qjj,Bool.not_true,p_b,lg_log];rw[qf0 (pairs_same _ _ _ _ _ _ _ _ _ _ _ (qb3 _ _ _ _ _ _ _ (.inl rfl)) (qb3 _ _ _ _ _ _ _ (.inl rfl)) (qb3 _ _ _ _ _ _ _ (.inl rfl)) (qb3 _ _ _ _ _ _ _ (.inl rfl)) (qb3 _ _ _ _ _ _ _ (.inl rfl)))];rw[llg',qco ho,i_b,c_f,qb0 (by omega),b_s,hlp]
theorem same_run (hK:RefL K) (hL:Lg.KnLoc K) (m D:Nat) {v v':V} {rows rows':List (Tr V)} {Q Q':Nat->Prop} {toks:List Tok} (ho:S.on=false) (hv:RV S v 39 5 rows) (ht:TksAt S Q toks rows) (hv':RV S v' 39 5 rows') (ht':TksAt S Q' toks rows') (hdep:∀t∈toks,qdg t.parts<=D):(ev E0 K (m+D+2)).f 11 [v,v'] S=some (.ret (.bool true),S):=by
 refine rv11 hK ?_;show F11 (ev E0 K (m+D+1)) qa3 v v' S=_;rw[F11_eq,hv.len,b_s];dsimp only;rw[hv'.len,b_s];dsimp only;rw[ht.1,ht'.1,ne3s,b_s,i_b,c_f,show(V.int .i64 0)=.int .i64 ((0:Nat):Int)from rfl,same_loop hK hL m D qa3 _ _ ho hv ht hv' ht' hdep toks 0 qa3 rfl (toks_small hv ht),exB_same,R11_7_eq]
end
end Go.Proofs.YtafbipadnnmccaaDoor.W
namespace Go.Proofs.YtafbipadnnmccaaDoor.W
open Go.Proofs.YtafbipadnnmccaaDoor.Ev
theorem depL_app (a b:List Part):qdg (a++b)=max (qdg a) (qdg b):=by
 induction a with
 | nil=>rw[List.nil_append,qdg]; omega
 | cons p l ih=>rw[List.cons_append,qdg,qdg,ih]; omega
theorem depL_one (p:Part):qdg [p]=depP p:=by rw[qdg,qdg]; omega
theorem depL_leaf (k:Nat) (t o:Bs) (q:Bool):qdg [.mk k t o q []]=1:=by rw[depL_one,depP,qdg]
theorem dep_flu (w:Nat) (out:List Part) (text:Bs) {D:Nat} (h:qdg out<=D) (hD:1<=D):qdg (qi4 w out text)<=D:=by
 unfold qi4;split
 . exact h
 . rw[depL_app,depL_leaf]; omega
theorem pars_dep:∀n,(∀s w deep i out text l j,qam n s w deep i out text=.ok (l,j)->deep<=20->qdg out<=22-deep->qdg l<=22-deep)/\(∀s w deep i p j,qh6 n s w deep i=.ok (some (p,j))->deep<=20->depP p<=22-deep)
 | 0=>⟨fun s w deep i out text l j h=>by(unfold qam at h; cases h),fun s w deep i p j h=>by(unfold qh6 at h; cases h)⟩
 | n+1=>by
  obtain⟨hP,hD⟩:=pars_dep n;refine⟨fun s w deep i out text l j h hd ho=>?_,fun s w deep i p j h hd=>?_⟩
  . have hf:=dep_flu w out text ho (by omega)
    have leaf:∀(o:List Part),qdg o<=22-deep->∀(p:Part),depP p<=22-deep->qdg (o++[p])<=22-deep:=fun o h p hp=>by rw[depL_app,depL_one]; omega
    unfold qam at h;split at h
    . split at h
      . exact hP _ _ _ _ _ _ _ _ h hd ho
      . split at h
        . split at h
          . cases h
          . split at h
            . exact hP _ _ _ _ _ _ _ _ h hd ho
            . exact hP _ _ _ _ _ _ _ _ h hd (leaf _ hf _ (by rw[depP,qdg]; omega))
        . split at h
          . split at h
            . cases h
            . exact hP _ _ _ _ _ _ _ _ h hd ho
            . rename_i p k hk
              exact hP _ _ _ _ _ _ _ _ h hd (leaf _ hf _ (hD _ _ _ _ _ _ hk hd))
          . split at h
            . cases h
            . split at h
              . split at h
                . cases h
                . exact hP _ _ _ _ _ _ _ _ h hd (leaf _ hf _ (by rw[depP,qdg]; omega))
              . split at h
                . split at h
                  . cases h
                  . rename_i l' k hk
                    have h1:=hP _ _ _ _ _ _ _ _ hk hd (by rw[qdg]; omega);split at h
                    . refine hP _ _ _ _ _ _ _ _ h hd ?_
                      rw[depL_app];split
                      . rw[depL_leaf]; omega
                      . omega
                    . cases h
                . exact hP _ _ _ _ _ _ _ _ h hd ho
    . cases h
      exact hf
  . unfold qh6 at h
    split at h
    . cases h
    . split at h
      . split at h
        . cases h
        . cases h
          rw[depP,qdg]; omega
      . split at h
        . split at h
          . cases h
          . rename_i hdp
            split at h
            . cases h
              rw[depP,qdg]; omega
            . dsimp only at h
              split at h
              . cases h
              . split at h
                . cases h
                  rw[depP,qdg]; omega
                . split at h
                  . cases h
                  . split at h
                    . cases h
                    . rename_i l k hk
                      have h2:=hP _ _ _ _ _ _ _ _ hk (by omega) (by rw[qdg]; omega);split at h
                      . cases h
                        rw[depP]; omega
                      . cases h
        . dsimp only at h
          split at h
          . cases h
          . cases h
            rw[depP,qdg]; omega
def DepT (toks:List Tok):Prop:=∀t∈toks,qdg t.parts<=22
theorem DepT.push {toks:List Tok} (h:DepT toks) {t:Tok} (ht:qdg t.parts<=22):DepT (toks++[t]):=fun x hx=>by
 rcases List.mem_append.1 hx with hx|hx
 . exact h x hx
 . cases List.mem_singleton.1 hx; exact ht
theorem DepT.set {toks:List Tok} (h:DepT toks) (i:Nat) {t:Tok} (ht:qdg t.parts<=22):DepT (toks.set i t):=fun x hx=>by
 rcases List.mem_or_eq_of_mem_set hx with hx|rfl
 . exact h x hx
 . exact ht
theorem docs_dep:∀{s:Bs} {ws:List (Nat×Bs)} {i j:Nat} {toks tk:List Tok},qek s ws i toks=.ok (tk,j)->DepT toks->(∀w∈ws,w.1<toks.length)->DepT tk
 | s,[],i,j,toks,tk,h,ht,hw=>by
  unfold qek at h;cases h;exact ht
 | s,w::ws,i,j,toks,tk,h,ht,hw=>by
  rw[qf8]at h;split at h
  . cases h
  . rename_i t j' hq
    have hwl:=hw w (List.mem_cons_self ..)
    have hx:qdg (toks.getD w.1 ⟨0,[],[],false,0⟩).parts<=22:=by
     refine ht _ ?_;rw[List.getD_eq_getElem?_getD,List.getElem?_eq_getElem hwl];exact List.getElem_mem hwl
    have hd:DepT t/\t.length=toks.length:=by
     unfold qkq at hq;split at hq
     . cases hq
     . dsimp only at hq
       split at hq
       . cases hq
         exact⟨ht.set _ hx,List.length_set ..⟩
       . split at hq
         . cases hq
         . rename_i l jj hp
           cases hq;exact⟨ht.set _ ((pars_dep _).1 _ _ _ _ _ _ _ _ hp (by omega) (by rw[qdg]; omega)),List.length_set ..⟩
    exact docs_dep h hd.1 (fun w' hw'=>by rw[hd.2]; exact hw w' (mO _ hw'))
theorem step_dep {s:Bs} {i:Nat} {toks:List Tok} {waits:List (Nat×Bs)} {q:Nat×List Tok×List (Nat×Bs)} (h:qk6 s i toks waits=.ok q) (ht:DepT toks) (hw:∀w∈waits,w.1<toks.length):DepT q.2.1:=by
 unfold qk6 linD remD mrkD wrdD at h;split at h
 . rename_i r hl
   split at hl
   . cases hl
     split at h
     . cases h
     . rename_i q2 hd
       cases h;obtain⟨t,j⟩:=q2;exact docs_dep hd (ht.push (t:=⟨2,[],[],false,i⟩) (by show qdg []<=22; rw[qdg]; omega)) (fun w hw'=>by have:=hw w hw'; rw[lAq]; omega)
   . cases hl
 . split at h
   . rename_i r hl
     split at hl
     . cases hl
       cases h;exact ht
     . cases hl
   . split at h
     . rename_i r hl
       split at hl
       . cases hl
         cases h;exact ht.push (t:=⟨1,_,[],false,i⟩) (by show qdg []<=22; rw[qdg]; omega)
       . split at hl
         . cases hl
           cases h
         . cases hl
     . split at h
       . cases h
       . rename_i l j hp
         have hdl:=(pars_dep _).1 _ _ _ _ _ _ _ _ hp (by omega) (by rw[qdg]; omega);split at h
         . split at h
           . cases h
           . cases h
             have:=(ht.push (t:=⟨0,[],l,false,i⟩) hdl).push (t:=⟨3,[],[],l.any fun p=>p.kind==1,i⟩) (by show qdg []<=22; rw[qdg]; omega)
             rwa [List.append_assoc]at this
         . cases h
           exact ht.push (t:=⟨0,[],l,false,i⟩) hdl
theorem lexD_dep:∀(n:Nat) {s:Bs} {i:Nat} {toks tk:List Tok} {waits:List (Nat×Bs)},lexD n s i toks waits=.ok tk->Inv s i toks waits->i<=s.length->DepT toks->DepT tk
 | 0,s,i,toks,tk,waits,h,hI,hi,ht=>by unfold lexD at h; cases h
 | n+1,s,i,toks,tk,waits,h,hI,hi,ht=>by
  rw[qml]at h;obtain⟨i1,i2,i3⟩:=qhe (s.length+1) s i hi (by omega);generalize qjn (s.length+1) s i=i' at *;have hIU:Inv s i' toks waits:=⟨by have:=hI.t; omega,by have:=hI.w; omega,hI.ix,hI.tx⟩
  split at h
  . rename_i hlt
    cases hst:qk6 s i' toks waits with
    | error e=>rw[hst]at h; cases h
    | ok r=>
     rw[hst]at h;obtain⟨j1,j2,j3⟩:=qni hIU hlt (i3 hlt).1 (i3 hlt).2 hst;exact lexD_dep n h j3 j2 (step_dep hst ht hI.ix)
  . split at h
    . cases h; exact ht
    . cases h
theorem lexA_dep {s:Bs} {tk:List Tok} (h:qin s=.ok tk):DepT tk:=by
 unfold qin at h;split at h
 . cases h
 . exact lexD_dep _ h ⟨by simp,by simp,fun w hw=>by simp at hw,fun x hx=>by simp at hx⟩ (Nat.zero_le _) (fun t ht=>by simp at ht)
end Go.Proofs.YtafbipadnnmccaaDoor.W
end
