/-
  WHAT THE FUNCTIONS COME TO: each is read by the evaluator,printed,and told as a function of data,part 8 of 13 (no condition).
-/
import Derived.Test.YtafbipadnnmccaaDoorW7
noncomputable section
namespace Go.Proofs.YtafbipadnnmccaaDoor.W
open Go.Proofs.YtafbipadnnmccaaDoor.Ev Go.RowKit
theorem g_t (b:Bool):qa2 true (.bool b)=some b:=Eq.trans rfl rfl
theorem g_f (b:Bool):qa2 false (.bool b)=some (!b):=Eq.trans rfl rfl
theorem g_no (w:Bool) (l:List V):qa2 w (.tuple l)=some false:=Eq.trans rfl rfl
theorem b_s {α β:Type} (a:α) (f:α->Option β):(some a).bind f=f a:=Eq.trans rfl rfl
theorem c_t {α:Sort _} (a b:α):(bif true then a else b)=a:=Eq.trans rfl rfl
theorem c_f {α:Sort _} (a b:α):(bif false then a else b)=b:=Eq.trans rfl rfl
theorem p_b (b:Bool) (x y:Option V):qao (.bool b) x y=bif b then x else y:=Eq.trans rfl rfl
theorem i_b (b:Bool) (x y:Rs):ifK (.bool b) x y=bif b then x else y:=Eq.trans rfl rfl
theorem n_k (b o:Nat):qa1 (.ptr b o)=some (.ptr b o):=Eq.trans rfl rfl
theorem f_0 (b:Nat):faP 0 false 1 (.ptr b 0)=some (.ptr b 0):=Eq.trans rfl rfl
theorem qc1 (b i j b' k l:Nat) (w:Bool) (h:w=false\/b≠b'):qbi [⟨b,i,j,false⟩] [⟨b',k,l,w⟩]=false:=by
 unfold qbi qgf meet;rcases h with rfl|h
 . cases Nat.beq b b'<;>rfl
 . rw[beq_false.2 h]; rfl
theorem pairs_mark (b n0:Nat) (l l':List LE) (h:b≠n0):qag [[],[],[],[],[⟨b,2,3,false⟩],[],[],[],[⟨b,0,1,false⟩],[],[],[],[],[⟨b,1,2,false⟩],[],[],[],[⟨n0,0,big,true⟩],l,[],[],l'] [(4,[8,13,14,17]),(8,[13])]=true:=by
 have h1:=qc1 b 2 3 b 0 1 false (.inl rfl);have h2:=qc1 b 2 3 b 1 2 false (.inl rfl);have h3:=qc1 b 2 3 n0 0 big true (.inr h);have h4:=qc1 b 0 1 b 1 2 false (.inl rfl);show(bif (bif qbi [⟨b,2,3,false⟩] [⟨b,0,1,false⟩]then true else bif qbi [⟨b,2,3,false⟩] [⟨b,1,2,false⟩]then true else bif qbi [⟨b,2,3,false⟩] []then true else bif qbi [⟨b,2,3,false⟩] [⟨n0,0,big,true⟩]then true else false)then false else(bif (bif qbi [⟨b,0,1,false⟩] [⟨b,1,2,false⟩]then true else false)then false else true))=true;rw[h1,h2,h3,h4];rfl
theorem build_op (t:Bs) (n:Nat):qab E0 39 [(0,(.int .i64 1)),(1,sv t),(4,.int .i64 (n:Int))]=some (.agg 5 (qew ⟨1,t,[],false,n⟩ .nilslice)):=by kernel_rfl
theorem build_ln (n:Nat):qab E0 39 [(0,(.int .i64 2)),(4,.int .i64 (n:Int))]=some (.agg 5 (qew ⟨2,[],[],false,n⟩ .nilslice)):=by kernel_rfl
theorem zT_eq:(Tr.ofListFrom .nil [(.int .i64 0),(sv []),.nilslice,(.bool false),(.int .i64 0)] 0:Tr V)=zT:=rfl
theorem tk_leaf {S:St} {Q:Nat->Prop} (k:Nat) (t:Bs) (q:Bool) (n:Nat):TkAt S Q ⟨k,t,[],q,n⟩ (qew ⟨k,t,[],q,n⟩ .nilslice):=⟨.nilslice,[],rfl,rv_nil _ _,prAt_nil,fun r hr=>by cases hr⟩
section
variable {K:FuncId->Option KF} {S U T:St} {N b i:Nat} {s:Bs} {toks:List Tok} {waits:List (Nat×Bs)} {vT vW:V}
def digM (s:Bs) (i:Nat):Bool:=48<=byt s i&&byt s i<=50&&(atD s (i+1) [60]||atD s (i+1) [62])
theorem digM_eq (s:Bs) (i:Nat):digM s i=(decide (48<=(byt s i).toNat)&&decide ((byt s i).toNat<=50)&&(atD s (i+1) [60]||atD s (i+1) [62])):=rfl
theorem atD_past {s:Bs} {i:Nat} (h:¬i<s.length) (c:UInt8):atD s i [c]=false:=by
 cases ha:atD s i [c]with
 | false=>rfl
 | true=>
  have:=qbg ha (by simp);simp only[List.length_singleton]at this;omega
theorem mark_head (self:EV) (ho:S.on=false) (hl:Lx S b s i vT vW) (hs:s.length<=5000) (hi:i<s.length):∃U,F21 self qa3 (.ptr b 0) S=R21_6 self qa3 (qbu E0 self Tryd.f21) qav (fr 88 [(0,.ptr b 0),(3,.int .i64 (i:Int))]) U/\Lx U b s (i+if digM s i then 1 else 0) vT vW/\Grew (fun x=>x=b) S U/\U.next=S.next/\U.on=false/\(digM s i=false->U=S):=by
 have hE:F21 self qa3 (.ptr b 0) S=_:=F21_eq ..;rw[hl.r1 ho]at hE;dsimp only at hE;rw[hl.r0 ho]at hE;dsimp only at hE;rw[qf5 _ _ _ hi,qfj hi,oB]at hE;obtain⟨U,k1,k2,k3,k4,k5⟩:=hl.bump ho 1 (by omega);have e1:qa5 E0 .geq 5 false true (.int .u8 ((byt s i).toNat:Int)) (.int .u8 48)=some (.bool (decide (48<=(byt s i).toNat))):=by rw[show V.int .u8 48=.int .u8 ((48:Nat):Int)from rfl]; exact u8ge _ 48
 have e2:qa5 E0 .leq 5 false true (.int .u8 ((byt s i).toNat:Int)) (.int .u8 50)=some (.bool (decide ((byt s i).toNat<=50))):=by rw[show V.int .u8 50=.int .u8 ((50:Nat):Int)from rfl]; exact u8le _ 50
 have e3:=qff (i:=i) (by omega);have e4:=hl.s0f ho;have e5:=qk5 (i+1) s.length;rw[digM_eq];rw[e1,oB]at hE;generalize decide (48<=(byt s i).toNat)=q1 at hE ⊢;generalize decide ((byt s i).toNat<=50)=q2 at e2 ⊢;cases q1 with
 | false=>
  simp only[g_t,g_f,g_no,b_s,c_f,c_t,p_b,i_b]at hE;exact⟨S,hE,hl,Grew.refl _ _,rfl,ho,fun _=>rfl⟩
 | true=>
 simp only[g_t,b_s,c_t,e2,p_b]at hE;cases q2 with
 | false=>
  simp only[g_t,g_f,g_no,b_s,c_f,c_t,p_b,i_b]at hE;exact⟨S,hE,hl,Grew.refl _ _,rfl,ho,fun _=>rfl⟩
 | true=>
 simp only[g_t,b_s,c_t,e3,n_k,f_0,e4,lnStr_sv,e5,p_b]at hE;by_cases h3:i+1<s.length
 . have e6:ixS (sv s) (.int .i64 ((i+1:Nat):Int))=some (.int .u8 ((byt s (i+1)).toNat:Int)):=by rw[qf5 _ _ _ h3,qfj h3]
   have e7:qa5 E0 .eql 5 false true (.int .u8 ((byt s (i+1)).toNat:Int)) (.int .u8 60)=some (.bool (decide (byt s (i+1)=60))):=by rw[show V.int .u8 60=.int .u8 ((60:UInt8).toNat:Int)from rfl]; exact qjx _ 60
   have e8:qa5 E0 .eql 5 false true (.int .u8 ((byt s (i+1)).toNat:Int)) (.int .u8 62)=some (.bool (decide (byt s (i+1)=62))):=by rw[show V.int .u8 62=.int .u8 ((62:UInt8).toNat:Int)from rfl]; exact qjx _ 62
   rw[qc0 h3,qc0 h3];rw[dT h3]at hE;simp only[g_t,b_s,c_t,n_k,f_0,e4,e3,e6,e7]at hE;generalize decide (byt s (i+1)=60)=q4 at hE ⊢;generalize decide (byt s (i+1)=62)=q5 at e8 ⊢
   have hE2:F21 self qa3 (.ptr b 0) S=ifK (.bool (q4||q5)) ((qa1 (.ptr b 0)).bind fun t=>(faP 1 false 1 t).bind fun u=>(ld1 u S).bind fun p=>(qa5 E0 .add 3 false true p.1 (.int .i64 1)).bind fun x=>(qa1 (.ptr b 0)).bind fun t=>(faP 1 false 1 t).bind fun u=>(stP 1 u x p.2).bind fun p92=>R21_6 self qa3 (qbu E0 self Tryd.f21) qav (fr 88 [(0,.ptr b 0),(3,.int .i64 (i:Int))]) p92.2) (R21_6 self qa3 (qbu E0 self Tryd.f21) qav (fr 88 [(0,.ptr b 0),(3,.int .i64 (i:Int))]) S):=by
    rw[hE];cases q4 with
    | true=>
     simp only[g_t,g_f,g_no,Bool.not_true,nF,b_s,c_f,c_t,p_b,Bool.true_or];rfl
    | false=>
     simp only[g_t,g_f,g_no,Bool.not_true,nF,b_s,c_f,c_t,p_b,Bool.false_or,n_k,f_0,e4,e3,e6,e8]
   rw[ifK_bool]at hE2;cases hq:(q4||q5)with
   | true=>
    rw[hq,cT,show V.int .i64 1=.int .i64 ((1:Nat):Int)from rfl,k1]at hE2;exact⟨U,hE2,k2,k3,k4,k5,fun h=>by cases h⟩
   | false=>
    rw[hq,cF]at hE2;exact⟨S,hE2,hl,Grew.refl _ _,rfl,ho,fun _=>rfl⟩
 . rw[atD_past h3,atD_past h3]
   rw[dF h3]at hE;simp only[g_t,g_f,g_no,b_s,c_f,c_t,p_b,i_b]at hE;exact⟨S,hE,hl,Grew.refl _ _,rfl,ho,fun _=>rfl⟩
end
section
variable {K:FuncId->Option KF} {S U T:St} {N b i:Nat} {s:Bs} {toks:List Tok} {waits:List (Nat×Bs)} {vT vW:V}
theorem find_mar {s:Bs} {k:Nat} {o:Bs} (h:(marT.find? fun o=>atD s k o)=some o):k+o.length<=s.length/\0<o.length:=by
 have h1:=List.find?_some h;have h2:=List.mem_of_find?_eq_some h
 have h3:o≠[]:=by
  rintro rfl;revert h2
  decide
 exact⟨qbg h1 h3,List.length_pos_iff.2 h3⟩
theorem qhb (s:Bs) (i:Nat):qfq s i=match marT.find? fun o=>atD s (i+if digM s i then 1 else 0) o with
 | some o=>(if digM s i then 1 else 0)+o.length
 | none=>0:=rfl
theorem digM_mark {s:Bs} {i:Nat} (h:digM s i=true):marT.find? (fun o=>atD s (i+1) o)≠none:=by
 intro hn;have hall:=List.find?_eq_none.1 hn;have h1:=hall [60] (by decide);have h2:=hall [62] (by decide);unfold digM at h;simp only[bA,Bool.or_eq_true]at h;rcases h.2 with h|h
 . exact h1 h
 . exact h2 h
theorem mark_run (hK:RefL K) (m:Nat) (h:LS S N b s i toks waits vT vW) (hs:s.length<=5000) (hi:i<s.length) (hl2:toks.length<50000):RdR (mrkD s i toks waits) S N b s i toks waits vT vW ((ev E0 K (m+9)).f 21 [.ptr b 0] S):=by
 have hF:∀r,F21 (ev E0 K (m+8)) qa3 (.ptr b 0) S=some r->(ev E0 K (m+9)).f 21 [.ptr b 0] S=some r:=fun r e=>rv21 hK e;have hbN:=h.bN;obtain⟨U0,z1,z2,z3,z4,z5,z6⟩:=mark_head (ev E0 K (m+8)) h.on h.lx hs hi;have h0:=h.move z3 (fun x hx=>.inl (by omega)) z2;have hdl:(i+if digM s i then 1 else 0)<=s.length:=by split<;>omega
 obtain⟨U1,a1,a2,a3,a4⟩:=marks_run hK (m+7) h0.on;have h1:=h0.fresh a3;have hf:=f67_run hK (m+2) h1.on h1.lx (by omega) hdl a2 (by decide);rw[R21_6_eq,a1,callP_ret]at z1;unfold mrkD;rw[qhb];have g0:Grew (fun x=>x=b\/N<=x) S U1:=(z3.mono fun x _ hx=>.inl hx).trans (a3.mono fun x _ hx=>hx.elim);cases hfd:marT.find? (fun o=>atD s (i+if digM s i then 1 else 0) o)with
 | none=>
  have hd:digM s i=false:=by
   cases hd:digM s i with
   | false=>rfl
   | true=>
    rw[hd]at hfd;exact absurd hfd (digM_mark hd)
  have hU:=z6 hd;subst hU;rw[hfd]at hf;have hf:_=_:=hf
  have h47:(ev E0 K (m+8)).f 47 [.slice U0.next 0 12 12,.fn (.func 23) [.ptr b 0] []] U1=some (.ret (.bool false),U1):=rv47 hK (by
   show F47 (ev E0 K (m+7)) qa3 _ _ U1=_;rw[F47_eq,hf,callP_ret]
   rfl)
  rw[h47,callP_ret,qhi,oB,ifK_bool,nF,cT,next_lg hK (m+5) h1.on h1.lx (by rw[hd]; simp; omega),callP_ret,ifK_bool,hd]at z1;simp only[Bool.false_eq_true,↓reduceIte,Nat.add_zero]at z1;rw[iN (by simp)];cases ha:atD s i [38]with
  | true=>
   rw[ha,cT]at z1;rw[iP rfl];have hb:=(qc4 hK (m+7) h1.on 19 i).callP (fun t15 S15=>some (.ret (.bool false),S15));obtain⟨U,x,y1,y2⟩:=Bad.after g0 (bad0 hb);exact⟨U,x,hF _ (z1.trans y1),y2⟩
  | false=>
   rw[ha,cF]at z1;rw[iN (by simp)];rw[hd]at h1;exact⟨U1,hF _ z1,by simpa using h1,a3⟩
 | some o=>
  obtain⟨hol,hop⟩:=find_mar hfd;rw[hfd]at hf;obtain⟨j,U2,b0,b1,b2,b3,b4,b5⟩:=hf;have h2:=h1.move b3 (fun x hx=>.inl (by omega)) b2;have g2:=g0.trans (b3.mono fun x _ hx=>(.inl hx:x=b\/N<=x))
  have h47:(ev E0 K (m+8)).f 47 [.slice U0.next 0 12 12,.fn (.func 23) [.ptr b 0] []] U1=some (.ret (.bool true),U2):=rv47 hK (by
   show F47 (ev E0 K (m+7)) qa3 _ _ U1=_;rw[F47_eq,b1,callP_ret,binV_ii,intsV_geq,oB]
   congr 4)
  rw[h47,callP_ret,qhi,oB,ifK_bool,Bool.not_true,cF,b2.t2o b5]at z1;dsimp only at z1;rw[b2.l0 b5]at z1;dsimp only at z1;rw[b2.l1 b5]at z1;dsimp only at z1;generalize hd:(if digM s i=true then 1 else 0)=d at *;rw[qb9 und9 s (qe4 .i64 .i64 (by omega) (by omega)) (by omega),oB]at z1;dsimp only at z1;rw[show i+d+o.length-i=d+o.length by omega,build_op,oB,zT_eq]at z1;obtain⟨y,v',T1,T2,T3,c1,c2,c3,c4,c5,c8⟩:=h2.push (tk_leaf 1 ((s.drop i).take (d+o.length)) false i) hl2;obtain⟨l2,c2'⟩:=c2 [];obtain⟨l3,c3'⟩:=c3;have hsl:onS (onS (U2.lg [⟨b,1,2,false⟩]))=U2.lg []:=rfl;rw[show(onS (onS (U2.lg [(⟨b,1,2,false⟩:LE)])))=U2.lg []from rfl,c1,oB]at z1;dsimp only at z1;rw[show onS (T1.lg [(⟨U2.next,0,big,true⟩:LE)])=T1.lg []from rfl,c2',oB]at z1;dsimp only at z1;rw[nilK,oB,show faP 2 false 1 (.ptr b 0)=some (.ptr b 2)from rfl,oB,show onS (T2.lg l2)=T2.lg []from rfl,c3',oB]at z1;dsimp only at z1;have hne:b≠U2.next:=by have:=h2.hi; omega
  rw[qfm (show qag [[],[],[],[],(U2.lg [⟨b,2,3,false⟩]).log,[],[],[],(U2.lg [⟨b,0,1,false⟩]).log,[],[],[],[],(U2.lg [⟨b,1,2,false⟩]).log,(onS (U2.lg [⟨b,1,2,false⟩])).log,[],[],(T1.lg [⟨U2.next,0,big,true⟩]).log,(T2.lg l2).log,[],[],(T3.lg l3).log] [(4,[8,13,14,17]),(8,[13])]=true from pairs_mark b U2.next l2 l3 hne)]at z1;obtain⟨T4,e1,e2,e3,e4⟩:=qdn b5 T3 l3 [[],[],[],[],(U2.lg [⟨b,2,3,false⟩]).log,[],[],[],(U2.lg [⟨b,0,1,false⟩]).log,[],[],[],[],(U2.lg [⟨b,1,2,false⟩]).log,(onS (U2.lg [⟨b,1,2,false⟩])).log,[],[],(T1.lg [⟨U2.next,0,big,true⟩]).log,(T2.lg l2).log,[],[],(T3.lg l3).log];rw[e1]at z1;have c6:=c4.same e2 e3 e4;have g4:Grew (fun x=>x=b\/N<=x) U2 T4:=⟨by rw[e3]; exact c5.next,e4.trans b5.symm,fun x hx hw=>by rw[e2]; exact c5.keep x hx hw⟩
  dsimp only;rw[iP (show d+o.length≠0 by omega)];refine⟨T4,v',vW,hF _ z1,?_,g2.trans g4⟩;dsimp only;rw[show i+(d+o.length)=i+d+o.length by omega];exact c6
end
def qla (self:EV) (v0 v3 v4 vs:V) (S:St):Rs:=
(qa1 v0).bind fun t232=>
(faP 2 false 1 t232).bind fun t233=>
(ld1 t233 (onS S)).bind fun p234=>
(faP 0 false 1 v3).bind fun t235=>
(ld1 t235 (onS p234.2)).bind fun p236=>
(ixP 5 p234.1 p236.1).bind fun t237=>
qh7 [(3,[5])] S [[],[],[],p234.2.log,[],p236.2.log,[],[]] (onS p236.2) fun S239=>
(qa1 v0).bind fun t242=>
(faP 0 false 1 t242).bind fun t243=>
(ld1 t243 S239).bind fun p244=>
(qak E0 9 p244.1 (some v4) (some vs) none p244.2).bind fun p247=>
(qa1 t237).bind fun t248=>
(faP 1 false 1 t248).bind fun t249=>
(stP 1 t249 p247.1 p247.2).bind fun p250=>
(qa1 t237).bind fun t252=>
(faP 3 false 1 t252).bind fun t253=>
(ld1 t253 p250.2).bind fun p254=>
(unV .not p254.1).bind fun t255=>
ifK t255 (
(qa1 v0).bind fun t257=>
(faP 0 false 1 t257).bind fun t258=>
(ld1 t258 p254.2).bind fun p259=>
(qak E0 9 p259.1 none (some vs) none p259.2).bind fun p261=>
(qab E0 57 [(0,p261.1),(1,v4)]).bind fun t263=>
(boxK 57 t263 p261.2).bind fun p264=>
callP (self.f 49 [p264.1,(.int .i64 2),(.int .i64 0)] p264.2) fun t268 S268=>
(qa1 t237).bind fun t269=>
(faP 2 false 1 t269).bind fun t270=>
(stP 1 t270 t268 S268).bind fun p271=>
some (.ret (.tuple []),p271.2)) (
some (.ret (.tuple []),p254.2))
theorem setT_text (x:Tok) (v:V) (t:Bs):(qew x v).set (sv t) 1=qew {x with text:=t} v:=by kernel_rfl
theorem setT_parts (x:Tok) (v v':V) (l:List Part):(qew x v).set v' 2=qew {x with parts:=l} v':=by kernel_rfl
theorem qm5 (x:Tok) (v:V):(qew x v).get 3=some (.bool x.quoted):=by kernel_rfl
theorem build_lx (s:Bs) (i:Nat):qab E0 57 [(0,sv s),(1,.int .i64 (i:Int))]=some (.agg 4 (Tr.ofListFrom .nil [sv s,.int .i64 (i:Int),.nilslice,.nilslice] 0)):=by kernel_rfl
def qhz (s:Bs) (w:Nat×Bs) (i:Nat) (toks:List Tok):Except Flt (List Tok×Nat):=match docD (s.length+1) s w.2 i with
 | none=>.error (19,s.length)
 | some (k,j)=>
  let x:=toks.getD w.1 ⟨0,[],[],false,0⟩
  if x.quoted then .ok (toks.set w.1 {x with text:=(s.drop i).take (k-i)},j)
  else match qar (qcl s) (s.take k) 2 0 i [] []with
   | .error e=>.error e
   | .ok (l,_)=>.ok (toks.set w.1 {x with text:=(s.drop i).take (k-i),parts:=l},j)
theorem qf0 (s:Bs) (w:Nat×Bs) (ws:List (Nat×Bs)) (i:Nat) (toks:List Tok):qez s (w::ws) i toks=match qhz s w i toks with
 | .error e=>.error e
 | .ok (t,j)=>qez s ws j t:=by
 obtain⟨t,last⟩:=w;rw[qez];unfold qhz;cases docD (s.length+1) s last i with
 | none=>rfl
 | some q=>
  obtain⟨k,j⟩:=q;dsimp only;split
  . rfl
  . cases qar (qcl s) (s.take k) 2 0 i [] []with
    | error e=>rfl
    | ok q=>rfl
section
variable {K:FuncId->Option KF} {S U T:St} {N b i:Nat} {s:Bs} {toks:List Tok} {waits:List (Nat×Bs)} {vT vW:V}
theorem LS.tok (h:LS S N b s i toks waits vT vW) {t:Nat} {x:Tok} (hx:toks[t]?=some x):∃r v rows,qah vT=some r/\ixP 5 vT (.int .i64 (t:Int))=some (.ptr r (t*5))/\RV S v 49 6 rows/\PrAt S (fun y=>N<=y/\y<S.next/\qah vT≠some y/\qah vW≠some y) x.parts rows/\(∀r,qah v=some r->N<=r/\r<S.next/\qah vT≠some r/\qah vW≠some r)/\
 (∀j y,j<5->(qew x v).get j=some y->ld1 (.ptr r (t*5+j)) S=some (y,S))/\
 (∀(j:Nat) (y:V) (x':Tok),j<5->(y.size=1/\y.cells=Ev.one y/\qaa y=false)->TkAt S (fun y=>N<=y/\y<S.next/\qah vT≠some y/\qah vW≠some y) x' ((qew x v).set y j)->∃U,stP 1 (.ptr r (t*5+j)) y S=some (.tuple [],U)/\LS U N b s i (toks.set t x') waits vT vW/\Grew (fun z=>z=r) S U/\U.next=S.next):=by
 obtain⟨rT,r1,r2⟩:=h.tk;obtain⟨c,c1,v,rows,c2,c3,c4,c5⟩:=r2.2 t x hx;have hlt:=(List.getElem?_eq_some_iff.1 c1).1;obtain⟨r,h1,h2,h3,h4⟩:=r1.at hlt;have hbN:=h.bN;have hhi:=h.hi;subst c2;refine⟨r,v,rows,h1,h2,c3,c4,c5,fun j y hj hy=>qfe h.on h3 c1 hj hy,fun j y x' hj hs ht=>?_⟩;obtain⟨U,k1,k2,k3,k4⟩:=rv_st1 h.on h3 c1 hj (by omega) y hs.1 hs.2.1 hs.2.2;have hrN:=(h.tb r h1).1;refine⟨U,k1,⟨k3.on.trans h.on,h.bN,by omega,h.lx.grew (by omega) (by omega) k3,⟨rT.set t ((qew x v).set y j),?_,?_⟩,h.wt.grew (fun q hq hx=>by subst hx; exact(h.tb _ h1).2 hq) k3,h.tb,h.wb⟩,k3,k4⟩
 . rcases r1 with⟨rfl,_⟩|⟨r',g1,g2,g3,g4⟩
   . simp at hlt
   . have:r'=r:=by rcases g4 with rfl|rfl<;>exact Option.some.inj h1
     subst this;exact .inr ⟨r',k2,by omega,by rw[List.length_set]; exact g3,by rw[List.length_set]; exact g4⟩
 . refine((r2.set t ht).grew k3 fun z hz he=>?_).mono fun z hz=>⟨hz.1,by omega,hz.2.2⟩
   subst he;exact hz.2.2.1 h1
theorem set_set (toks:List Tok) (t:Nat) (x y:Tok):(toks.set t x).set t y=toks.set t y:=List.set_set ..
theorem docend_run (hK:RefL K) (d:Nat) {B t k frm:Nat} {last:Bs} {x:Tok} (h:LS S N b s i toks waits vT vW) (hB:AgAt S B 89 2 (qmw (t,last))) (hx:toks[t]?=some x) (hs:s.length<=5000) (hfk:frm<=k) (hk:k<=s.length) (hd:18*s.length+600<=d) :
 match(if x.quoted then .ok (toks.set t {x with text:=(s.drop frm).take (k-frm)})else match qar (qcl s) (s.take k) 2 0 frm [] []with
  | .error e=>.error e
  | .ok (l,_)=>.ok (toks.set t {x with text:=(s.drop frm).take (k-frm),parts:=l}):Except Flt (List Tok))with
 | .error e=>Bad (fun x=>x=b\/N<=x) S (qla (ev E0 K d) (.ptr b 0) (.ptr B 0) (.int .i64 (frm:Int)) (.int .i64 (k:Int)) S) e.1 e.2
 | .ok tk=>∃U,qla (ev E0 K d) (.ptr b 0) (.ptr B 0) (.int .i64 (frm:Int)) (.int .i64 (k:Int)) S=some (.ret (.tuple []),U)/\LS U N b s i tk waits vT vW/\Grew (fun x=>x=b\/N<=x) S U:=by
 obtain⟨d',rfl⟩:∃d',d=d'+1:=⟨d-1,by omega⟩
 generalize hR:qla (ev E0 K (d'+1)) (.ptr b 0) (.ptr B 0) (.int .i64 (frm:Int)) (.int .i64 (k:Int)) S=R;rw[qla]at hR;have hE:=hR.symm;have hbN:=h.bN;have hhi:=h.hi;have hlt:=(List.getElem?_eq_some_iff.1 hx).1;obtain⟨r,v,rows,a1,a2,a3,a4,a5,a6,a7⟩:=h.tok hx;obtain⟨U1,b1,b2,b3,b4⟩:=a7 1 (sv ((s.drop frm).take (k-frm))) {x with text:=(s.drop frm).take (k-frm)} (by omega) ⟨rfl,rfl,rfl⟩ ⟨v,rows,setT_text ..,a3,a4,a5⟩;have hrN:=(h.tb r a1).1;have ho:=h.on;rw[h.lx.t2o ho]at hE;dsimp only at hE;rw[fap0,oB,show onS (S.lg [(⟨b,2,3,false⟩:LE)])=S.lg []from rfl,qc5 ho (hB.ld1 ho (by unfold big; decide) (by decide) (show(qmw (t,last)).get 0=some (.int .i64 (t:Int))from by kernel_rfl)) [],oB]at hE;dsimp only at hE;rw[a2,oB,qbq (by rfl),relog_on ho,h.lx.r0 ho]at hE;dsimp only at hE;rw[qb9 und9 s (qe4 .i64 .i64 hfk hk) hk,oB]at hE;dsimp only at hE;rw[nilK,oB,faPg,oB,b1,oB]at hE;dsimp only at hE;have hx1:(toks.set t {x with text:=(s.drop frm).take (k-frm)})[t]?=some {x with text:=(s.drop frm).take (k-frm)}:=List.getElem?_set_self hlt;obtain⟨r',v1,rows1,c1,c2,c3,c4,c5,c6,c7⟩:=b2.tok hx1;rw[a1]at c1;cases c1;rw[oB,faPg,oB,c6 3 _ (by omega) (qm5 ..),oB]at hE;dsimp only at hE;rw[qhi,oB,ifK_bool]at hE;have g1:Grew (fun x=>x=b\/N<=x) S U1:=b3.mono fun x _ hx=>.inr (by omega);cases hq:x.quoted with
 | true=>
  rw[iP rfl];rw[hq,Bool.not_true,cF]at hE;rw[hq]at b2;exact⟨U1,hE,b2,g1⟩
 | false=>
  rw[iN (by simp)];rw[hq,nF,cT,b2.lx.r0 b2.on]at hE;dsimp only at hE;rw[qb9 und9 s (qey .i64 hk) hk,oB,List.drop_zero,Nat.sub_zero]at hE;dsimp only at hE;rw[build_lx,oB,show ∀T:Tr V,boxK 57 (.agg 4 T) U1=some (.ptr U1.next 0,(nwP 57 4 T U1).2)from fun T=>rfl,oB]at hE;dsimp only at hE;obtain⟨n1,n2,n3⟩:=qbp b2.on 57 4 (Tr.ofListFrom .nil [sv (s.take k),.int .i64 (frm:Int),.nilslice,.nilslice] 0);have lx2:Lx (nwP 57 4 (Tr.ofListFrom .nil [sv (s.take k),.int .i64 (frm:Int),.nilslice,.nilslice] 0) U1).2 U1.next (s.take k) frm .nilslice .nilslice:=⟨_,n1,by kernel_rfl,by kernel_rfl,by kernel_rfl,by kernel_rfl⟩
  have htk:(s.take k).length=k:=by rw[List.length_take]; omega
  have hp:=parts_run hK (qcl s) (d'+1) _ U1.next frm (s.take k) .nilslice .nilslice 2 0 (n2.on.trans b2.on) (by omega) lx2 (by rw[htk]; omega) (by rw[htk]; exact hfk) (by omega) (by rw[htk]; unfold qcl; omega) (by rw[htk]; unfold qcl; omega) (by unfold qcl; omega)
  have hh1:=b2.hi;generalize hS2:(nwP 57 4 (Tr.ofListFrom .nil [sv (s.take k),.int .i64 (frm:Int),.nilslice,.nilslice] 0) U1).2=S2 at *;rw[show(.int .i64 2:V)=.int .i64 ((2:Nat):Int)from rfl,show(.int .i64 0:V)=.int .i64 ((0:Nat):Int)from rfl]at hE;cases hq2:qar (qcl s) (s.take k) 2 0 frm [] []with
  | error e=>
   rw[hq2]at hp;dsimp only;rw[hE];exact Bad.after g1 (Bad.after (n2.mono fun x _ hx=>hx.elim) ((Bad.callP hp _).mono fun x hx=>.inr (by omega)))
  | ok q=>
   obtain⟨l,j⟩:=q;rw[hq2]at hp;obtain⟨U3,v3,e1,e2,e3,e4⟩:=hp;dsimp only at e4;rw[e1,callP_ret]at hE;have g3:Grew (fun x=>U1.next<=x) U1 U3:=(n2.mono fun x _ hx=>hx.elim).trans (e3.mono fun x _ hx=>by omega);have b5:=b2.move g3 (fun x hx=>.inr hx) (b2.lx.grew (by omega) (by omega) g3);obtain⟨r',v5,rows5,f1,f2,f3,f4,f5,f6,f7⟩:=b5.tok hx1;rw[a1]at f1;cases f1;obtain⟨rows6,p1,p2,p3⟩:=e4
   have hvb:∀r,qah vT=some r->r<U1.next:=by
    obtain⟨rT,q1,_⟩:=b2.tk;exact fun r hr=>q1.blk_lt hr
   have hwb:∀r,qah vW=some r->r<U1.next:=fun r hr=>b2.wt.blk_lt hr
   obtain⟨U6,y1,y2,y3,y4⟩:=f7 2 v3 {x with text:=(s.drop frm).take (k-frm),parts:=l} (by omega) (qka p1) ⟨v3,rows6,setT_parts _ _ _ l,p1,p2.mono fun z hz=>⟨by omega,hz.2,fun hv=>by have:=hvb _ hv; omega,fun hv=>by have:=hwb _ hv; omega⟩,fun q hq=>⟨by have:=p3 q hq; omega,p1.blk_lt hq,fun hv=>by have:=hvb _ hv; have:=p3 q hq; omega,fun hv=>by have:=hwb _ hv; have:=p3 q hq; omega⟩⟩;rw[oB,faPg,oB,y1,oB]at hE;dsimp only;rw[set_set,hq]at y2;exact⟨U6,hE,y2,(g1.trans (g3.mono fun x _ hx=>.inr (by omega))).trans (y3.mono fun x _ hx=>.inr (by omega))⟩
end
theorem qlu:∀(n:Nat) (s last:Bs) (i k j:Nat),docD n s last i=some (k,j)->i<=k/\k<=s.length/\i<j/\j<=s.length
 | 0,s,last,i,k,j,h=>by unfold docD at h; cases h
 | n+1,s,last,i,k,j,h=>by
  unfold docD at h;split at h
  . rename_i hlt
    dsimp only at h;rw[nlD_idx (by omega)]at h;split at h
    . cases h
      omega
    . have:=qlu n _ _ _ _ _ h
      omega
  . cases h
section
variable {K:FuncId->Option KF} {S U T:St} {N b i:Nat} {s:Bs} {toks:List Tok} {waits:List (Nat×Bs)} {vT vW:V}
theorem getW_end (t:Nat) (last:Bs):(qmw (t,last)).get 1=some (sv last):=by kernel_rfl
theorem doc_loop (hK:RefL K) (d:Nat) {B t frm:Nat} {last:Bs} (hs:s.length<=5000) (nk:Ac->St->Rs) (ek:Nat->Ac->St->Rs) :
 ∀(n i' q:Nat) (S':St),LS S' N b s i' toks waits vT vW->AgAt S' B 89 2 (qmw (t,last))->B<S'.next->B≠b->i'<=s.length->s.length+1<=n+i'->n<q->
 (docD n s last i'=none->Bad (fun x=>x=b) S' (L45_6 (ev E0 K (d+9)) qa3 nk ek q (.ptr b 0) (.ptr B 0) (.int .i64 (frm:Int)) S') 19 s.length)/\
 (∀k j,docD n s last i'=some (k,j)->∃U,Grew (fun x=>x=b) S' U/\U.next=S'.next/\LS U N b s j toks waits vT vW/\AgAt U B 89 2 (qmw (t,last))/\L45_6 (ev E0 K (d+9)) qa3 nk ek q (.ptr b 0) (.ptr B 0) (.int .i64 (frm:Int)) S'=qla (ev E0 K (d+9)) (.ptr b 0) (.ptr B 0) (.int .i64 (frm:Int)) (.int .i64 (k:Int)) U)
 | _,_,0,_,_,_,_,_,_,_,hq=>by omega
 | 0,i',q+1,S',h,hB,hBn,hBb,hi,hn,hq=>by omega
 | n+1,i',q+1,S',h,hB,hBn,hBb,hi,hn,hq=>by
  have ih:=doc_loop hK d (B:=B) (t:=t) (frm:=frm) (last:=last) hs nk ek n;generalize hR:L45_6 (ev E0 K (d+9)) qa3 nk ek (q+1) (.ptr b 0) (.ptr B 0) (.int .i64 (frm:Int)) S'=R;rw[L45_6_eq]at hR;have hE:=hR.symm;have ho:=h.on;have hl:=h.lx;rw[qed hK (d+8) ho hl,callP_ret,qhi,oB,ifK_bool]at hE;rw[docD];by_cases hlt:i'<s.length
  . rw[iP hlt]
    dsimp only;rw[nlD_idx hi];have hle:=nlD_le (s.drop i');rw[List.length_drop]at hle;rw[dT hlt,Bool.not_true,cF,hl.r1 ho]at hE;dsimp only at hE;rw[hl.r0 ho]at hE;dsimp only at hE;rw[qb9 und9 s (qcw .i64 hi) (lR _),oB,List.take_of_length_le (by rw[List.length_drop]; omega)]at hE;dsimp only at hE;rw[cut_run hK (d+5) (s.drop i') _ (by rw[List.length_drop]; omega),callP_ret]at hE;rw[show ∀a b c:V,qac (.tuple [a,b,c]) 0=some a from fun _ _ _=>rfl,oB,show ∀a b c:V,qac (.tuple [a,b,c]) 1=some b from fun _ _ _=>rfl,oB,show ∀a b c:V,qac (.tuple [a,b,c]) 2=some c from fun _ _ _=>rfl,oB,hl.r1 ho]at hE;dsimp only at hE;rw[lnStr_sv,oB]at hE;dsimp only at hE;rw[List.length_take,List.length_drop,Nat.min_eq_left hle,addN (by omega),oB]at hE;obtain⟨U,k1,k2,k3,k4,k5⟩:=hl.set ho (i'+nlD (s.drop i'));have hbN:=h.bN;have hU:=h.move k3 (fun x hx=>.inl (by omega)) k2;rw[k1,ifK_bool]at hE;dsimp only at hE
    have fin:∀(U2:St) (j:Nat),j=min (i'+nlD (s.drop i')+1) s.length->LS U2 N b s j toks waits vT vW->Grew (fun x=>x=b) S' U2->U2.next=S'.next->R=ifK (.bool (!((s.drop i').take (nlD (s.drop i'))==last))) (L45_6 (ev E0 K (d+9)) qa3 nk ek q (.ptr b 0) (.ptr B 0) (.int .i64 (frm:Int)) U2) (qla (ev E0 K (d+9)) (.ptr b 0) (.ptr B 0) (.int .i64 (frm:Int)) (.int .i64 (i':Int)) U2)->
     ((if(List.take (i'+nlD (s.drop i')-i') (s.drop i')==last)=true then some (i',min (i'+nlD (s.drop i')+1) s.length)else docD n s last (min (i'+nlD (s.drop i')+1) s.length))=none->Bad (fun x=>x=b) S' R 19 s.length)/\
     (∀k j,(if(List.take (i'+nlD (s.drop i')-i') (s.drop i')==last)=true then some (i',min (i'+nlD (s.drop i')+1) s.length)else docD n s last (min (i'+nlD (s.drop i')+1) s.length))=some (k,j)->∃U,Grew (fun x=>x=b) S' U/\U.next=S'.next/\LS U N b s j toks waits vT vW/\AgAt U B 89 2 (qmw (t,last))/\R=qla (ev E0 K (d+9)) (.ptr b 0) (.ptr B 0) (.int .i64 (frm:Int)) (.int .i64 (k:Int)) U):=fun U2 j hj hU2 g2 n2 hR2=>by
     have hB2:AgAt U2 B 89 2 (qmw (t,last)):=hB.grew hBn hBb g2;rw[show i'+nlD (s.drop i')-i'=nlD (s.drop i') by omega,<- hj];rw[ifK_bool]at hR2;cases hc:((s.drop i').take (nlD (s.drop i'))==last)with
     | true=>
      rw[hc,Bool.not_true,cF]at hR2;rw[iP rfl];refine⟨fun h=>by(cases h),fun k j' hk=>?_⟩;cases hk;exact⟨U2,g2,n2,hU2,hB2,hR2⟩
     | false=>
      rw[hc,nF,cT]at hR2;rw[iN (by simp),hR2];obtain⟨i1,i2⟩:=ih j q U2 hU2 hB2 (by omega) hBb (by omega) (by omega) (by omega);refine⟨fun h=>Bad.after g2 (i1 h),fun k j' hk=>?_⟩;obtain⟨U3,y1,y2,y3⟩:=i2 k j' hk;exact⟨U3,g2.trans y1,y2.trans n2,y3⟩
    have hBf:∀T,AgAt T B 89 2 (qmw (t,last))->T.on=false->∀k:V×St->Rs,((faP 1 false 1 (.ptr B 0)).bind fun t=>(ld1 t T).bind k)=k (sv last,T):=fun T hT oT k=>by
     rw[fap1,oB,hT.ld1 oT (by unfold big; decide) (by decide) (getW_end t last),oB]
    by_cases hf:nlD (s.drop i')<s.length-i'
    . obtain⟨U2,j1,j2,j3,j4,j5⟩:=k2.bump k5 1 (by omega)
      rw[dT hf,cT,show V.int .i64 1=.int .i64 ((1:Nat):Int)from rfl,j1]at hE;dsimp only at hE;have hU2:=hU.move j3 (fun x hx=>.inl (by omega)) j2;rw[hBf U2 ((hB.grew hBn hBb k3).grew (by omega) hBb j3) j5]at hE;dsimp only at hE;rw[neStr,oB]at hE;exact fin U2 _ (by omega) hU2 (k3.trans j3) (by omega) hE
    . rw[dF hf,cF,hBf U (hB.grew hBn hBb k3) k5]at hE
      dsimp only at hE;rw[neStr,oB]at hE;exact fin U _ (by omega) hU k3 k4 hE
  . rw[iN hlt]
    refine⟨fun _=>?_,fun k j hk=>by cases hk⟩;rw[dF hlt,nF,cT,hl.r0 ho]at hE;dsimp only at hE;rw[lnStr_sv,oB]at hE;dsimp only at hE;rw[hE];exact bad0 ((qc4 hK (d+8) ho 19 s.length).callP _)
theorem doc_run (hK:RefL K) (d:Nat) {w:Nat×Bs} (h:LS S N b s i toks waits vT vW) (hw:w.1<toks.length) (hs:s.length<=5000) (hi:i<=s.length) (hd:18*s.length+600<=d) :
 (∀e,qhz s w i toks=.error e->Bad (fun x=>x=b\/N<=x) S ((ev E0 K (d+10)).f 45 [.ptr b 0,.agg 2 (qmw w)] S) e.1 e.2)/\
 (∀tk j,qhz s w i toks=.ok (tk,j)->∃U,(ev E0 K (d+10)).f 45 [.ptr b 0,.agg 2 (qmw w)] S=some (.ret (.tuple []),U)/\LS U N b s j tk waits vT vW/\Grew (fun x=>x=b\/N<=x) S U):=by
 obtain⟨t,last⟩:=w;have hF:∀r,F45 (ev E0 K (d+9)) qa3 (.ptr b 0) (.agg 2 (qmw (t,last))) S=some r->(ev E0 K (d+10)).f 45 [.ptr b 0,.agg 2 (qmw (t,last))] S=some r:=fun r e=>rv45 hK e;generalize hR:F45 (ev E0 K (d+9)) qa3 (.ptr b 0) (.agg 2 (qmw (t,last))) S=R at hF;rw[F45_eq]at hR;have hE:=hR.symm;obtain⟨n1,n2,n3⟩:=qbp h.on 89 2 (qmw (t,last));have h1:=h.fresh n2;have hbN:=h.bN;have hhi:=h.hi;rw[show ∀T:Tr V,boxK 89 (.agg 2 T) S=some (.ptr S.next 0,(nwP 89 2 T S).2)from fun T=>rfl,oB]at hE;dsimp only at hE;rw[h1.lx.r1 h1.on]at hE;dsimp only at hE;have g1:Grew (fun x=>x=b\/N<=x) S (nwP 89 2 (qmw (t,last)) S).2:=n2.mono fun x _ hx=>hx.elim;generalize (nwP 89 2 (qmw (t,last)) S).2=S1 at *;obtain⟨l1,l2⟩:=doc_loop hK d (B:=S.next) (t:=t) (frm:=i) (last:=last) hs (qbu E0 (ev E0 K (d+9)) Tryd.f45) (exB 0 (qbu E0 (ev E0 K (d+9)) Tryd.f45) qav) (s.length+1) i qa3 S1 h1 n1 (by omega) (by omega) hi (by omega) (by unfold qa3; omega)
 have hx:toks[t]?=some (toks.getD t ⟨0,[],[],false,0⟩):=by
  rw[List.getD_eq_getElem?_getD,List.getElem?_eq_getElem hw]; rfl
 unfold qhz;dsimp only;cases hq:docD (s.length+1) s last i with
 | none=>
  refine⟨fun e he=>?_,fun tk j he=>by(cases he)⟩;cases he;have hb:=(l1 hq).mono (V':=fun x=>x=b\/N<=x) fun x hx=>.inl hx;rw[<- hE]at hb;obtain⟨U,x,y1,y2⟩:=Bad.after g1 hb;exact⟨U,x,hF _ y1,y2⟩
 | some q=>
  obtain⟨k,j⟩:=q;obtain⟨U,u1,u2,u3,u4,u5⟩:=l2 k j hq;have hle:=qlu _ _ _ _ _ _ hq;have hend:=docend_run hK (d+9) (frm:=i) u3 u4 hx hs hle.1 hle.2.1 (by omega);rw[<- u5,<- hE]at hend;have gU:=g1.trans (u1.mono fun x _ hx=>(.inl hx:x=b\/N<=x));dsimp only;generalize toks.getD t ⟨0,[],[],false,0⟩=x at *;cases hqt:x.quoted with
  | true=>
   rw[hqt,iP rfl]at hend;rw[iP rfl];obtain⟨U2,y1,y2,y3⟩:=hend;refine⟨fun e he=>by(cases he),fun tk j' he=>?_⟩;cases he;exact⟨U2,hF _ y1,y2,gU.trans y3⟩
  | false=>
   rw[hqt,iN (by simp)]at hend;rw[iN (by simp)];cases hp:qar (qcl s) (s.take k) 2 0 i [] []with
   | error e=>
    rw[hp]at hend;refine⟨fun e' he=>?_,fun tk j' he=>by cases he⟩;cases he;obtain⟨U2,x2,y1,y2⟩:=Bad.after gU hend;exact⟨U2,x2,hF _ y1,y2⟩
   | ok q2=>
    obtain⟨l,j2⟩:=q2;rw[hp]at hend;obtain⟨U2,y1,y2,y3⟩:=hend;refine⟨fun e he=>by(cases he),fun tk j' he=>?_⟩;cases he;exact⟨U2,hF _ y1,y2,gU.trans y3⟩
theorem doc1D_len {s:Bs} {w:Nat×Bs} {i:Nat} {toks tk:List Tok} {j:Nat} (h:qhz s w i toks=.ok (tk,j)):tk.length=toks.length/\i<j/\j<=s.length:=by
 unfold qhz at h;split at h
 . cases h
 . rename_i k j' hk
   have:=qlu _ _ _ _ _ _ hk;dsimp only at h;split at h
   . cases h
     exact⟨List.length_set ..,by omega⟩
   . split at h
     . cases h
     . cases h
       exact⟨List.length_set ..,by omega⟩
theorem docsD_len:∀{s:Bs} {ws:List (Nat×Bs)} {i:Nat} {toks tk:List Tok} {j:Nat},qez s ws i toks=.ok (tk,j)->i<=s.length->tk.length=toks.length/\i<=j/\j<=s.length
 | s,[],i,toks,tk,j,h,hi=>by
  unfold qez at h;cases h;exact⟨rfl,lR _,hi⟩
 | s,w::ws,i,toks,tk,j,h,hi=>by
  rw[qf0]at h;split at h
  . cases h
  . rename_i t j' hq
    obtain⟨e1,e2,e3⟩:=doc1D_len hq;obtain⟨f1,f2,f3⟩:=docsD_len h e3;exact⟨f1.trans e1,by omega,f3⟩
end
def linD (s:Bs) (i:Nat) (toks:List Tok) (waits:List (Nat×Bs)):Rd:=
 if atD s i [10]then some (match qez s waits (i+1) (toks++[⟨2,[],[],false,i⟩])with
  | .error e=>.error e
  | .ok q=>.ok (q.2,q.1,[]))else none
theorem pairs_line (b n0:Nat) (l l':List LE) (h:b≠n0):qag [[],[],[],[],[⟨b,2,3,false⟩],[],[],[],[⟨b,1,2,false⟩],[],[⟨n0,0,big,true⟩],l,[],[],l'] [(4,[8,10])]=true:=by
 have h1:=qc1 b 2 3 b 1 2 false (.inl rfl);have h3:=qc1 b 2 3 n0 0 big true (.inr h);show(bif (bif qbi [⟨b,2,3,false⟩] [⟨b,1,2,false⟩]then true else bif qbi [⟨b,2,3,false⟩] [⟨n0,0,big,true⟩]then true else false)then false else true)=true;rw[h1,h3];rfl
def zW:Tr V:=Tr.ofListFrom .nil [(.int .i64 0),(sv [])] 0
theorem zW_eq:(Tr.ofListFrom .nil [(.int .i64 0),(sv [])] 0:Tr V)=zW:=rfl
section
variable {K:FuncId->Option KF} {S U T:St} {N b i:Nat} {s:Bs} {toks:List Tok} {waits:List (Nat×Bs)} {vT vW:V}
theorem st2k (v:V) (X:St) (k:V×St->Rs):((qa1 (.ptr b 0)).bind fun t=>(faP 2 false 1 t).bind fun u=>(stP 1 u v X).bind k)=(stP 1 (.ptr b 2) v X).bind k:=by
 rw[nilK,oB,show faP 2 false 1 (.ptr b 0)=some (.ptr b 2)from rfl,oB]
theorem st3k (v:V) (X:St) (k:V×St->Rs):((qa1 (.ptr b 0)).bind fun t=>(faP 3 false 1 t).bind fun u=>(stP 1 u v X).bind k)=(stP 1 (.ptr b 3) v X).bind k:=by
 rw[nilK,oB,show faP 3 false 1 (.ptr b 0)=some (.ptr b 3)from rfl,oB]
theorem line_loop (hK:RefL K) (d:Nat) (hs:s.length<=5000) (hd:18*s.length+600<=d) (nk:Ac->St->Rs) (ek:Nat->Ac->St->Rs) :
 ∀(ws:List (Nat×Bs)) (p q i':Nat) (toks':List Tok) (S':St),waits.drop p=ws->LS S' N b s i' toks' waits vT vW->(∀w∈waits,w.1<toks'.length)->i'<=s.length->ws.length<q->waits.length<100000->
 (∀e,qez s ws i' toks'=.error e->Bad (fun x=>x=b\/N<=x) S' (L19_41 (ev E0 K (d+10)) qa3 nk ek q (.ptr b 0) vW (.int .i64 (waits.length:Int)) (.int .i64 (p:Int)) S') e.1 e.2)/\
 (∀tk j,qez s ws i' toks'=.ok (tk,j)->∃U,L19_41 (ev E0 K (d+10)) qa3 nk ek q (.ptr b 0) vW (.int .i64 (waits.length:Int)) (.int .i64 (p:Int)) S'=ek 0 (fr 45 [(0,.ptr b 0)]) U/\LS U N b s j tk waits vT vW/\Grew (fun x=>x=b\/N<=x) S' U)
 | ws,p,0,i',toks',S',hp,h,hw,hi,hq,hl=>absurd hq (Nat.not_lt_zero _)
 | [],p,q+1,i',toks',S',hp,h,hw,hi,hq,hl=>by
  refine⟨fun e he=>by(unfold qez at he; cases he),fun tk j he=>?_⟩;unfold qez at he;cases he;refine⟨S',?_,h,Grew.refl _ _⟩;rw[L19_41_eq,qk5,oB,dF (by have:=qh6 hp; omega),ifK_bool,cF]
 | w::ws,p,q+1,i',toks',S',hp,h,hw,hi,hq,hl=>by
  obtain⟨hlt,hc,hr,hmem⟩:=qjg hp;rw[List.length_cons]at hq;generalize hR:L19_41 (ev E0 K (d+10)) qa3 nk ek (q+1) (.ptr b 0) vW (.int .i64 (waits.length:Int)) (.int .i64 (p:Int)) S'=R;rw[L19_41_eq,qk5,oB,dT hlt,ifK_bool,cT]at hR;have hE:=hR.symm;have hbN:=h.bN;have hhi:=h.hi;obtain⟨r,h1,h2,h3,h4⟩:=h.wt.at (i:=p) (by rw[lM]; exact hlt)
  have hg:(waits.map qmw)[p]?=some (qmw w):=by rw[List.getElem?_map,List.getElem?_eq_getElem hlt,hc]; rfl
  rw[h2,oB,rv_ldA h.on h3 hg,oB,oB,qbs,zW_eq]at hE;dsimp only at hE;obtain⟨n1,n2,n3⟩:=qbp h.on 89 2 zW;have on1:=n2.on.trans h.on;obtain⟨S2,m1,m2,m3,m4⟩:=n1.stA on1 (by unfold big; decide) (qmw w);have g2:Grew (fun _=>False) S' S2:=⟨by have:=n2.next; omega,m3.on.trans n2.on,fun x hx _=>(m3.keep x (by have:=n2.next; omega) (by omega)).trans (n2.keep x hx (fun h=>h))⟩
  have hS2:=h.fresh g2;rw[m1,oB]at hE;dsimp only at hE;rw[m2.ldA hS2.on (by unfold big; decide),oB]at hE;dsimp only at hE;obtain⟨d1,d2⟩:=doc_run hK d (w:=w) hS2 (hw w hmem) hs hi hd;have gG:Grew (fun x=>x=b\/N<=x) S' S2:=g2.mono fun x _ hx=>hx.elim;rw[qf0];cases hq1:qhz s w i' toks' with
  | error e=>
   refine⟨fun e' he=>?_,fun tk j he=>by(cases he)⟩;cases he;rw[hE];exact Bad.after gG ((d1 e hq1).callP _)
  | ok q1=>
   obtain⟨t1,j1⟩:=q1;obtain⟨U,y1,y2,y3⟩:=d2 t1 j1 hq1;obtain⟨e1,e2,e3⟩:=doc1D_len hq1;rw[y1,callP_ret,qff (by omega),oB]at hE;obtain⟨i1,i2⟩:=line_loop hK d hs hd nk ek ws (p+1) q j1 t1 U hr y2 (fun w hw'=>by rw[e1]; exact hw w hw') e3 (by omega) hl;rw[<- hE]at i1 i2;dsimp only;refine⟨fun e he=>Bad.after (gG.trans y3) (i1 e he),fun tk j he=>?_⟩;obtain⟨U2,z1,z2,z3⟩:=i2 tk j he;exact⟨U2,z1,z2,(gG.trans y3).trans z3⟩
theorem line_run (hK:RefL K) (d:Nat) (h:LS S N b s i toks waits vT vW) (hs:s.length<=5000) (hi:i<s.length) (hl2:toks.length<50000) (hwl:waits.length<100000) (hw:∀w∈waits,w.1<toks.length) (hd:18*s.length+600<=d):RdR (linD s i toks waits) S N b s i toks waits vT vW ((ev E0 K (d+11)).f 19 [.ptr b 0] S):=by
 have hF:∀r,F19 (ev E0 K (d+10)) qa3 (.ptr b 0) S=some r->(ev E0 K (d+11)).f 19 [.ptr b 0] S=some r:=fun r e=>rv19 hK e;generalize hR:F19 (ev E0 K (d+10)) qa3 (.ptr b 0) S=R at hF;rw[F19_eq,next_lg hK (d+7) h.on h.lx (by omega),callP_ret,qhi,oB,ifK_bool]at hR;have hE:=hR.symm;unfold linD;cases ha:atD s i [10]with
 | false=>
  rw[ha,nF,cT]at hE;rw[iN (by simp)];exact⟨S,hF _ hE,h,Grew.refl _ _⟩
 | true=>
  rw[ha,Bool.not_true,cF,h.lx.t2o h.on]at hE;dsimp only at hE;rw[h.lx.l1 h.on]at hE;dsimp only at hE;obtain⟨y,v',T1,T2,T3,c1,c2,c3,c4,c5,c8⟩:=h.push (tk_leaf 2 [] false i) hl2;obtain⟨l2,c2'⟩:=c2 [];obtain⟨l3,c3'⟩:=c3;rw[build_ln,oB,zT_eq,show(onS (S.lg [(⟨b,1,2,false⟩:LE)]))=S.lg []from rfl,c1,oB]at hE;dsimp only at hE;rw[show onS (T1.lg [(⟨S.next,0,big,true⟩:LE)])=T1.lg []from rfl,c2',oB]at hE;dsimp only at hE;rw[st2k,show onS (T2.lg l2)=T2.lg []from rfl,c3',oB]at hE;dsimp only at hE;have hne:b≠S.next:=by have:=h.hi; have:=h.bN; omega
  rw[qfm (show qag [[],[],[],[],(S.lg [⟨b,2,3,false⟩]).log,[],[],[],(S.lg [⟨b,1,2,false⟩]).log,[],(T1.lg [⟨S.next,0,big,true⟩]).log,(T2.lg l2).log,[],[],(T3.lg l3).log] [(4,[8,10])]=true from pairs_line b S.next l2 l3 hne)]at hE;obtain⟨T4,e1,e2,e3,e4⟩:=qdn h.on T3 l3 [[],[],[],[],(S.lg [⟨b,2,3,false⟩]).log,[],[],[],(S.lg [⟨b,1,2,false⟩]).log,[],(T1.lg [⟨S.next,0,big,true⟩]).log,(T2.lg l2).log,[],[],(T3.lg l3).log];rw[e1]at hE;have c6:=c4.same e2 e3 e4;have g4:Grew (fun x=>x=b\/N<=x) S T4:=⟨by rw[e3]; exact c5.next,e4.trans h.on.symm,fun x hx hw=>by rw[e2]; exact c5.keep x hx hw⟩
  obtain⟨T5,k1,k2,k3,k4,k5⟩:=c6.lx.bump c6.on 1 (by omega);have hbN:=h.bN;have c7:=c6.move k3 (fun x hx=>.inl (by omega)) k2;rw[show V.int .i64 1=.int .i64 ((1:Nat):Int)from rfl,k1]at hE;dsimp only at hE;rw[c7.lx.w3r c7.on]at hE;dsimp only at hE;rw[c7.wt.len,oB,lM]at hE;dsimp only at hE;have g5:=g4.trans (k3.mono fun x _ hx=>(.inl hx:x=b\/N<=x));obtain⟨i1,i2⟩:=line_loop hK d hs hd (R19_29 (ev E0 K (d+10)) qa3 (qbu E0 (ev E0 K (d+10)) Tryd.f19) qav) (exB 0 (R19_29 (ev E0 K (d+10)) qa3 (qbu E0 (ev E0 K (d+10)) Tryd.f19) qav) qav) waits 0 qa3 (i+1) (toks++[⟨2,[],[],false,i⟩]) T5 rfl c7 (fun w hw'=>by rw[lAq]; have:=hw w hw'; omega) (by omega) (by unfold qa3; omega) hwl;rw[show((0:Nat):Int)=0 from rfl,<- hE]at i1 i2;rw[iP rfl];cases hq:qez s waits (i+1) (toks++[⟨2,[],[],false,i⟩])with
  | error e=>
   obtain⟨U,x,y1,y2⟩:=Bad.after g5 (i1 e hq);exact⟨U,x,hF _ y1,y2⟩
  | ok q=>
   obtain⟨tk,j⟩:=q;obtain⟨U,y1,y2,y3⟩:=i2 tk j hq;obtain⟨U2,z1,z2,z3,z4⟩:=y2.lx.putW y2.on .nilslice ⟨rfl,rfl,rfl⟩;rw[exB_same,R19_29_eq,nilK,oB,show faP 3 false 1 (.ptr b 0)=some (.ptr b 3)from rfl,oB,z1,oB]at y1;obtain⟨rT,r1,r2⟩:=y2.tk;have hh2:=y2.hi;refine⟨U2,v',.nilslice,hF _ y1,⟨z3.on.trans y2.on,hbN,by omega,z2,⟨rT,r1.grew (fun r hr hx=>by have:=(y2.tb r hr).1; omega) z3,(r2.grew z3 fun x hx he=>by omega).mono fun x hx=>⟨hx.1,by omega,hx.2.2.1,fun hv=>by cases hv⟩⟩,.inl ⟨rfl,rfl⟩,fun r hr=>⟨(y2.tb r hr).1,fun hv=>by cases hv⟩,fun r hr=>by cases hr⟩,(g5.trans y3).trans (z3.mono fun x _ hx=>.inl hx)⟩
end
end Go.Proofs.YtafbipadnnmccaaDoor.W
end
