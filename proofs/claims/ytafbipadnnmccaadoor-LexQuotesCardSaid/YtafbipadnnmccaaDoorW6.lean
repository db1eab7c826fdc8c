/-
  WHAT THE FUNCTIONS COME TO: each is read by the evaluator,printed,and told as a function of data,part 6 of 13 (no condition).
-/
import Derived.Test.YtafbipadnnmccaaDoorW5
noncomputable section
namespace Go.Proofs.YtafbipadnnmccaaDoor.W
open Go.Proofs.YtafbipadnnmccaaDoor.Ev Go.RowKit
def PsR (U:St) (N:Nat) (v:V) (l:List Part):Prop:=∃rows,RV U v 49 6 rows/\PrAt U (fun x=>N<=x/\x<U.next) l rows/\∀r,qah v=some r->N<=r
abbrev PartsR (o:Except Flt (List Part×Nat)) (S:St) (b:Nat) (s:Bs) (vT vW:V) (r:Rs):Prop:=match o with
 | .ok q=>∃U v,r=some (.ret v,U)/\Lx U b s q.2 vT vW/\Grew (fun x=>x=b) S U/\PsR U S.next v q.1
 | .error e=>Bad (fun x=>x=b) S r e.1 e.2
def qgb (K:FuncId->Option KF) (n:Nat):Prop:=∀(d:Nat) (S:St) (b i:Nat) (s:Bs) (vT vW:V) (w deep:Nat),S.on=false->b<S.next->Lx S b s i vT vW->s.length<=5000->i<=s.length->deep<=20->4*n+2*s.length+61<=d->2*(s.length-i)+1<=n->n<100000->
 PartsR (qar n s w deep i [] []) S b s vT vW ((ev E0 K d).f 49 [.ptr b 0,.int .i64 (w:Int),.int .i64 (deep:Int)] S)
abbrev BrR (o:Except Flt (Part×Nat)) (S:St) (N b:Nat) (s:Bs) (vT vW:V) (r:Rs):Prop:=match o with
 | .ok q=>∃U T,r=some (.ret (.agg 6 T),U)/\Lx U b s q.2 vT vW/\Grew (fun x=>x=b\/N<=x) S U/\PtAt U (fun x=>N<=x/\x<U.next) q.1 T
 | .error e=>Bad (fun x=>x=b\/N<=x) S r e.1 e.2
def brT (n:Nat) (s:Bs) (w deep i k:Nat) (t o:Bs):Except Flt (Part×Nat):=match qar n s (if inD w then 4 else 3) (deep+1) k [] []with
 | .error e=>.error e
 | .ok (l,j)=>if atD s j [125]then .ok (.mk 2 t o (inD w) l,j+1)else .error (19,i)
def brS (n:Nat) (s:Bs) (w deep i:Nat):Except Flt (Part×Nat):=
 let m:=qcv (s.drop (i+2)) [63,35,64,42]
 let t:=(s.drop (i+2)).take m
 let k:=i+2+m
 if m=0 then .error (19,i)
 else if atD s k [125]then .ok (.mk 2 t [] (inD w) [],k+1)
 else match opsT.find? fun o=>atD s k o with
  | none=>.error (19,i)
  | some o=>brT n s w deep i (k+o.length) t o
def brD (n:Nat) (s:Bs) (w deep i:Nat):Except Flt (Part×Nat):=
 if 20<=deep then .error (3,i)
 else
  if atD s (i+2) [35]&&qcv (s.drop (i+3)) [63,64,42] != 0&&atD s (i+3+qcv (s.drop (i+3)) [63,64,42]) [125]then
   .ok (.mk 2 ((s.drop (i+3)).take (qcv (s.drop (i+3)) [63,64,42])) [108,101,110] (inD w) [],i+3+qcv (s.drop (i+3)) [63,64,42]+1)
  else brS n s w deep i
theorem dolD_br (n:Nat) (s:Bs) (w deep i:Nat) (h1:atD s i [36,40,40]=false) (h2:atD s i [36,40]=false) (h3:atD s i [36,123]=true):dolD (n+1) s w deep i=match brD n s w deep i with
 | .error e=>.error e
 | .ok q=>.ok (some q):=by
 rw[dolD,h1,h2,h3];simp only[Bool.false_eq_true,↓reduceIte];unfold brD brS brT;dsimp only;by_cases a1:20<=deep
 . rw[iP a1,iP a1]
 . rw[iN a1,iN a1]
   by_cases a2:(atD s (i+2) [35]&&qcv (s.drop (i+3)) [63,64,42] != 0&&atD s (i+3+qcv (s.drop (i+3)) [63,64,42]) [125])=true
   . rw[iP a2,iP a2]
   . rw[iN a2,iN a2]
     by_cases a3:qcv (s.drop (i+2)) [63,35,64,42]=0
     . rw[iP a3,iP a3]
     . rw[iN a3,iN a3]
       by_cases a4:atD s (i+2+qcv (s.drop (i+2)) [63,35,64,42]) [125]=true
       . rw[iP a4,iP a4]
       . rw[iN a4,iN a4]
         cases opsT.find? fun o=>atD s (i+2+qcv (s.drop (i+2)) [63,35,64,42]) o with
         | none=>rfl
         | some o=>
          dsimp only;cases qar n s (if inD w=true then 4 else 3) (deep+1) (i+2+qcv (s.drop (i+2)) [63,35,64,42]+o.length) [] []with
          | error e=>rfl
          | ok q=>
           obtain⟨l,j⟩:=q;dsimp only;split<;>rfl
theorem set_text (k:Nat) (t t' o:Bs) (q:Bool) (v:V):(qdo k t o q v).set (sv t') 1=qdo k t' o q v:=by kernel_rfl
theorem set_op (k:Nat) (t o o':Bs) (q:Bool) (v:V):(qdo k t o q v).set (sv o') 2=qdo k t o' q v:=by kernel_rfl
theorem set_word (k:Nat) (t o:Bs) (q:Bool) (v v':V):(qdo k t o q v).set v' 4=qdo k t o q v':=by kernel_rfl
theorem get_text (k:Nat) (t o:Bs) (q:Bool) (v:V):(qdo k t o q v).get 1=some (sv t):=by kernel_rfl
theorem fap2 (b:Nat):faP 2 false 1 (.ptr b 0)=some (.ptr b 2):=rfl
theorem fap4 (b:Nat):faP 4 false 1 (.ptr b 0)=some (.ptr b 4):=rfl
theorem build_prm (q:Bool):qab E0 49 [(0,(.int .i64 2)),(3,.bool q)]=some (.agg 6 (qdo 2 [] [] q .nilslice)):=by kernel_rfl
def BrTail (self:EV) (x0 x1 x2 x3 p0 p8 ov:V) (S:St):Rs:=
(faP 2 false 1 p8).bind fun t217=>
(stP 1 t217 ov S).bind fun p218=>
callP (self.f 68 [x2] p218.2) fun t221 S221=>
ifK t221 (
(qa5 E0 .add 3 false true x3 (.int .i64 1)).bind fun t226=>
callP (self.f 49 [x0,(.int .i64 4),t226] S221) fun t227 S227=>
(faP 4 false 1 p8).bind fun t228=>
(stP 1 t228 t227 S227).bind fun p229=>
callP (self.f 23 [x0,(sv [125])] p229.2) fun t231 S231=>
(unV .not t231).bind fun t232=>
ifK t232 (
callP (self.f 25 [(.int .i64 19),x1] S231) fun t234 S234=>
(ldA 6 p8 S234).bind fun p235=>
(stP 6 p0 p235.1 p235.2).bind fun p236=>
(ldrA 6 p0 p236.2).bind fun p237=>
some (.ret p237.1,p237.2)) (
(ldA 6 p8 S231).bind fun p238=>
(stP 6 p0 p238.1 p238.2).bind fun p239=>
(ldrA 6 p0 p239.2).bind fun p240=>
some (.ret p240.1,p240.2))) (
(qa5 E0 .add 3 false true x3 (.int .i64 1)).bind fun t244=>
callP (self.f 49 [x0,(.int .i64 3),t244] S221) fun t245 S245=>
(faP 4 false 1 p8).bind fun t246=>
(stP 1 t246 t245 S245).bind fun p247=>
callP (self.f 23 [x0,(sv [125])] p247.2) fun t249 S249=>
(unV .not t249).bind fun t250=>
ifK t250 (
callP (self.f 25 [(.int .i64 19),x1] S249) fun t252 S252=>
(ldA 6 p8 S252).bind fun p253=>
(stP 6 p0 p253.1 p253.2).bind fun p254=>
(ldrA 6 p0 p254.2).bind fun p255=>
some (.ret p255.1,p255.2)) (
(ldA 6 p8 S249).bind fun p256=>
(stP 6 p0 p256.1 p256.2).bind fun p257=>
(ldrA 6 p0 p257.2).bind fun p258=>
some (.ret p258.1,p258.2)))
def BrRest (self:EV) (x0 x1 x2 x3 p0 p8:V) (S:St):Rs:=
callP (self.f 90 [x0,(sv [63,35,64,42])] S) fun t39 S39=>
(faP 1 false 1 p8).bind fun t40=>
(stP 1 t40 t39 S39).bind fun p41=>
(faP 1 false 1 p8).bind fun t42=>
(ld1 t42 p41.2).bind fun p43=>
(qa5 E0 .eql 9 false true p43.1 (sv [])).bind fun t44=>
ifK t44 (
callP (self.f 25 [(.int .i64 19),x1] p43.2) fun t46 S46=>
callP (self.f 23 [x0,(sv [125])] S46) fun t48 S48=>
ifK t48 (
(ldA 6 p8 S48).bind fun p49=>
(stP 6 p0 p49.1 p49.2).bind fun p50=>
(ldrA 6 p0 p50.2).bind fun p51=>
some (.ret p51.1,p51.2)) (
callP (self.f 99 [] S48) fun t52 S52=>
callP (self.f 67 [t52,(.fn (.func 23) [x0] [])] S52) fun t55 S55=>
(qa5 E0 .lss 3 false true t55 (.int .i64 0)).bind fun t58=>
ifK t58 (
callP (self.f 25 [(.int .i64 19),x1] S55) fun t60 S60=>
callP (self.f 99 [] S60) fun t61 S61=>
(ixP 1 t61 t55).bind fun t63=>
(ld1 t63 S61).bind fun p64=>
BrTail self x0 x1 x2 x3 p0 p8 p64.1 p64.2) (
callP (self.f 99 [] S55) fun t107 S107=>
(ixP 1 t107 t55).bind fun t109=>
(ld1 t109 S107).bind fun p110=>
BrTail self x0 x1 x2 x3 p0 p8 p110.1 p110.2))) (
callP (self.f 23 [x0,(sv [125])] p43.2) fun t154 S154=>
ifK t154 (
(ldA 6 p8 S154).bind fun p155=>
(stP 6 p0 p155.1 p155.2).bind fun p156=>
(ldrA 6 p0 p156.2).bind fun p157=>
some (.ret p157.1,p157.2)) (
callP (self.f 99 [] S154) fun t158 S158=>
callP (self.f 67 [t158,(.fn (.func 23) [x0] [])] S158) fun t161 S161=>
(qa5 E0 .lss 3 false true t161 (.int .i64 0)).bind fun t164=>
ifK t164 (
callP (self.f 25 [(.int .i64 19),x1] S161) fun t166 S166=>
callP (self.f 99 [] S166) fun t167 S167=>
(ixP 1 t167 t161).bind fun t169=>
(ld1 t169 S167).bind fun p170=>
BrTail self x0 x1 x2 x3 p0 p8 p170.1 p170.2) (
callP (self.f 99 [] S161) fun t213 S213=>
(ixP 1 t213 t161).bind fun t215=>
(ld1 t215 S213).bind fun p216=>
BrTail self x0 x1 x2 x3 p0 p8 p216.1 p216.2)))
def BrAll (self:EV) (x0 x1 x2 x3 p0:V) (S:St):Rs:=
callP (self.f 68 [x2] S) fun t481 S481=>
(qab E0 49 [(0,(.int .i64 2)),(3,t481)]).bind fun t482=>
(some (nwP 49 6 (Tr.ofListFrom .nil [(.int .i64 0),(sv []),(sv []),(.bool false),.nilslice,.nilptr] 0) S481)).bind fun p483=>
(stP 6 p483.1 t482 p483.2).bind fun p484=>
(qa1 x0).bind fun t486=>
(faP 1 false 1 t486).bind fun t487=>
(ld1 t487 p484.2).bind fun p488=>
callP (self.f 23 [x0,(sv [35])] p488.2) fun t491 S491=>
ifK t491 (
callP (self.f 90 [x0,(sv [63,64,42])] S491) fun t493 S493=>
(faP 1 false 1 p483.1).bind fun t494=>
(stP 1 t494 t493 S493).bind fun p495=>
(faP 1 false 1 p483.1).bind fun t496=>
(ld1 t496 p495.2).bind fun p497=>
(qa5 E0 .neq 9 false true p497.1 (sv [])).bind fun t498=>
(qa2 true t498).bind fun g500=>(bif g500 then some x0 else some (.tuple [])).bind fun t500=>
(qa2 true t498).bind fun g501=>callP (bif g501 then self.f 23 [t500,(sv [125])] p497.2 else some (.ret (.tuple []),p497.2)) fun t501 S501=>
(qao t498 (some t501) (some (.bool false))).bind fun t502=>
ifK t502 (
(faP 2 false 1 p483.1).bind fun t503=>
(stP 1 t503 (sv [108,101,110]) S501).bind fun p504=>
(ldA 6 p483.1 p504.2).bind fun p505=>
(stP 6 p0 p505.1 p505.2).bind fun p506=>
(ldrA 6 p0 p506.2).bind fun p507=>
some (.ret p507.1,p507.2)) (
(qa1 x0).bind fun t510=>
(faP 1 false 1 t510).bind fun t511=>
(stP 1 t511 p488.1 S501).bind fun p512=>
BrRest self x0 x1 x2 x3 p0 p483.1 p512.2)) (
BrRest self x0 x1 x2 x3 p0 p483.1 S491)
theorem F89_step (self:EV) (N:Nat) (x0 x1 x2 x3:V) (S:St):F89 self N x0 x1 x2 x3 S =
(some (nwP 49 6 (Tr.ofListFrom .nil [(.int .i64 0),(sv []),(sv []),(.bool false),.nilslice,.nilptr] 0) S)).bind fun p0=>
(qa5 E0 .geq 3 false true x3 (.int .i64 20)).bind fun t2=>
ifK t2 (callP (self.f 25 [(.int .i64 3),x1] p0.2) fun _ S4=>BrAll self x0 x1 x2 x3 p0.1 S4) (BrAll self x0 x1 x2 x3 p0.1 p0.2):=by kernel_rfl
section
variable {K:FuncId->Option KF} {S U T:St} {b i k N:Nat} {s:Bs} {vT vW:V} {X:Tr V} {n:Nat}
theorem PsR.grew {W:Nat->Prop} {v:V} {l:List Part} (h:PsR S N v l) (g:Grew W S U) (hW:∀x,W x->x<N):PsR U N v l:=by
 obtain⟨rows,h1,h2,h3⟩:=h;have nx:=g.next
 exact⟨rows,h1.grew (fun r hr hw=>by have:=hW _ hw; have:=h3 r hr; omega) g,(h2.grew g fun x hx hw=>by have:=hW _ hw; omega).mono fun x hx=>⟨hx.1,by omega⟩,h3⟩
theorem PsR.pt {v:V} {l:List Part} (h:PsR S N v l) (kd:Nat) (t o:Bs) (q:Bool) {M:Nat} (hM:M<=N) (hl:∀r,qah v=some r->r<S.next):PtAt S (fun x=>M<=x/\x<S.next) (.mk kd t o q l) (qdo kd t o q v):=by
 obtain⟨rows,h1,h2,h3⟩:=h;simp only[PtAt];exact⟨v,rows,rfl,h1,h2.mono fun x hx=>⟨by omega,hx.2⟩,fun r hr=>⟨by have:=h3 r hr; omega,hl r hr⟩⟩
theorem PsR.lt {v:V} {l:List Part} (h:PsR S N v l):∀r,qah v=some r->r<S.next:=by
 obtain⟨rows,h1,_⟩:=h;exact fun r hr=>h1.blk_lt hr
theorem PsR.one {v:V} {l:List Part} (h:PsR S N v l):v.size=1/\v.cells=Ev.one v/\qaa v=false:=by
 obtain⟨rows,h1,_⟩:=h;exact qka h1
theorem BrR.after {o:Except Flt (Part×Nat)} {r:Rs} (g:Grew (fun x=>x=b\/N<=x) S T) (h:BrR o T N b s vT vW r):BrR o S N b s vT vW r:=by
 cases o with
 | ok q=>
  obtain⟨U,X,h1,h2,h3,h4⟩:=h;exact⟨U,X,h1,h2,g.trans h3,h4⟩
 | error e=>exact Bad.after g h
structure BX (S:St) (N b:Nat) (s:Bs) (i:Nat) (vT vW:V) (X:Tr V):Prop where
 on:S.on=false
 lx:Lx S b s i vT vW
 bN:b<N
 hi:N+2<=S.next
 p0:∃Y,AgAt S N 49 6 Y
 p8:AgAt S (N+1) 49 6 X
theorem BX.move {W:Nat->Prop} (h:BX S N b s i vT vW X) (g:Grew W S U) (hW:∀x,W x->x<N\/S.next<=x) (l:Lx U b s k vT vW):BX U N b s k vT vW X:=by
 have hhi:=h.hi;have nx:=g.next
 obtain⟨Y,hY⟩:=h.p0;exact⟨g.on.trans h.on,l,h.bN,by omega,⟨Y,hY.grew (by omega) (fun hw=>by have:=hW _ hw; omega) g⟩,h.p8.grew (by omega) (fun hw=>by have:=hW _ hw; omega) g⟩
theorem BX.put (h:BX S N b s i vT vW X) (j:Nat) (hj:j<6) (v:V) (hs:v.size=1/\v.cells=Ev.one v/\qaa v=false):∃U,stP 1 (.ptr (N+1) j) v S=some (.tuple [],U)/\BX U N b s i vT vW (X.set v j)/\Grew (fun x=>x=N+1) S U/\U.next=S.next:=by
 obtain⟨U,k1,k2,k3,k4⟩:=h.p8.st1 h.on qjb (by decide) hj v hs.1 hs.2.1 hs.2.2;have hhi:=h.hi;have hb:=h.bN;obtain⟨Y,hY⟩:=h.p0;exact⟨U,k1,⟨k3.on.trans h.on,h.lx.grew (by omega) (by omega) k3,h.bN,by omega,⟨Y,hY.grew (by omega) (by omega) k3⟩,k2⟩,k3,k4⟩
theorem BX.fin (h:BX S N b s i vT vW X):∃U,((ldA 6 (.ptr (N+1) 0) S).bind fun p=>(stP 6 (.ptr N 0) p.1 p.2).bind fun q=>(ldrA 6 (.ptr N 0) q.2).bind fun r=>some (En.ret r.1,r.2))=some (.ret (.agg 6 X),U)/\Lx U b s i vT vW/\Grew (fun x=>x=N) S U/\U.next=S.next:=by
 obtain⟨Y,hY⟩:=h.p0;have hhi:=h.hi;have hb:=h.bN;obtain⟨U,k1,k2,k3,k4⟩:=hY.stA h.on qjb X;refine⟨U,?_,h.lx.grew (by omega) (by omega) k3,k3,k4⟩;rw[h.p8.ldA h.on qjb,oB];dsimp only;rw[k1,oB];dsimp only;rw[k2.ldrA (k3.on.trans h.on) qjb,oB]
theorem qhi (q:Bool):unV .not (.bool q)=some (.bool (!q)):=rfl
theorem brtail_run (hK:RefL K) (hP:qgb K n) {w deep:Nat} {t o:Bs} (d:Nat) (h:BX S N b s k vT vW (qdo 2 t [] (inD w) .nilslice)) (hs:s.length<=5000) (hk:k<=s.length) (hdp:deep<20) (hd:4*n+2*s.length+61<=d) (hn:2*(s.length-k)+1<=n) (hn2:n<100000) (i:Nat) :
 BrR (brT n s w deep i k t o) S N b s vT vW (BrTail (ev E0 K d) (.ptr b 0) (.int .i64 (i:Int)) (.int .i64 (w:Int)) (.int .i64 (deep:Int)) (.ptr N 0) (.ptr (N+1) 0) (sv o) S):=by
 obtain⟨d',rfl⟩:∃d',d=d'+10:=⟨d-10,by omega⟩
 obtain⟨T1,a1,a2,a3,a4⟩:=h.put 2 (by decide) (sv o) ⟨rfl,rfl,rfl⟩;rw[set_op]at a2;have g1:Grew (fun x=>x=b\/N<=x) S T1:=a3.mono fun x _ hx=>.inr (by omega);have hhi:=a2.hi;have hbN:=a2.bN
 have key:∀w':Nat,BrR (match qar n s w' (deep+1) k [] []with
  | .error e=>.error e
  | .ok (l,j)=>if atD s j [125]then .ok (.mk 2 t o (inD w) l,j+1)else .error (19,i)) T1 N b s vT vW (
(qa5 E0 .add 3 false true (.int .i64 (deep:Int)) (.int .i64 1)).bind fun t226=>
callP ((ev E0 K (d'+10)).f 49 [.ptr b 0,(.int .i64 (w':Int)),t226] T1) fun t227 S227=>
(faP 4 false 1 (.ptr (N+1) 0)).bind fun t228=>
(stP 1 t228 t227 S227).bind fun p229=>
callP ((ev E0 K (d'+10)).f 23 [.ptr b 0,(sv [125])] p229.2) fun t231 S231=>
(unV .not t231).bind fun t232=>
ifK t232 (
callP ((ev E0 K (d'+10)).f 25 [(.int .i64 19),.int .i64 (i:Int)] S231) fun t234 S234=>
(ldA 6 (.ptr (N+1) 0) S234).bind fun p235=>
(stP 6 (.ptr N 0) p235.1 p235.2).bind fun p236=>
(ldrA 6 (.ptr N 0) p236.2).bind fun p237=>
some (.ret p237.1,p237.2)) (
(ldA 6 (.ptr (N+1) 0) S231).bind fun p238=>
(stP 6 (.ptr N 0) p238.1 p238.2).bind fun p239=>
(ldrA 6 (.ptr N 0) p239.2).bind fun p240=>
some (.ret p240.1,p240.2))):=fun w'=>by
  have hp:=hP (d'+10) T1 b k s vT vW w' (deep+1) a2.on (by omega) a2.lx hs hk (by omega) hd hn hn2;rw[qff (by omega),oB];cases hq:qar n s w' (deep+1) k [] []with
  | error e=>
   rw[hq]at hp;dsimp only;exact(hp.mono fun x hx=>.inl hx).callP _
  | ok q=>
   obtain⟨l,j⟩:=q;rw[hq]at hp;obtain⟨U,v,b1,b2,b3,b4⟩:=hp;dsimp only at b2 b4;obtain⟨_,hj,_⟩:=(qet n).1 _ _ _ _ _ _ _ _ hq hk;have nxU:=b3.next
   have p2:=a2.move (k:=j) b3 (fun x hx=>.inl (by omega)) b2;rw[b1,callP_ret,fap4,oB];obtain⟨T2,c1,c2,c3,c4⟩:=p2.put 4 (by decide) v b4.one;rw[set_word]at c2;rw[c1,oB];dsimp only;have b5:=b4.grew c3 (fun x hx=>by omega);have g2:Grew (fun x=>x=b\/N<=x) T1 T2:=(b3.mono fun x _ hx=>.inl hx).trans (c3.mono fun x _ hx=>.inr (by omega));cases ha:atD s j [125]with
   | false=>
    rw[qbc hK (d'+6) c2.on c2.lx hj (t:=[125]) ha,callP_ret,qhi,oB,ifK_bool,nF,cT,iN (by simp)];exact Bad.after g2 (bad0 ((qc4 hK (d'+9) c2.on 19 i).callP _))
   | true=>
    obtain⟨U3,e1,e2,e3,e4⟩:=qb3 hK (d'+6) c2.on c2.lx hj (t:=[125]) (by have:=qbg ha (by simp); omega) ha;rw[e1,callP_ret,qhi,oB,ifK_bool,Bool.not_true,cF,iP rfl];have p3:=c2.move (k:=j+1) e3 (fun x hx=>.inl (by omega)) e2;obtain⟨U4,f1,f2,f3,f4⟩:=p3.fin;have b6:=(b5.grew e3 (fun x hx=>by omega)).grew f3 (fun x hx=>by omega);rw[f1];exact⟨U4,_,rfl,f2,(g2.trans (e3.mono fun x _ hx=>.inl hx)).trans (f3.mono fun x _ hx=>.inr (by omega)),b6.pt 2 t o (inD w) (by omega) b6.lt⟩
 unfold BrTail;rw[fap2,oB,a1,oB];dsimp only;rw[qfb hK,callP_ret,ifK_bool];refine BrR.after g1 ?_;unfold brT;cases hin:inD w with
 | true=>
  have:=key 4;rw[hin]at this;rw[cT,iP rfl];exact this
 | false=>
  have:=key 3;rw[hin]at this;rw[cF,iN (by simp)];exact this
theorem brrest_run (hK:RefL K) (hP:qgb K n) {w deep:Nat} {o:Bs} (d:Nat) {i:Nat} {t0:Bs} (h:BX S N b s (i+2) vT vW (qdo 2 t0 [] (inD w) .nilslice)) (hs:s.length<=5000) (hi:i+2<=s.length) (hdp:deep<20) (hd:4*n+2*s.length+61<=d) (hn:2*(s.length-i)<=n+1) (hn2:n<100000) :
 BrR (brS n s w deep i) S N b s vT vW (BrRest (ev E0 K d) (.ptr b 0) (.int .i64 (i:Int)) (.int .i64 (w:Int)) (.int .i64 (deep:Int)) (.ptr N 0) (.ptr (N+1) 0) S):=by
 obtain⟨d',rfl⟩:∃d',d=d'+10:=⟨d-10,by omega⟩
 obtain⟨T1,a1,a2,a3,a4,a5⟩:=qmr hK (d'+7) h.on h.lx hi (by omega) [63,35,64,42];have hbN:=h.bN;have hhi:=h.hi;have p1:=h.move (k:=i+2+qcv (s.drop (i+2)) [63,35,64,42]) a3 (fun x hx=>.inl (by omega)) a2;have g1:Grew (fun x=>x=b\/N<=x) S T1:=a3.mono fun x _ hx=>.inl hx
 have hkle:i+2+qcv (s.drop (i+2)) [63,35,64,42]<=s.length:=by
  have:=qmq (s.drop (i+2)) [63,35,64,42];rw[List.length_drop]at this;omega
 unfold BrRest brS;dsimp only;generalize hm:qcv (s.drop (i+2)) [63,35,64,42]=m at *
 have hmt:((s.drop (i+2)).take m==[])=decide (m=0):=by
  rw[Bool.eq_iff_iff,beq_iff_eq,decide_eq_true_iff,<- List.length_eq_zero_iff,List.length_take,List.length_drop];omega
 generalize ht:(s.drop (i+2)).take m=t at *;obtain⟨T2,b1,b2,b3,b4⟩:=p1.put 1 (by decide) (sv t) ⟨rfl,rfl,rfl⟩;rw[set_text]at b2;have g2:=g1.trans (b3.mono fun x _ hx=>(.inr (by omega):x=b\/N<=x));rw[a1,callP_ret,fap1,oB,b1,oB];dsimp only;rw[oB,b2.p8.ld1 b2.on qjb (by decide) (get_text ..),oB];dsimp only;rw[eqStr,hmt,oB,ifK_bool];by_cases h0:m=0
 . rw[dT h0,cT,iP h0]
   exact Bad.after g2 (bad0 ((qc4 hK (d'+9) b2.on 19 i).callP _))
 . rw[dF h0,cF,iN h0]
   have hh2:=b2.hi;cases ha:atD s (i+2+m) [125]with
   | true=>
    obtain⟨U3,e1,e2,e3,e4⟩:=qb3 hK (d'+6) b2.on b2.lx hkle (t:=[125]) (by have:=qbg ha (by simp); omega) ha;rw[e1,callP_ret,ifK_bool,cT,iP rfl];have p3:=b2.move (k:=i+2+m+1) e3 (fun x hx=>.inl (by omega)) e2;obtain⟨U4,f1,f2,f3,f4⟩:=p3.fin;rw[f1];exact⟨U4,_,rfl,f2,(g2.trans (e3.mono fun x _ hx=>.inl hx)).trans (f3.mono fun x _ hx=>.inr (by omega)),qdm ..⟩
   | false=>
    rw[qbc hK (d'+6) b2.on b2.lx hkle (t:=[125]) ha,callP_ret,ifK_bool,cF,iN (by simp)];obtain⟨T3,c1,c2,c3,c4⟩:=ops_run hK (d'+9) b2.on;have p3:=b2.move (k:=i+2+m) c3 (fun x hx=>hx.elim) (b2.lx.grew (by omega) (fun h=>h) c3);have g3:Grew (fun x=>x=b\/N<=x) S T3:=g2.trans (c3.mono fun x _ hx=>hx.elim);rw[c1,callP_ret];have hf:=f67_run hK (d'+5) p3.on p3.lx (by omega) hkle c2 (by decide);have hh3:=p3.hi;cases hfd:opsT.find? (fun o=>atD s (i+2+m) o)with
    | none=>
     rw[hfd]at hf;have hf:_=_:=hf;rw[hf,callP_ret,lt0,oB,ifK_bool,show decide ((-1:Int)<0)=true from rfl,cT];exact Bad.after g3 (bad0 ((qc4 hK (d'+9) p3.on 19 i).callP _))
    | some o=>
     rw[hfd]at hf;obtain⟨j,U3,e0,e1,e2,e3,e4,e5⟩:=hf;have hfa:=find_at hfd;rw[e1,callP_ret,lt0,oB,ifK_bool,show decide (((j:Nat):Int)<0)=false by simp,cF];have p4:=p3.move (k:=i+2+m+o.length) e3 (fun x hx=>.inl (by omega)) e2;obtain⟨T4,x1,x2,x3,x4⟩:=ops_run hK (d'+9) p4.on;have hh4:=p4.hi;have p5:=p4.move (k:=i+2+m+o.length) x3 (fun x hx=>hx.elim) (p4.lx.grew (by omega) (fun h=>h) x3);obtain⟨p,y1,y2⟩:=x2.ld p5.on (i:=j) (a:=o) e0;rw[x1,callP_ret,y1,oB,y2,oB];dsimp only;exact BrR.after ((g3.trans (e3.mono fun x _ hx=>.inl hx)).trans (x3.mono fun x _ hx=>hx.elim)) (brtail_run hK hP (d'+10) p5 hs hfa.2.1 hdp hd (by omega) hn2 i)
theorem geq20 (a:Nat):qa5 E0 .geq 3 false true (.int .i64 (a:Int)) (.int .i64 20)=some (.bool (decide (20<=a))):=by
 rw[binV_ii,intsV_geq]
 congr 2
 simp;omega
theorem braces_run (hK:RefL K) (hP:qgb K n) (d:Nat) {w deep i:Nat} (ho:S.on=false) (hb:b<S.next) (h:Lx S b s (i+2) vT vW) (hs:s.length<=5000) (hi:i+2<=s.length) (hdp:deep<=20) (hd:4*n+2*s.length+61<=d) (hn:2*(s.length-i)<=n+1) (hn2:n<100000) :
 BrR (brD n s w deep i) S S.next b s vT vW ((ev E0 K (d+1)).f 89 [.ptr b 0,.int .i64 (i:Int),.int .i64 (w:Int),.int .i64 (deep:Int)] S):=by
 obtain⟨d',rfl⟩:∃d',d=d'+10:=⟨d-10,by omega⟩
 have hF:∀r,F89 (ev E0 K (d'+10)) qa3 (.ptr b 0) (.int .i64 (i:Int)) (.int .i64 (w:Int)) (.int .i64 (deep:Int)) S=some r->(ev E0 K (d'+10+1)).f 89 [.ptr b 0,.int .i64 (i:Int),.int .i64 (w:Int),.int .i64 (deep:Int)] S=some r:=fun r e=>rv89 hK e
 suffices hb2:BrR (brD n s w deep i) S S.next b s vT vW (F89 (ev E0 K (d'+10)) qa3 (.ptr b 0) (.int .i64 (i:Int)) (.int .i64 (w:Int)) (.int .i64 (deep:Int)) S) by
  cases hq:brD n s w deep i with
  | ok q=>
   rw[hq]at hb2;obtain⟨U,X,h1,h2⟩:=hb2;exact⟨U,X,hF _ h1,h2⟩
  | error e=>
   rw[hq]at hb2;obtain⟨U,x,h1,h2⟩:=hb2;exact⟨U,x,hF _ h1,h2⟩
 obtain⟨n1,n2,n3⟩:=qbp ho 49 6 zP;have on1:=n2.on.trans ho;have l1:=h.grew hb (fun h=>h) n2;rw[F89_step,oB,qbs,geq20,oB,ifK_bool,show(Tr.ofListFrom .nil [(.int .i64 0),(sv []),(sv []),(.bool false),.nilslice,.nilptr] 0:Tr V)=zP from rfl];have g1:Grew (fun x=>x=b\/S.next<=x) S (nwP 49 6 zP S).2:=n2.mono fun x _ hx=>hx.elim;unfold brD;by_cases h20:20<=deep
 . rw[dT h20,cT,iP h20]
   exact Bad.after g1 (bad0 ((qc4 hK (d'+9) on1 3 i).callP _))
 . rw[dF h20,cF,iN h20]
   unfold BrAll;rw[show(Tr.ofListFrom .nil [(.int .i64 0),(sv []),(sv []),(.bool false),.nilslice,.nilptr] 0:Tr V)=zP from rfl,qfb hK,callP_ret,build_prm,oB,oB,qbs];obtain⟨m1,m2,m3⟩:=qbp on1 49 6 zP;have on2:=m2.on.trans on1;obtain⟨T3,s1,s2,s3,s4⟩:=m1.stA on2 qjb (qdo 2 [] [] (inD w) .nilslice);rw[n3]at s1 s2 s3;rw[n3]at m3;have nm:=m2.next
   have ns:=s3.next
   have on3:=s3.on.trans on2;have gs:Grew (fun x=>x=S.next+1) (nwP 49 6 zP S).2 T3:=(m2.mono fun x _ hx=>hx.elim).trans s3;have l3:Lx T3 b s (i+2) vT vW:=l1.grew (by omega) (by omega) gs;have X3:BX T3 S.next b s (i+2) vT vW (qdo 2 [] [] (inD w) .nilslice):=⟨on3,l3,hb,by omega,⟨zP,n1.grew (by omega) (by omega) gs⟩,s2⟩
   have g3:Grew (fun x=>x=b\/S.next<=x) S T3:=g1.trans (gs.mono fun x _ hx=>.inr (by omega));rw[n3,s1,oB];dsimp only;rw[l3.r1 on3];dsimp only;refine BrR.after g3 ?_;have rest:∀(T:St) (t0:Bs),BX T S.next b s (i+2) vT vW (qdo 2 t0 [] (inD w) .nilslice)->BrR (brS n s w deep i) T S.next b s vT vW (BrRest (ev E0 K (d'+10)) (.ptr b 0) (.int .i64 (i:Int)) (.int .i64 (w:Int)) (.int .i64 (deep:Int)) (.ptr S.next 0) (.ptr (S.next+1) 0) T):=fun T t0 hT=>brrest_run (o:=[]) hK hP (d'+10) hT hs hi (by omega) hd hn hn2
   cases ha:atD s (i+2) [35]with
   | false=>
    rw[qbc hK (d'+6) on3 l3 hi (t:=[35]) ha,callP_ret,ifK_bool,cF,iN (by simp)];exact rest T3 [] X3
   | true=>
    have h35:=qbg ha (by simp);simp only[List.length_singleton]at h35;obtain⟨U3,e1,e2,e3,e4⟩:=qb3 hK (d'+6) on3 l3 hi (t:=[35]) (by simp; omega) ha;have on4:=e3.on.trans on3;have X4:=X3.move (k:=i+3) e3 (fun x hx=>.inl (by omega)) e2;obtain⟨U4,f1,f2,f3,f4,f5⟩:=qmr hK (d'+7) on4 e2 (by simpa using h35) (by omega) [63,64,42];rw[e1,callP_ret,ifK_bool,cT,f1,callP_ret];simp only[List.length_singleton,Nat.reduceAdd]at f2
    have hple:i+3+qcv (s.drop (i+3)) [63,64,42]<=s.length:=by
     have:=qmq (s.drop (i+3)) [63,64,42];rw[List.length_drop]at this;omega
    have hbe:i+2+[35].length=i+3:=rfl;rw[Bool.true_and,show List.drop (i+2+[(35:UInt8)].length) s=s.drop (i+3)from rfl];have f2:Lx U4 b s (i+3+qcv (s.drop (i+3)) [63,64,42]) vT vW:=f2;have f3:Grew (fun x=>x=b) U3 U4:=f3;generalize hm:qcv (s.drop (i+3)) [63,64,42]=m at *
    have hmt:((s.drop (i+3)).take m==[])=decide (m=0):=by
     rw[Bool.eq_iff_iff,beq_iff_eq,decide_eq_true_iff,<- List.length_eq_zero_iff,List.length_take,List.length_drop];omega
    generalize ht:(s.drop (i+3)).take m=t at *;have hh4:=X4.hi;have X5:=X4.move (k:=i+3+m) f3 (fun x hx=>.inl (by omega)) f2;obtain⟨T6,b1,b2,b3,b4⟩:=X5.put 1 (by decide) (sv t) ⟨rfl,rfl,rfl⟩;rw[set_text]at b2;have g6:Grew (fun x=>x=b\/S.next<=x) T3 T6:=((e3.mono fun x _ hx=>.inl hx).trans (f3.mono fun x _ hx=>.inl hx)).trans (b3.mono fun x _ hx=>.inr (by omega));rw[fap1,oB,b1,oB];dsimp only;rw[oB,b2.p8.ld1 b2.on qjb (by decide) (get_text ..),oB];dsimp only;rw[neStr,hmt,oB]
    have back:∀T,Grew (fun x=>x=b\/S.next<=x) T3 T->BX T S.next b s (i+3+m) vT vW (qdo 2 t [] (inD w) .nilslice)->BrR (brS n s w deep i) T3 S.next b s vT vW ((qa1 (.ptr b 0)).bind fun t35=>(faP 1 false 1 t35).bind fun t36=>(stP 1 t36 (.int .i64 ((i+2:Nat):Int)) T).bind fun p37=>BrRest (ev E0 K (d'+10)) (.ptr b 0) (.int .i64 (i:Int)) (.int .i64 (w:Int)) (.int .i64 (deep:Int)) (.ptr S.next 0) (.ptr (S.next+1) 0) p37.2):=fun T gT hT=>by
     obtain⟨T7,z1,z2,z3,z4,z5⟩:=hT.lx.set hT.on (i+2);rw[z1];exact BrR.after (gT.trans (z3.mono fun x _ hx=>.inl hx)) (rest T7 t (hT.move (k:=i+2) z3 (fun x hx=>.inl (by omega)) z2))
    by_cases h0:m=0
    . rw[iN (by simp[h0]),dT h0]
      simp only[Bool.not_true,qae,oB,cF,callP_ret,pickV_bool,ifK_bool];exact back T6 g6 b2
    . rw[dF h0]
      simp only[nF,qae,oB,cT];cases hc:atD s (i+3+m) [125]with
      | false=>
       rw[qbc hK (d'+6) b2.on b2.lx hple (t:=[125]) hc,callP_ret,iN (by simp)];simp only[pickV_bool,cT,oB,ifK_bool,cF];exact back T6 g6 b2
      | true=>
       obtain⟨U7,z1,z2,z3,z4⟩:=qb3 hK (d'+6) b2.on b2.lx hple (t:=[125]) (by have:=qbg hc (by simp); omega) hc;have hh6:=b2.hi;have X7:=b2.move (k:=i+3+m+1) z3 (fun x hx=>.inl (by omega)) z2;obtain⟨T8,y1,y2,y3,y4⟩:=X7.put 2 (by decide) (sv [108,101,110]) ⟨rfl,rfl,rfl⟩;rw[set_op]at y2;obtain⟨U9,x1,x2,x3,x4⟩:=y2.fin;rw[z1,callP_ret,iP (by simp[h0])];simp only[pickV_bool,cT,oB,ifK_bool];rw[fap2,oB,y1,oB];dsimp only;rw[x1];exact⟨U9,_,rfl,x2,((g6.trans (z3.mono fun x _ hx=>.inl hx)).trans (y3.mono fun x _ hx=>.inr (by omega))).trans (x3.mono fun x _ hx=>.inr (by omega)),qdm ..⟩
end
abbrev DolR (o:Except Flt (Option (Part×Nat))) (S:St) (N b i:Nat) (s:Bs) (vT vW:V) (r:Rs):Prop:=match o with
 | .ok none=>∃U T,r=some (.ret (.tuple [.agg 6 T,.bool false]),U)/\Lx U b s (i+1) vT vW/\Grew (fun x=>x=b\/N<=x) S U
 | .ok (some q)=>∃U T,r=some (.ret (.tuple [.agg 6 T,.bool true]),U)/\Lx U b s q.2 vT vW/\Grew (fun x=>x=b\/N<=x) S U/\PtAt U (fun x=>N<=x/\x<U.next) q.1 T
 | .error e=>Bad (fun x=>x=b\/N<=x) S r e.1 e.2
theorem build_sub (t:Bs) (q:Bool):qab E0 49 [(0,(.int .i64 3)),(1,sv t),(3,.bool q)]=some (.agg 6 (qdo 3 t [] q .nilslice)):=by kernel_rfl
theorem build_var (t:Bs) (q:Bool):qab E0 49 [(0,(.int .i64 2)),(1,sv t),(3,.bool q)]=some (.agg 6 (qdo 2 t [] q .nilslice)):=by kernel_rfl
theorem build_no:qab E0 49 []=some (.agg 6 zP):=by kernel_rfl
theorem meet_rd (b i j b' k l:Nat):meet ⟨b,i,j,false⟩ ⟨b',k,l,false⟩=false:=by
 unfold meet;cases Nat.beq b b'<;>rfl
theorem pairs_dol (b:Nat) (l:List LE):qag [[],[],[],[⟨b,0,1,false⟩],[],[],[],[],[⟨b,1,2,false⟩],[],[],[],[],[],l,[]] [(3,[8,12]),(8,[12]),(10,[12])]=true:=by
 have h:qbi [⟨b,0,1,false⟩] [⟨b,1,2,false⟩]=false:=by
  unfold qbi qgf;rw[meet_rd];rfl
 show(bif (bif qbi [⟨b,0,1,false⟩] [⟨b,1,2,false⟩]then true else qea [⟨b,0,1,false⟩] [[],[],[],[⟨b,0,1,false⟩],[],[],[],[],[⟨b,1,2,false⟩],[],[],[],[],[],l,[]] [12])then false else qag [[],[],[],[⟨b,0,1,false⟩],[],[],[],[],[⟨b,1,2,false⟩],[],[],[],[],[],l,[]] [(8,[12]),(10,[12])])=true;rw[h];rfl
section
variable {K:FuncId->Option KF} {S U T:St} {b i k N:Nat} {s:Bs} {vT vW:V} {X Y:Tr V} {n:Nat}
theorem DolR.after {o:Except Flt (Option (Part×Nat))} {r:Rs} (g:Grew (fun x=>x=b\/N<=x) S T) (h:DolR o T N b i s vT vW r):DolR o S N b i s vT vW r:=by
 cases o with
 | ok q=>
  cases q with
  | none=>
   obtain⟨U,X,h1,h2,h3⟩:=h;exact⟨U,X,h1,h2,g.trans h3⟩
  | some q=>
   obtain⟨U,X,h1,h2,h3,h4⟩:=h;exact⟨U,X,h1,h2,g.trans h3,h4⟩
 | error e=>exact Bad.after g h
theorem box_fin (ho:S.on=false) (hY:AgAt S N 49 6 Y) (hN:N<S.next) (hb:b<N) (l:Lx S b s i vT vW) (v:V):∃U,((stP 6 (.ptr N 0) (.agg 6 X) S).bind fun p=>(ldrA 6 (.ptr N 0) p.2).bind fun q=>some (En.ret (.tuple [q.1,v]),q.2))=some (.ret (.tuple [.agg 6 X,v]),U)/\Lx U b s i vT vW/\Grew (fun x=>x=N) S U/\U.next=S.next:=by
 obtain⟨U,k1,k2,k3,k4⟩:=hY.stA ho qjb X;refine⟨U,?_,l.grew (by omega) (by omega) k3,k3,k4⟩;rw[k1,oB];dsimp only;rw[k2.ldrA (k3.on.trans ho) qjb,oB]
theorem next_lg (hK:RefL K) (m:Nat) (ho:S.on=false) (h:Lx S b s i vT vW) (hi:i<=s.length) (t:Bs):(ev E0 K (m+3)).f 44 [.ptr b 0,sv t] S=some (.ret (.bool (atD s i t)),S):=next_run hK m ho h hi t
theorem dollar_run (hK:RefL K) (hP:qgb K n) (d:Nat) {w deep:Nat} (ho:S.on=false) (hb:b<S.next) (h:Lx S b s i vT vW) (hs:s.length<=5000) (hi:i<s.length) (hdp:deep<=20) (hd:4*n+2*s.length+61<=d) (hn:2*(s.length-i)<=n+1) (hn2:n<100000) :
 DolR (dolD (n+1) s w deep i) S S.next b i s vT vW ((ev E0 K (d+2)).f 74 [.ptr b 0,.int .i64 (w:Int),.int .i64 (deep:Int)] S):=by
 obtain⟨d',rfl⟩:∃d',d=d'+10:=⟨d-10,by omega⟩
 have hF:∀r,F74 (ev E0 K (d'+11)) qa3 (.ptr b 0) (.int .i64 (w:Int)) (.int .i64 (deep:Int)) S=some r->(ev E0 K (d'+10+2)).f 74 [.ptr b 0,.int .i64 (w:Int),.int .i64 (deep:Int)] S=some r:=fun r e=>rv74 hK e
 suffices hb2:DolR (dolD (n+1) s w deep i) S S.next b i s vT vW (F74 (ev E0 K (d'+11)) qa3 (.ptr b 0) (.int .i64 (w:Int)) (.int .i64 (deep:Int)) S) by
  cases hq:dolD (n+1) s w deep i with
  | ok q=>
   rw[hq]at hb2;cases q with
   | none=>
    obtain⟨U,X,h1,h2⟩:=hb2;exact⟨U,X,hF _ h1,h2⟩
   | some q=>
    obtain⟨U,X,h1,h2⟩:=hb2;exact⟨U,X,hF _ h1,h2⟩
  | error e=>
   rw[hq]at hb2;obtain⟨U,x,h1,h2⟩:=hb2;exact⟨U,x,hF _ h1,h2⟩
 obtain⟨n1,n2,n3⟩:=qbp ho 49 6 zP;have on1:=n2.on.trans ho;have l1:=h.grew hb (fun h=>h) n2;have g1:Grew (fun x=>x=b\/S.next<=x) S (nwP 49 6 zP S).2:=n2.mono fun x _ hx=>hx.elim;rw[F74_eq,oB,qbs,show(Tr.ofListFrom .nil [(.int .i64 0),(sv []),(sv []),(.bool false),.nilslice,.nilptr] 0:Tr V)=zP from rfl,l1.r1 on1];dsimp only;rw[next_lg hK (d'+8) on1 l1 (by omega),callP_ret,ifK_bool];refine DolR.after g1 ?_;generalize hS1:(nwP 49 6 zP S).2=S1 at *;generalize hN:S.next=N at *
 cases h1:atD s i [36,40,40]with
 | true=>
  rw[dolD,h1,iP rfl,cT];exact bad0 ((qc4 hK (d'+10) on1 19 i).callP _)
 | false=>
  rw[cF];cases h2:atD s i [36,40]with
  | true=>
   have hle:=qbg h2 (by simp);simp only[List.length_cons,List.length_nil]at hle;obtain⟨U,k1,k2,k3,k4⟩:=qb3 hK (d'+7) on1 l1 (by omega) (t:=[36,40]) (by simp; omega) h2;have k5:=k3.on.trans on1;have k2:Lx U b s (i+2) vT vW:=k2;rw[k1,callP_ret,ifK_bool,cT,k2.r1 k5];dsimp only;have hc:=closed_run hK (2*s.length) (d'+10) i k5 (by omega) k2 (by omega) (by omega) (by omega) (by omega) (by omega);rw[dolD,h1,iN (by simp),h2,iP rfl];cases hcd:qjf (2*s.length) s (i+2) 1 with
   | none=>
    rw[hcd]at hc;exact Bad.after (k3.mono fun x _ hx=>.inl hx) ((Bad.callP hc _).mono fun x hx=>.inl hx)
   | some j=>
    rw[hcd]at hc;obtain⟨c1,c2,U2,c3,c4,c5,c6,c7⟩:=hc;dsimp only;rw[c3,callP_ret,c4.o0 c7];dsimp only;rw[c4.l1 c7];dsimp only;rw[show V.int .i64 1=.int .i64 ((1:Nat):Int)from rfl,subC 1 (by omega) (by omega),oB,qg8,llg,qb9 und9 s (qe4 .i64 .i64 (by omega) (by omega)) (by omega),oB];dsimp only;rw[qg8,llg,qfb hK,qc8,build_sub,oB];have a1:AgAt U2 N 49 6 zP:=(n1.grew (by omega) (by omega) k3).grew (by omega) (by omega) c5;obtain⟨T,q1,q2,q3,q4⟩:=a1.stA c7 qjb (qdo 3 ((s.drop (i+2)).take (j-1-(i+2))) [] (inD w) .nilslice);obtain⟨l,q5⟩:=stP_lg c7 q1;rw[qg8,llg,q5,oB];dsimp only;rw[qfm (show qag [[],[],[],(U2.lg [⟨b,0,1,false⟩]).log,[],[],[],[],(U2.lg [⟨b,1,2,false⟩]).log,[],(U2.lg []).log,[],(U2.lg []).log,[],(T.lg l).log,[]] [(3,[8,12]),(8,[12]),(10,[12])]=true from pairs_dol b l)];obtain⟨T',t1,t2,t3,t4⟩:=qdn c7 T l [[],[],[],(U2.lg [⟨b,0,1,false⟩]).log,[],[],[],[],(U2.lg [⟨b,1,2,false⟩]).log,[],(U2.lg []).log,[],(U2.lg []).log,[],(T.lg l).log,[]]
    have aT:AgAt T' N 49 6 (qdo 3 ((s.drop (i+2)).take (j-1-(i+2))) [] (inD w) .nilslice):=by
     obtain⟨c,x1,x2⟩:=q2;exact⟨c,by rw[t2]; exact x1,x2⟩
    have gT:Grew (fun x=>x=N) U2 T':=⟨by rw[t3]; exact q3.next,t4.trans c7.symm,fun x hx hw=>by rw[t2]; exact q3.keep x hx hw⟩
    rw[show qbh U2 (onS (T.lg l)) [[],[],[],(U2.lg [⟨b,0,1,false⟩]).log,[],[],[],[],(U2.lg [⟨b,1,2,false⟩]).log,[],(U2.lg []).log,[],(U2.lg []).log,[],(T.lg l).log,[]]=T' from t1,aT.ldrA t4 qjb,oB];refine⟨T',_,rfl,c4.grew (by omega) (by omega) gT,((k3.mono fun x _ hx=>.inl hx).trans (c5.mono fun x _ hx=>.inl hx)).trans (gT.mono fun x _ hx=>.inr (by omega)),qdm ..⟩
  | false=>
   rw[qbc hK (d'+7) on1 l1 (by omega) (t:=[36,40]) h2,callP_ret,ifK_bool,cF];cases h3:atD s i [36,123]with
   | true=>
    have hle:=qbg h3 (by simp);simp only[List.length_cons,List.length_nil]at hle;obtain⟨U,k1,k2,k3,k4⟩:=qb3 hK (d'+7) on1 l1 (by omega) (t:=[36,123]) (by simp; omega) h3;have k5:=k3.on.trans on1;have k2:Lx U b s (i+2) vT vW:=k2;rw[k1,callP_ret,ifK_bool,cT,dolD_br n s w deep i h1 h2 h3];have hbr:=braces_run (w:=w) (i:=i) hK hP (d'+10) k5 (by omega) k2 hs (by omega) hdp (by omega) hn hn2;have gk:Grew (fun x=>x=b\/N<=x) S1 U:=k3.mono fun x _ hx=>.inl hx;cases hq:brD n s w deep i with
    | error e=>
     rw[hq]at hbr;exact Bad.after gk ((Bad.callP hbr _).mono fun x hx=>hx.imp id (by omega))
    | ok q=>
     rw[hq]at hbr;obtain⟨U2,X2,c1,c2,c3,c4⟩:=hbr;have nx:=c3.next
     dsimp only;rw[c1,callP_ret];have a1:AgAt U2 N 49 6 zP:=(n1.grew (by omega) (by omega) k3).grew (by omega) (by omega) c3;obtain⟨T,q1,q2,q3,q4⟩:=box_fin (X:=X2) (c3.on.trans k5) a1 (by omega) (by omega) c2 (.bool true);rw[q1];exact⟨T,X2,rfl,q2,(gk.trans (c3.mono fun x _ hx=>hx.imp id (by omega))).trans (q3.mono fun x _ hx=>.inr (by omega)),(c4.grew q3 fun x hx e=>by omega).mono fun x hx=>by omega⟩
   | false=>
    obtain⟨U,k1,k2,k3,k4,k5⟩:=l1.bump on1 1 (by omega);obtain⟨U4,f1,f2,f3,f4,f5⟩:=qmr hK (d'+8) k5 k2 (by omega) (by omega) [63,35,64,42];rw[qbc hK (d'+7) on1 l1 (by omega) (t:=[36,123]) h3,callP_ret,ifK_bool,cF,show V.int .i64 1=.int .i64 ((1:Nat):Int)from rfl,k1];dsimp only;rw[f1,callP_ret,neStr,oB,ifK_bool,dolD,h1,iN (by simp),h2,iN (by simp),h3,iN (by simp)];dsimp only;have g4:Grew (fun x=>x=b\/N<=x) S1 U4:=(k3.mono fun x _ hx=>.inl hx).trans (f3.mono fun x _ hx=>.inl hx);have a1:AgAt U4 N 49 6 zP:=(n1.grew (by omega) (by omega) k3).grew (by omega) (by omega) f3
    have hple:i+1+qcv (s.drop (i+1)) [63,35,64,42]<=s.length:=by
     have:=qmq (s.drop (i+1)) [63,35,64,42];rw[List.length_drop]at this;omega
    generalize hm:qcv (s.drop (i+1)) [63,35,64,42]=m at *
    have hmt:((s.drop (i+1)).take m==[])=decide (m=0):=by
     rw[Bool.eq_iff_iff,beq_iff_eq,decide_eq_true_iff,<- List.length_eq_zero_iff,List.length_take,List.length_drop];omega
    rw[hmt];by_cases h0:m=0
    . rw[dT h0,Bool.not_true,cF,iP h0,build_no,oB]
      obtain⟨T,q1,q2,q3,q4⟩:=box_fin (X:=zP) f5 a1 (by omega) (by omega) f2 (.bool false);rw[q1];rw[h0]at q2;exact⟨T,_,rfl,q2,g4.trans (q3.mono fun x _ hx=>.inr (by omega))⟩
    . rw[dF h0,nF,cT,iN h0,qfb hK,callP_ret,build_var,oB]
      obtain⟨T,q1,q2,q3,q4⟩:=box_fin (X:=qdo 2 ((s.drop (i+1)).take m) [] (inD w) .nilslice) f5 a1 (by omega) (by omega) f2 (.bool true);rw[q1];exact⟨T,_,rfl,q2,g4.trans (q3.mono fun x _ hx=>.inr (by omega)),qdm ..⟩
end
end Go.Proofs.YtafbipadnnmccaaDoor.W
end
