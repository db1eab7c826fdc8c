/-
  WHAT THE FUNCTIONS COME TO: each is read by the evaluator,printed,and told as a function of data,part 5 of 12 (no condition).
-/
import Derived.Test.YtachpdpmoihjmaaW4
import Derived.Test.YtachpdpmoihjmaaProg
import Derived.KernelRfl
namespace Go.Proofs.Ytachpdpmoihjmaa.W
open Go.Proofs.Ytachpdpmoihjmaa.Ev
def out0 (g s0 s1:Nat):List (Int×Int):=(List.replicate (g+1) ((-1:Int),(-1:Int))).set 0 ((s0:Int),(s1:Int))
theorem out0_len (g s0 s1:Nat):(out0 g s0 s1).length=g+1:=by unfold out0; rw[List.length_set,List.length_replicate]
theorem out0_0 (g s0 s1:Nat):(out0 g s0 s1)[0]?=some ((s0:Int),(s1:Int)):=by
 unfold out0;rw[List.getElem?_set_self (by rw[List.length_replicate]; omega)]
theorem qkm (out:List (Int×Int)) (t a:Nat):(putM out t a).length=out.length:=by unfold putM; rw[List.length_set]
theorem putM_ne (out:List (Int×Int)) (t a j:Nat) (h:t/2≠j):(putM out t a)[j]?=out[j]?:=by
 unfold putM;rw[List.getElem?_set_ne h]
section
variable {L:List AS} {T:List UInt8} {g s0 s1:Nat}
theorem meas_le {gl:Nat->Nat} (hp:Pot L gl) (hL:L.length<=1000) (hs:s1<=1000) (n a:Nat):meas L gl s1 n a<100000000:=by
 unfold meas;have h1:=Nat.mul_le_mul (show s1-a<=1000 by omega) (show 12*(L.length+1)<=12*1001 by omega);have h2:=Nat.mul_le_mul (hp.le n) (show L.length+1<=1001 by omega);omega
theorem exp_places (he:Exp L g) (hL:L.length<=1000) (hs:s1<=1000) {fr:Nat} (h:Acc L T fr s0 s1) {f:Nat} (hf:100000000<f):∃out,plc L (qd7 L T s1 (s1-s0+1)) s0 f 0 s0 (out0 g s0 s1)=some out/\out.length=g+1/\out[0]?=some ((s0:Int),(s1:Int)):=by
 obtain⟨gl,hp⟩:=he.pot
 obtain⟨out,h1,h2⟩:=qk0 (T:=T) (s0:=s0) (s1:=s1) he.wf hp (g:=g+1) (fun n s hs hk=>(he.mks n s hs hk).2) (fun _ _ out=>out.length=g+1/\out[0]?=some ((s0:Int),(s1:Int))) (fun _ _ _ h=>h.1)
  (fun _ _ _ _ _ _ _ h=>h) (fun n a out s hs hk _ _ h=>⟨by rw[qkm]; exact h.1,by
   have:=(he.mks n s hs hk).1
   rw[putM_ne _ _ _ _ (by omega)]; exact h.2⟩) (fun _ _ _ _ _ _ _ _ _ _ h=>h) f 0 s0 (out0 g s0 s1) (good_start he.wf hp h) ⟨out0_len ..,out0_0 ..⟩ (by have:=meas_le (s1:=s1) hp hL hs 0 s0; omega)
 exact⟨out,h1,h2⟩
variable {X:List AS}
def InvA (X:List AS) (g s1 n a:Nat) (out:List (Int×Int)):Prop:=
 out.length=g+1/\out[0]?=some (((0:Nat):Int),(s1:Int))/\(n<=1->a=0)/\(2<=n->∃z,out[1]?=some (((0:Nat):Int),z))/\(X.length+3<=n->out[1]?=some (((0:Nat):Int),(s1:Int)))
theorem qj5 {n:Nat} {s:AS} (hs:(qd9 X)[n]?=some s):(n=0/\s=stA 1 0)\/(n=1/\s=stA 5 2)\/(∃j,∃h:j<X.length,n=j+2/\s=sh2 X[j])\/(n=X.length+2/\s=stA 5 3)\/(n=X.length+3/\s=stA 2 0)\/(n=X.length+4/\s=stA 6 0):=by
 have hn:=(List.getElem?_eq_some_iff.1 hs).1;rw[qf8]at hn;by_cases h0:n=0
 . subst h0; rw[allL_0,oS]at hs; exact .inl ⟨rfl,hs.symm⟩
 by_cases h1:n=1
 . subst h1; rw[allL_1,oS]at hs; exact .inr (.inl ⟨rfl,hs.symm⟩)
 by_cases hj:n-2<X.length
 . have:=qk6 hj
   rw[show n-2+2=n by omega,hs,oS]at this;exact .inr (.inr (.inl ⟨n-2,hj,by omega,this⟩))
 have e:=qf7 (X:=X) (n-2-X.length);rw[show X.length+(n-2-X.length)+2=n by omega,hs]at e;by_cases h2:n=X.length+2
 . rw[show n-2-X.length=0 by omega]at e
   simp only[Q3,List.getElem?_cons_zero,oS]at e;exact .inr (.inr (.inr (.inl ⟨h2,e⟩)))
 by_cases h3:n=X.length+3
 . rw[show n-2-X.length=1 by omega]at e
   simp only[Q3,List.getElem?_cons_zero,List.getElem?_cons_succ,oS]at e;exact .inr (.inr (.inr (.inr (.inl ⟨h3,e⟩))))
 . rw[show n-2-X.length=2 by omega]at e
   simp only[Q3,List.getElem?_cons_zero,List.getElem?_cons_succ,oS]at e;exact .inr (.inr (.inr (.inr (.inr ⟨by omega,e⟩))))
theorem all_places (he:Exp (qd9 X) g) (hX:∀x∈X,x.kind≠1/\x.kind≠2/\x.kind≠6/\(x.kind=5->2<=x.to_)/\(x.kind=3\/x.kind=4->x.to_<=X.length)) (hg:1<=g) (hL:(qd9 X).length<=1000) (hs:s1<=1000) (hT:T.length=s1) {fr:Nat} (h:Acc (qd9 X) T fr 0 s1) {f:Nat} (hf:100000000<f) :
 ∃out,plc (qd9 X) (qd7 (qd9 X) T s1 (s1-0+1)) 0 f 0 0 (out0 g 0 s1)=some out/\out.length=g+1/\out[0]?=some (((0:Nat):Int),(s1:Int))/\out[1]?=some (((0:Nat):Int),(s1:Int)):=by
 obtain⟨gl,hp⟩:=he.pot
 have key:∃out',plc (qd9 X) (qd7 (qd9 X) T s1 (s1-0+1)) 0 f 0 0 (out0 g 0 s1)=some out'/\InvA X g s1 ((qd9 X).length-1) s1 out':=by
  refine qk0 (T:=T) (s0:=0) (s1:=s1) he.wf hp (g:=g+1) (fun n s hs hk=>(he.mks n s hs hk).2) (InvA X g s1) (fun _ _ _ h=>h.1)
   (fun n a out s hs hk _ hi=>?_) (fun n a out s hs hk hgd hgd1 hi=>?_) (fun n a out s k hs hk5 hk hgd hgd1 hi=>?_) f 0 0 (out0 g 0 s1) (good_start he.wf hp h) ⟨out0_len ..,out0_0 ..,fun _=>rfl,fun h=>by omega,fun h=>by omega⟩ (by have:=meas_le (s1:=s1) hp hL hs 0 0; omega)
  . -- a byte
    obtain⟨i1,i2,i3,i4,i5⟩:=hi;rcases qj5 hs with⟨_,rfl⟩|⟨_,rfl⟩|⟨j,hj,rfl,rfl⟩|⟨_,rfl⟩|⟨_,rfl⟩|⟨_,rfl⟩
    . exact absurd hk (by show ¬(1:Nat)=0; decide)
    . exact absurd hk (by show ¬(5:Nat)=0; decide)
    . exact⟨i1,i2,fun h=>by omega,fun _=>i4 (by omega),fun h=>by omega⟩
    . exact absurd hk (by show ¬(5:Nat)=0; decide)
    . exact absurd hk (by show ¬(2:Nat)=0; decide)
    . exact absurd hk (by show ¬(6:Nat)=0; decide)
  . -- a place
    obtain⟨i1,i2,i3,i4,i5⟩:=hi
    have hm0:(putM out s.to_ a)[0]?=some (((0:Nat):Int),(s1:Int)):=by
     have:=(he.mks n s hs hk).1;rw[putM_ne _ _ _ _ (by omega)]; exact i2
    rcases qj5 hs with⟨_,rfl⟩|⟨rfl,rfl⟩|⟨j,hj,rfl,rfl⟩|⟨rfl,rfl⟩|⟨_,rfl⟩|⟨_,rfl⟩
    . exact absurd hk (by show ¬(1:Nat)=5; decide)
    . have ha:=i3 (lR _)
      subst ha;refine⟨by rw[qkm]; exact i1,hm0,fun h=>by omega,fun _=>?_,fun h=>by omega⟩;unfold putM;rw[show(stA 5 2).to_/2=1 from rfl,List.getElem?_set_self (by omega),iP (show(stA 5 2).to_%2=0 from rfl)];exact⟨_,rfl⟩
    . have hx:=hX _ (List.getElem_mem hj)
      have hk':X[j].kind=5:=by
       have:(sh2 X[j]).kind=X[j].kind:=by unfold sh2; split<;>rfl
       rw[<- this]; exact hk
      have ht:(sh2 X[j]).to_=X[j].to_+2:=by unfold sh2; rw[iP (.inr (.inr hk'))]
      have h2:=hx.2.2.2.1 hk';refine⟨by rw[qkm]; exact i1,hm0,fun h=>by omega,fun _=>?_,fun h=>by omega⟩;rw[ht,putM_ne _ _ _ _ (by omega)];exact i4 (by omega)
    . -- the group's end
      have e1:=qf7 (X:=X) 1;have hd:=hgd1.eps (s:=stA 2 0) (by rw[show X.length+2+1=X.length+1+2 by omega,e1]; rfl) (by show(2:Nat)≠0; decide) (by show(2:Nat)≠6; decide);obtain⟨k,hk1,_⟩:=hd
      have hsz:T.length<=a:=by
       rcases qbr hk1 with⟨h3,_⟩|⟨h3,_⟩|⟨_,_,_,_,h5⟩
       . exact absurd h3 (by show ¬(2:Nat)=3; decide)
       . exact absurd h3 (by show ¬(2:Nat)=4; decide)
       . exact h5 rfl
      have ha:a=s1:=by have:=hgd.hi; omega
      subst ha;obtain⟨z,hz⟩:=i4 (by omega)
      have hnew:(putM out (stA 5 3).to_ a)[1]?=some (((0:Nat):Int),(a:Int)):=by
       unfold putM;rw[show(stA 5 3).to_/2=1 from rfl,List.getElem?_set_self (by omega),iN (by show ¬(3%2=0); decide),List.getD_eq_getElem?_getD,hz];rfl
      exact⟨by rw[qkm]; exact i1,hm0,fun h=>by omega,fun _=>⟨_,hnew⟩,fun _=>hnew⟩
    . exact absurd hk (by show ¬(2:Nat)=5; decide)
    . exact absurd hk (by show ¬(6:Nat)=5; decide)
  . -- without a byte
    obtain⟨i1,i2,i3,i4,i5⟩:=hi;rcases qj5 hs with⟨rfl,rfl⟩|⟨_,rfl⟩|⟨j,hj,rfl,rfl⟩|⟨_,rfl⟩|⟨rfl,rfl⟩|⟨_,rfl⟩
    . rcases qbr hk with⟨h3,_⟩|⟨h3,_⟩|⟨_,_,h3,h4,_⟩
      . exact absurd h3 (by show ¬(1:Nat)=3; decide)
      . exact absurd h3 (by show ¬(1:Nat)=4; decide)
      . exact⟨i1,i2,fun _=>h4 rfl,fun h=>by omega,fun h=>by omega⟩
    . exact absurd rfl hk5
    . have hx:=hX _ (List.getElem_mem hj)
      have hkk:(sh2 X[j]).kind=X[j].kind:=by unfold sh2; split<;>rfl
      have ht:X[j].kind=3\/X[j].kind=4->(sh2 X[j]).to_=X[j].to_+2/\X[j].to_<=X.length:=fun h=>⟨by unfold sh2; rw[iP (by omega)],hx.2.2.2.2 h⟩
      have hk2:2<=k/\k<=X.length+2:=by
       rcases qbr hk with⟨h3,h4⟩|⟨h3,h4⟩|⟨_,_,h3,_⟩
       . rw[hkk]at h3
         have:=ht (.inl h3);omega
       . rw[hkk]at h3
         have:=ht (.inr h3);omega
       . omega
      exact⟨i1,i2,fun h=>by omega,fun _=>i4 (by omega),fun h=>by omega⟩
    . exact absurd rfl hk5
    . rcases qbr hk with⟨h3,_⟩|⟨h3,_⟩|⟨_,_,h3,_⟩
      . exact absurd h3 (by show ¬(2:Nat)=3; decide)
      . exact absurd h3 (by show ¬(2:Nat)=4; decide)
      . exact⟨i1,i2,fun h=>by omega,fun _=>i4 (by omega),fun _=>i5 (by omega)⟩
    . simp[qch,stA]at hk
 obtain⟨out,h1,h2⟩:=key;obtain⟨i1,i2,_,_,i5⟩:=h2;exact⟨out,h1,i1,i2,i5 (by rw[qf8]; omega)⟩
end
set_option maxRecDepth 100000
noncomputable section
noncomputable def C19:Code:=Try.f19.body.getD .skip
noncomputable def B19:D:=(qc1 C19 [[],[],[],[0,1,4],[],[0,1],[],[],[],[],[0,0,1],[],[]]).1
noncomputable def RL19:List Nat:=cellsOf Try.f19.results.toList
noncomputable def R19_20 (self:EV) (N:Nat) (nk:Ac->St->Rs) (ek:Nat->Ac->St->Rs) (a:Ac) (S:St):Rs:=qa6 [0,1] a fun a=>dr E0 self RL19 N (B19.r.r).r (mkK E0 self Try.f19 nk ek) a S
theorem R19_20_eq (self:EV) (N:Nat) (nk:Ac->St->Rs) (ek:Nat->Ac->St->Rs) ( v0 v1:V) (S:St):R19_20 self N nk ek (fr 83 [(0,v0),(1,v1)]) S =
(qa2 v0).bind fun t22=>
(faP 0 true 2 t22).bind fun t23=>
(faP 0 false 1 t23).bind fun t24=>
(ld1 t24 (onS S)).bind fun p25=>
(qa2 v0).bind fun t28=>
(faP 0 true 2 t28).bind fun t29=>
(faP 0 false 1 t29).bind fun t30=>
(ld1 t30 (onS p25.2)).bind fun p31=>
(lnS p31.1 (onS p31.2)).bind fun p32=>
(qa4 E0 .add 3 false true p32.1 (.int .i64 1)).bind fun t33=>
(qau E0 50 [(1,(.int .i64 3)),(2,t33)]).bind fun t34=>
(ixP 258 p25.1 v1).bind fun t35=>
(stP 258 t35 t34 (onS p32.2)).bind fun p36=>
qfq [(4,[10,11])] S [[],[],[],[],p25.2.log,[],[],[],[],[],p31.2.log,p32.2.log,[],[],[],p36.2.log] p36.2 fun S37=>
(qau E0 50 [(1,(.int .i64 4)),(2,v1)]).bind fun t40=>
qad (self.f 13 [v0,t40] S37) fun t41 S41=>
nk (fr 83 []) S41:=by kernel_rfl
noncomputable def qks (self:EV) (N:Nat) (nk:Ac->St->Rs) (ek:Nat->Ac->St->Rs) (n:Nat) ( v0 v1 v4:V) (S:St):Rs:=qc8 [0,1,4] (dr E0 self RL19 N (B19.r.r.l.r.l.l)) (mkK E0 self Try.f19 nk ek) n (fr 83 [(0,v0),(1,v1),(4,v4)]) S
theorem L19_45_eq (self:EV) (N:Nat) (nk:Ac->St->Rs) (ek:Nat->Ac->St->Rs) (n:Nat) ( v0 v1 v4:V) (S:St):qks self N nk ek (n+1) v0 v1 v4 S =
(qa2 v0).bind fun t48=>
(faP 0 true 2 t48).bind fun t49=>
(faP 0 false 1 t49).bind fun t50=>
(ld1 t50 S).bind fun p51=>
(lnS p51.1 p51.2).bind fun p52=>
(qa4 E0 .lss 3 false false v4 p52.1).bind fun t53=>
ifK t53 (
(qa2 v0).bind fun t55=>
(faP 0 true 2 t55).bind fun t56=>
(faP 0 false 1 t56).bind fun t57=>
(ld1 t57 p52.2).bind fun p58=>
(ixP 258 p58.1 v4).bind fun t60=>
(faP 256 false 1 t60).bind fun t61=>
(ld1 t61 p58.2).bind fun p62=>
(qa4 E0 .eql 3 false true p62.1 (.int .i64 3)).bind fun t65=>
(qa1 false t65).bind fun g67=>(bif g67 then some p62.1 else some (.tuple [])).bind fun t67=>
(qa1 false t65).bind fun g68=>(bif g68 then qa4 E0 .eql 3 false true t67 (.int .i64 4)else some (.tuple [])).bind fun t68=>
(qah t65 (some (.bool true)) (some t68)).bind fun t69=>
ifK t69 (
(qa2 v0).bind fun t71=>
(faP 0 true 2 t71).bind fun t72=>
(faP 0 false 1 t72).bind fun t73=>
(ld1 t73 p62.2).bind fun p74=>
(ixP 258 p74.1 v4).bind fun t76=>
(faP 257 false 1 t76).bind fun t77=>
(ld1 t77 p74.2).bind fun p78=>
(qa4 E0 .add 3 false true p78.1 (.int .i64 1)).bind fun t79=>
(ixP 258 p74.1 v4).bind fun t80=>
(faP 257 false 1 t80).bind fun t81=>
(stP 1 t81 t79 p78.2).bind fun p82=>
(qa4 E0 .add 3 false true v4 (.int .i64 1)).bind fun t84=>
qks self N nk ek n v0 v1 t84 p82.2) (
(qa4 E0 .add 3 false true v4 (.int .i64 1)).bind fun t87=>
qks self N nk ek n v0 v1 t87 p62.2)) (
ek 0 (fr 83 [(0,v0),(1,v1)]) p52.2):=by kernel_rfl
noncomputable def F19 (self:EV) (N:Nat) (x0 x1:V) (S:St):Rs:=qj3 E0 self N Try.f19 B19 [x0,x1] S
theorem F19_eq (self:EV) (N:Nat) (x0 x1:V) (S:St):F19 self N x0 x1 S =
(qau E0 50 []).bind fun t1=>
qad (self.f 13 [x0,t1] S) fun t2 S2=>
(qa2 x0).bind fun t4=>
(faP 0 true 2 t4).bind fun t5=>
(faP 0 false 1 t5).bind fun t6=>
(ld1 t6 (onS S2)).bind fun p7=>
(qa4 E0 .add 3 false true x1 (.int .i64 1)).bind fun t9=>
(qbj E0 40 p7.1 (some t9) none none (onS p7.2)).bind fun p10=>
(qa2 x0).bind fun t12=>
(faP 0 true 2 t12).bind fun t13=>
(faP 0 false 1 t13).bind fun t14=>
(ld1 t14 (onS p10.2)).bind fun p15=>
(qbj E0 40 p15.1 (some x1) none none (onS p15.2)).bind fun p17=>
(cpP 258 p10.1 p17.1 (onS p17.2)).bind fun p18=>
qfq [(4,[12,14]),(7,[12,14])] S2 [[],[],[],[],p7.2.log,[],[],p10.2.log,[],[],[],[],p15.2.log,[],p17.2.log,p18.2.log] p18.2 fun S19=>
(qa4 E0 .add 3 false true x1 (.int .i64 1)).bind fun t43=>
qks self N (R19_20 self N (qbg E0 self Try.f19) qav) (exB 0 (R19_20 self N (qbg E0 self Try.f19) qav) qav) N x0 x1 t43 S19:=by kernel_rfl
end
noncomputable section
noncomputable def C32:Code:=Try.f32.body.getD .skip
noncomputable def B32:D:=(qc1 C32 [[],[],[],[],[],[],[],[],[],[],[],[]]).1
noncomputable def F32 (self:EV) (N:Nat) (x0:V) (S:St):Rs:=qj3 E0 self N Try.f32 B32 [x0] S
theorem F32_eq (self:EV) (N:Nat) (x0:V) (S:St):F32 self N x0 S =
(qa2 x0).bind fun t2=>
(faP 0 true 2 t2).bind fun t3=>
(faP 1 false 1 t3).bind fun t4=>
(ld1 t4 S).bind fun p5=>
(qa4 E0 .add 3 false true p5.1 (.int .i64 1)).bind fun t6=>
(qa2 x0).bind fun t7=>
(faP 0 true 2 t7).bind fun t8=>
(faP 1 false 1 t8).bind fun t9=>
(stP 1 t9 t6 p5.2).bind fun p10=>
(qa2 x0).bind fun t12=>
(faP 0 true 2 t12).bind fun t13=>
(faP 1 false 1 t13).bind fun t14=>
(ld1 t14 p10.2).bind fun p15=>
(qa4 E0 .leq 3 false true p15.1 (.int .i64 9)).bind fun t18=>
qad (self.f 18 [t18] p15.2) fun t19 S19=>
(qa4 E0 .mul 3 true false (.int .i64 2) p15.1).bind fun t22=>
(qau E0 50 [(1,(.int .i64 5)),(2,t22)]).bind fun t23=>
qad (self.f 13 [x0,t23] S19) fun t24 S24=>
(qa2 x0).bind fun t26=>
(faP 4 false 1 t26).bind fun t27=>
(ld1 t27 S24).bind fun p28=>
(qa4 E0 .add 3 false true p28.1 (.int .i64 1)).bind fun t29=>
(qa2 x0).bind fun t30=>
(faP 4 false 1 t30).bind fun t31=>
(stP 1 t31 t29 p28.2).bind fun p32=>
qad (self.f 12 [x0] p32.2) fun t34 S34=>
qad (self.f 16 [x0,(sv [92,41])] S34) fun t37 S37=>
qad (self.f 18 [t37] S37) fun t38 S38=>
(qa2 x0).bind fun t40=>
(faP 3 false 1 t40).bind fun t41=>
(ld1 t41 S38).bind fun p42=>
(qa4 E0 .add 3 false true p42.1 (.int .i64 2)).bind fun t43=>
(qa2 x0).bind fun t44=>
(faP 3 false 1 t44).bind fun t45=>
(stP 1 t45 t43 p42.2).bind fun p46=>
(qa2 x0).bind fun t48=>
(faP 4 false 1 t48).bind fun t49=>
(ld1 t49 p46.2).bind fun p50=>
(qa4 E0 .sub 3 false true p50.1 (.int .i64 1)).bind fun t51=>
(qa2 x0).bind fun t52=>
(faP 4 false 1 t52).bind fun t53=>
(stP 1 t53 t51 p50.2).bind fun p54=>
(qa4 E0 .mul 3 true false (.int .i64 2) p15.1).bind fun t57=>
(qa4 E0 .add 3 false true t57 (.int .i64 1)).bind fun t58=>
(qau E0 50 [(1,(.int .i64 5)),(2,t58)]).bind fun t59=>
qad (self.f 13 [x0,t59] p54.2) fun t60 S60=>
some (.ret t34,S60):=by kernel_rfl
end
noncomputable section
noncomputable def C4:Code:=Try.f4.body.getD .skip
noncomputable def B4:D:=(qc1 C4 [[],[],[],[],[0,1,5],[],[0,1],[],[],[],[],[0,0,1],[4],[],[],[],[],[],[],[],[1,8,10,11,12],[],[],[],[],[1,8,10,11,12,13],[],[1,8,10,11,12],[],[],[],[],[],[],[],[],[],[],[],[0,1,8,10,11,12],[1,8,10,11,12],[0],[4],[]]).1
noncomputable def RL4:List Nat:=cellsOf Try.f4.results.toList
noncomputable def R4_13 (self:EV) (N:Nat) (nk:Ac->St->Rs) (ek:Nat->Ac->St->Rs) (a:Ac) (S:St):Rs:=qa6 [0,1] a fun a=>dr E0 self RL4 N (B4.r.r.r).r (mkK E0 self Try.f4 nk ek) a S
noncomputable def R4_62 (self:EV) (N:Nat) (nk:Ac->St->Rs) (ek:Nat->Ac->St->Rs) (a:Ac) (S:St):Rs:=qa6 [] a fun a=>dr E0 self RL4 N (B4.r.r.r.r.l.r.r.r.r).r (mkK E0 self Try.f4 nk ek) a S
theorem R4_62_eq (self:EV) (N:Nat) (nk:Ac->St->Rs) (ek:Nat->Ac->St->Rs) (S:St):R4_62 self N nk ek (fr 182 []) S =
qad (self.f 9 [] S) fun t63 S63=>
some (.ret t63,S63):=by kernel_rfl
noncomputable def N4_66 (self:EV) (N:Nat) (nk:Ac->St->Rs) (ek:Nat->Ac->St->Rs) (n:Nat):Ac->St->Rs:=fun a S=>qa6 [1,8,10,11,12] a fun a=>qc8 [1,8,10,11,12] (dr E0 self RL4 N (B4.r.r.r.r.l.r.r.r.r.l.r.l.l)) (mkK E0 self Try.f4 nk ek) n a S
noncomputable def L4_66 (self:EV) (N:Nat) (nk:Ac->St->Rs) (ek:Nat->Ac->St->Rs) (n:Nat) ( v1 v8 v10 v11 v12:V) (S:St):Rs:=qc8 [1,8,10,11,12] (dr E0 self RL4 N (B4.r.r.r.r.l.r.r.r.r.l.r.l.l)) (mkK E0 self Try.f4 nk ek) n (fr 182 [(1,v1),(8,v8),(10,v10),(11,v11),(12,v12)]) S
noncomputable def R4_71 (self:EV) (N:Nat) (nk:Ac->St->Rs) (ek:Nat->Ac->St->Rs) (a:Ac) (S:St):Rs:=qa6 [1,8,10,11,12] a fun a=>dr E0 self RL4 N (B4.r.r.r.r.l.r.r.r.r.l.r.l.l.r).r (mkK E0 self Try.f4 nk ek) a S
theorem R4_71_eq (self:EV) (N:Nat) (nk:Ac->St->Rs) (ek:Nat->Ac->St->Rs) ( v1 v8 v10 v11 v12:V) (S:St):R4_71 self N nk ek (fr 182 [(1,v1),(8,v8),(10,v10),(11,v11),(12,v12)]) S =
(qa4 E0 .add 3 false true v12 (.int .i64 1)).bind fun t73=>
nk (fr 182 [(1,v1),(8,v8),(10,v10),(11,v11),(12,t73)]) S:=by kernel_rfl
noncomputable def qk4 (self:EV) (N:Nat) (nk:Ac->St->Rs) (ek:Nat->Ac->St->Rs) (n:Nat) ( v1 v8 v10 v11 v12 v13:V) (S:St):Rs:=qc8 [1,8,10,11,12,13] (dr E0 self RL4 N (B4.r.r.r.r.l.r.r.r.r.l.r.l.l.r.l.l.r.l.l)) (mkK E0 self Try.f4 nk ek) n (fr 182 [(1,v1),(8,v8),(10,v10),(11,v11),(12,v12),(13,v13)]) S
theorem L4_77_eq (self:EV) (N:Nat) (nk:Ac->St->Rs) (ek:Nat->Ac->St->Rs) (n:Nat) ( v1 v8 v10 v11 v12 v13:V) (S:St):qk4 self N nk ek (n+1) v1 v8 v10 v11 v12 v13 S =
(qbu v1 S).bind fun p80=>
(qa4 E0 .leq 3 false false v13 p80.1).bind fun t81=>
ifK t81 (
(qbj E0 9 v1 (some v12) (some v13) none p80.2).bind fun p86=>
qad (self.f 8 [v8,p86.1,(.int .i64 0)] p86.2) fun t87 S87=>
(qaj t87 0).bind fun t89=>
(qaj t87 1).bind fun t90=>
(qa1 true t90).bind fun g95=>(bif g95 then some t89 else some (.tuple [])).bind fun t95=>
(qa1 true t90).bind fun g96=>(bif g96 then lnS t95 (onS S87)else some (.tuple [],(onS S87))).bind fun p96=>
(qa1 true t90).bind fun g97=>(bif g97 then qa4 E0 .lss 3 false true p96.1 (.int .i64 2)else some (.tuple [])).bind fun t97=>
(qa1 true t90).bind fun g98=>(bif g98 then some t97 else some (.tuple [])).bind fun t98=>
(qa1 false t98).bind fun g99=>(bif g99 then some t89 else some (.tuple [])).bind fun t99=>
(qa1 false t98).bind fun g100=>(bif g100 then ixP 2 t99 (.int .i64 0)else some (.tuple [])).bind fun t100=>
(qa1 false t98).bind fun g101=>(bif g101 then ldA 2 t100 (onS p96.2)else some (.tuple [],(onS p96.2))).bind fun p101=>
(qa1 false t98).bind fun g102=>(bif g102 then some v13 else some (.tuple [])).bind fun t102=>
(qa1 false t98).bind fun g103=>(bif g103 then some v12 else some (.tuple [])).bind fun t103=>
(qa1 false t98).bind fun g104=>(bif g104 then qa4 E0 .sub 3 false false t102 t103 else some (.tuple [])).bind fun t104=>
(qa1 false t98).bind fun g105=>(bif g105 then qau E0 30 [(0,(.int .i64 0)),(1,t104)]else some (.tuple [])).bind fun t105=>
(qa1 false t98).bind fun g106=>(bif g106 then qa4 E0 .neq 30 false false p101.1 t105 else some (.tuple [])).bind fun t106=>
(qa1 true t90).bind fun g107=>(bif g107 then qah t98 (some (.bool true)) (some t106)else some (.tuple [])).bind fun t107=>
(qa1 true t90).bind fun g108=>(bif g108 then some t107 else some (.tuple [])).bind fun t108=>
(qa1 false t108).bind fun g109=>(bif g109 then some t89 else some (.tuple [])).bind fun t109=>
(qa1 false t108).bind fun g110=>(bif g110 then ixP 2 t109 (.int .i64 1)else some (.tuple [])).bind fun t110=>
(qa1 false t108).bind fun g111=>(bif g111 then ldA 2 t110 (onS p101.2)else some (.tuple [],(onS p101.2))).bind fun p111=>
(qa1 false t108).bind fun g112=>(bif g112 then some t89 else some (.tuple [])).bind fun t112=>
(qa1 false t108).bind fun g113=>(bif g113 then ixP 2 t112 (.int .i64 0)else some (.tuple [])).bind fun t113=>
(qa1 false t108).bind fun g114=>(bif g114 then ldA 2 t113 (onS p111.2)else some (.tuple [],(onS p111.2))).bind fun p114=>
(qa1 false t108).bind fun g115=>(bif g115 then qa4 E0 .neq 30 false false p111.1 p114.1 else some (.tuple [])).bind fun t115=>
(qa1 true t90).bind fun g116=>(bif g116 then qah t108 (some (.bool true)) (some t115)else some (.tuple [])).bind fun t116=>
(qah t90 (some t116) (some (.bool false))).bind fun t117=>
qfq [(18,[21])] S87 [[],[],[],p96.2.log,[],[],[],[],p101.2.log,[],[],[],[],[],[],[],[],[],p111.2.log,[],[],p114.2.log,[],[],[]] (onS p114.2) fun S118=>
ifK t117 (
some (.ret (.bool false),S118)) (
(qa1 true t90).bind fun g122=>(bif g122 then some v11 else some (.tuple [])).bind fun t122=>
(qa1 true t90).bind fun g123=>(bif g123 then unV .not t122 else some (.tuple [])).bind fun t123=>
(qa1 true t90).bind fun g124=>(bif g124 then some t123 else some (.tuple [])).bind fun t124=>
(qa1 false t124).bind fun g125=>(bif g125 then some v12 else some (.tuple [])).bind fun t125=>
(qa1 false t124).bind fun g126=>(bif g126 then some v10 else some (.tuple [])).bind fun t126=>
(qa1 false t124).bind fun g127=>(bif g127 then ixP 2 t126 (.int .i64 0)else some (.tuple [])).bind fun t127=>
(qa1 false t124).bind fun g128=>(bif g128 then ixA 2 1 false 1 t127 (.int .i64 0)else some (.tuple [])).bind fun t128=>
(qa1 false t124).bind fun g129=>(bif g129 then ld1 t128 S118 else some (.tuple [],S118)).bind fun p129=>
(qa1 false t124).bind fun g130=>(bif g130 then qa4 E0 .lss 3 false false t125 p129.1 else some (.tuple [])).bind fun t130=>
(qa1 true t90).bind fun g131=>(bif g131 then qah t124 (some (.bool true)) (some t130)else some (.tuple [])).bind fun t131=>
(qa1 true t90).bind fun g132=>(bif g132 then some t131 else some (.tuple [])).bind fun t132=>
(qa1 false t132).bind fun g133=>(bif g133 then some v12 else some (.tuple [])).bind fun t133=>
(qa1 false t132).bind fun g134=>(bif g134 then some v10 else some (.tuple [])).bind fun t134=>
(qa1 false t132).bind fun g135=>(bif g135 then ixP 2 t134 (.int .i64 0)else some (.tuple [])).bind fun t135=>
(qa1 false t132).bind fun g136=>(bif g136 then ixA 2 1 false 1 t135 (.int .i64 0)else some (.tuple [])).bind fun t136=>
(qa1 false t132).bind fun g137=>(bif g137 then ld1 t136 p129.2 else some (.tuple [],p129.2)).bind fun p137=>
(qa1 false t132).bind fun g138=>(bif g138 then qa4 E0 .eql 3 false false t133 p137.1 else some (.tuple [])).bind fun t138=>
(qa1 false t132).bind fun g139=>(bif g139 then some t138 else some (.tuple [])).bind fun t139=>
(qa1 true t139).bind fun g140=>(bif g140 then some v13 else some (.tuple [])).bind fun t140=>
(qa1 true t139).bind fun g141=>(bif g141 then some v10 else some (.tuple [])).bind fun t141=>
(qa1 true t139).bind fun g142=>(bif g142 then ixP 2 t141 (.int .i64 0)else some (.tuple [])).bind fun t142=>
(qa1 true t139).bind fun g143=>(bif g143 then ixA 2 1 false 1 t142 (.int .i64 1)else some (.tuple [])).bind fun t143=>
(qa1 true t139).bind fun g144=>(bif g144 then ld1 t143 p137.2 else some (.tuple [],p137.2)).bind fun p144=>
(qa1 true t139).bind fun g145=>(bif g145 then qa4 E0 .gtr 3 false false t140 p144.1 else some (.tuple [])).bind fun t145=>
(qa1 false t132).bind fun g146=>(bif g146 then qah t139 (some t145) (some (.bool false))else some (.tuple [])).bind fun t146=>
(qa1 true t90).bind fun g147=>(bif g147 then qah t132 (some (.bool true)) (some t146)else some (.tuple [])).bind fun t147=>
(qah t90 (some t147) (some (.bool false))).bind fun t148=>
ifK t148 (
some (.ret (.bool false),p144.2)) (
(qa1 true v11).bind fun g152=>(bif g152 then some v12 else some (.tuple [])).bind fun t152=>
(qa1 true v11).bind fun g153=>(bif g153 then some v10 else some (.tuple [])).bind fun t153=>
(qa1 true v11).bind fun g154=>(bif g154 then ixP 2 t153 (.int .i64 0)else some (.tuple [])).bind fun t154=>
(qa1 true v11).bind fun g155=>(bif g155 then ixA 2 1 false 1 t154 (.int .i64 0)else some (.tuple [])).bind fun t155=>
(qa1 true v11).bind fun g156=>(bif g156 then ld1 t155 p144.2 else some (.tuple [],p144.2)).bind fun p156=>
(qa1 true v11).bind fun g157=>(bif g157 then qa4 E0 .eql 3 false false t152 p156.1 else some (.tuple [])).bind fun t157=>
(qah v11 (some t157) (some (.bool false))).bind fun t158=>
(qa1 true t158).bind fun g160=>(bif g160 then some v13 else some (.tuple [])).bind fun t160=>
(qa1 true t158).bind fun g161=>(bif g161 then some v10 else some (.tuple [])).bind fun t161=>
(qa1 true t158).bind fun g162=>(bif g162 then ixP 2 t161 (.int .i64 0)else some (.tuple [])).bind fun t162=>
(qa1 true t158).bind fun g163=>(bif g163 then ixA 2 1 false 1 t162 (.int .i64 1)else some (.tuple [])).bind fun t163=>
(qa1 true t158).bind fun g164=>(bif g164 then ld1 t163 p156.2 else some (.tuple [],p156.2)).bind fun p164=>
(qa1 true t158).bind fun g165=>(bif g165 then qa4 E0 .eql 3 false false t160 p164.1 else some (.tuple [])).bind fun t165=>
(qah t158 (some t165) (some (.bool false))).bind fun t166=>
(qa1 true t166).bind fun g168=>(bif g168 then some t90 else some (.tuple [])).bind fun t168=>
(qa1 true t166).bind fun g169=>(bif g169 then unV .not t168 else some (.tuple [])).bind fun t169=>
(qah t166 (some t169) (some (.bool false))).bind fun t170=>
ifK t170 (
some (.ret (.bool false),p164.2)) (
(qa4 E0 .add 3 false true v13 (.int .i64 1)).bind fun t173=>
qk4 self N nk ek n v1 v8 v10 v11 v12 t173 p164.2)))) (
ek 4 (fr 182 [(1,v1),(8,v8),(10,v10),(11,v11),(12,v12)]) p80.2):=by kernel_rfl
theorem L4_66_eq (self:EV) (N:Nat) (nk:Ac->St->Rs) (ek:Nat->Ac->St->Rs) (n:Nat) ( v1 v8 v10 v11 v12:V) (S:St):L4_66 self N nk ek (n+1) v1 v8 v10 v11 v12 S =
(qbu v1 S).bind fun p69=>
(qa4 E0 .leq 3 false false v12 p69.1).bind fun t70=>
ifK t70 (
qk4 self N (R4_71 self N (N4_66 self N nk ek n) ek) (exB 4 (R4_71 self N (N4_66 self N nk ek n) ek) (exB 3 (R4_71 self N (N4_66 self N nk ek n) ek) ek)) N v1 v8 v10 v11 v12 v12 p69.2) (
ek 2 (fr 182 []) p69.2):=by kernel_rfl
theorem N4_66_eq (self:EV) (N:Nat) (nk:Ac->St->Rs) (ek:Nat->Ac->St->Rs) (n:Nat) ( v1 v8 v10 v11 v12:V) (S:St):N4_66 self N nk ek n (fr 182 [(1,v1),(8,v8),(10,v10),(11,v11),(12,v12)]) S=L4_66 self N nk ek n v1 v8 v10 v11 v12 S:=by kernel_rfl
theorem R4_13_eq (self:EV) (N:Nat) (nk:Ac->St->Rs) (ek:Nat->Ac->St->Rs) ( v0 v1:V) (S:St):R4_13 self N nk ek (fr 182 [(0,v0),(1,v1)]) S =
qad (self.f 6 [v0] S) fun t15 S15=>
(qaj t15 0).bind fun t17=>
(qaj t15 1).bind fun t18=>
(qa4 E0 .add 9 true false (sv [94,92,40]) v0).bind fun t22=>
(qa4 E0 .add 9 false true t22 (sv [92,41,36])).bind fun t23=>
qad (self.f 6 [t23] S15) fun t24 S24=>
(qaj t24 0).bind fun t26=>
(qaj t24 1).bind fun t27=>
(qa4 E0 .neq 23 false true t18 (.int .i64 0)).bind fun t31=>
(qa1 false t31).bind fun g33=>(bif g33 then some t27 else some (.tuple [])).bind fun t33=>
(qa1 false t31).bind fun g34=>(bif g34 then qa4 E0 .neq 23 false true t33 (.int .i64 0)else some (.tuple [])).bind fun t34=>
(qah t31 (some (.bool true)) (some t34)).bind fun t35=>
(qa1 false t35).bind fun g37=>(bif g37 then some t17 else some (.tuple [])).bind fun t37=>
(qa1 false t35).bind fun g38=>(bif g38 then qa4 E0 .eql 22 false true t37 .nilptr else some (.tuple [])).bind fun t38=>
(qah t35 (some (.bool true)) (some t38)).bind fun t39=>
(qa1 false t39).bind fun g41=>(bif g41 then some t26 else some (.tuple [])).bind fun t41=>
(qa1 false t39).bind fun g42=>(bif g42 then qa4 E0 .eql 22 false true t41 .nilptr else some (.tuple [])).bind fun t42=>
(qah t39 (some (.bool true)) (some t42)).bind fun t43=>
ifK t43 (
(qa4 E0 .eql 22 false true t17 .nilptr).bind fun t45=>
(qa1 false t45).bind fun g47=>(bif g47 then some t26 else some (.tuple [])).bind fun t47=>
(qa1 false t45).bind fun g48=>(bif g48 then qa4 E0 .eql 22 false true t47 .nilptr else some (.tuple [])).bind fun t48=>
(qah t45 (some (.bool true)) (some t48)).bind fun t49=>
(qa1 true t49).bind fun g51=>qad (bif g51 then self.f 9 [] S24 else some (.ret (.tuple []),S24)) fun t51 S51=>
(qah t49 (some t51) (some (.bool false))).bind fun t52=>
some (.ret t52,S51)) (
qad (self.f 8 [t17,v1,(.int .i64 0)] S24) fun t56 S56=>
(qaj t56 0).bind fun t58=>
(qaj t56 1).bind fun t59=>
L4_66 self N (R4_62 self N (fun a s=>qa6 [4] a fun a=>nk a s) ek) (exB 2 (R4_62 self N (fun a s=>qa6 [4] a fun a=>nk a s) ek) ek) N v1 t26 t58 t59 (.int .i64 0) S56):=by kernel_rfl
noncomputable def L4_176 (self:EV) (N:Nat) (nk:Ac->St->Rs) (ek:Nat->Ac->St->Rs) (n:Nat) ( v0 v1 v5:V) (S:St):Rs:=qc8 [0,1,5] (dr E0 self RL4 N (B4.r.r.r.l.r.l.l)) (mkK E0 self Try.f4 nk ek) n (fr 182 [(0,v0),(1,v1),(5,v5)]) S
theorem L4_176_eq (self:EV) (N:Nat) (nk:Ac->St->Rs) (ek:Nat->Ac->St->Rs) (n:Nat) ( v0 v1 v5:V) (S:St):L4_176 self N nk ek (n+1) v0 v1 v5 S =
(qbu v0 S).bind fun p179=>
(qa4 E0 .lss 3 false false v5 p179.1).bind fun t180=>
ifK t180 (
(ixS v0 v5).bind fun t183=>
(qa4 E0 .eql 5 false true t183 (.int .u8 94)).bind fun t184=>
(qa1 false t184).bind fun g186=>(bif g186 then some v0 else some (.tuple [])).bind fun t186=>
(qa1 false t184).bind fun g187=>(bif g187 then some v5 else some (.tuple [])).bind fun t187=>
(qa1 false t184).bind fun g188=>(bif g188 then ixS t186 t187 else some (.tuple [])).bind fun t188=>
(qa1 false t184).bind fun g189=>(bif g189 then qa4 E0 .eql 5 false true t188 (.int .u8 36)else some (.tuple [])).bind fun t189=>
(qah t184 (some (.bool true)) (some t189)).bind fun t190=>
ifK t190 (
qad (self.f 9 [] p179.2) fun t191 S191=>
some (.ret t191,S191)) (
(qa4 E0 .add 3 false true v5 (.int .i64 1)).bind fun t194=>
L4_176 self N nk ek n v0 v1 t194 p179.2)) (
ek 0 (fr 182 [(0,v0),(1,v1)]) p179.2):=by kernel_rfl
noncomputable def F4 (self:EV) (N:Nat) (x0 x1:V) (S:St):Rs:=qj3 E0 self N Try.f4 B4 [x0,x1] S
theorem F4_eq (self:EV) (N:Nat) (x0 x1:V) (S:St):F4 self N x0 x1 S =
(qbu x0 S).bind fun p3=>
(foldK minV p3.1 [(.int .i64 30)] p3.2).bind fun p4=>
(qbj E0 9 x0 none (some p4.1) none p4.2).bind fun p5=>
(qbu x1 p5.2).bind fun p9=>
(foldK minV p9.1 [(.int .i64 30)] p9.2).bind fun p10=>
(qbj E0 9 x1 none (some p10.1) none p10.2).bind fun p11=>
L4_176 self N (R4_13 self N (qbg E0 self Try.f4) qav) (exB 0 (R4_13 self N (qbg E0 self Try.f4) qav) qav) N p5.1 p11.1 (.int .i64 0) p11.2:=by kernel_rfl
end
end Go.Proofs.Ytachpdpmoihjmaa.W
namespace Go.Proofs.Ytachpdpmoihjmaa.W
open Go.Proofs.Ytachpdpmoihjmaa.Ev
structure Rws (ts:List (Tr V)) (L:List AS):Prop where
 len:ts.length=L.length
 at_:∀(i:Nat) (t:Tr V) (a:AS),ts[i]?=some t->L[i]?=some a->Stp t a.p (a.kind:Int) (a.to_:Int)
theorem Rws.nil:Rws [] []:=⟨rfl,fun i t a h=>by simp at h⟩
theorem Rws.get {ts:List (Tr V)} {L:List AS} (h:Rws ts L) {i:Nat} (hi:i<L.length):∃t,ts[i]?=some t/\Stp t L[i].p (L[i].kind:Int) (L[i].to_:Int):=by
 have hl:=h.len;have h1:i<ts.length:=by omega
 exact⟨ts[i],List.getElem?_eq_getElem h1,h.at_ i _ _ (List.getElem?_eq_getElem h1) (List.getElem?_eq_getElem hi)⟩
theorem Rws.add {ts:List (Tr V)} {L:List AS} (h:Rws ts L) {t:Tr V} {a:AS} (ht:Stp t a.p (a.kind:Int) (a.to_:Int)):Rws (ts++[t]) (L++[a]):=by
 have hl:=h.len;refine⟨by simp[hl],fun i u c h1 h2=>?_⟩;by_cases hi:i<ts.length
 . rw[List.getElem?_append_left hi]at h1
   rw[List.getElem?_append_left (by omega)]at h2;exact h.at_ i u c h1 h2
 . rw[List.getElem?_append_right (by omega)]at h1
   rw[List.getElem?_append_right (by omega)]at h2
   have h0:i-ts.length=0:=by
    rcases Nat.lt_or_ge (i-ts.length) 1 with h'|h'
    . omega
    . rw[List.getElem?_eq_none (by simpa using h')]at h1; cases h1
   rw[h0]at h1;rw[show i-L.length=0 by omega]at h2;simp only[List.getElem?_cons_zero,oS]at h1 h2;rw[<- h1,<- h2]; exact ht
theorem Rws.set {ts:List (Tr V)} {L:List AS} (h:Rws ts L) (k:Nat) {t:Tr V} {a:AS} (ht:Stp t a.p (a.kind:Int) (a.to_:Int)):Rws (ts.set k t) (L.set k a):=by
 have hl:=h.len;refine⟨by rw[List.length_set,List.length_set,hl],fun i u c h1 h2=>?_⟩;rw[List.getElem?_set]at h1 h2;by_cases e:k=i
 . subst e
   rw[iP rfl]at h1 h2;split at h1
   . rw[iP (by omega)]at h2
     simp only[oS]at h1 h2;rw[<- h1,<- h2]; exact ht
   . cases h1
 . rw[iN e]at h1 h2
   exact h.at_ i u c h1 h2
theorem Rws.take {ts:List (Tr V)} {L:List AS} (h:Rws ts L) (k:Nat):Rws (ts.take k) (L.take k):=by
 refine⟨by rw[List.length_take,List.length_take,h.len],fun i u c h1 h2=>?_⟩;rw[List.getElem?_take]at h1 h2;split at h1
 . rename_i hi
   rw[iP hi]at h2;exact h.at_ i u c h1 h2
 . cases h1
theorem Rws.drop {ts:List (Tr V)} {L:List AS} (h:Rws ts L) (k:Nat):Rws (ts.drop k) (L.drop k):=by
 refine⟨by rw[List.length_drop,List.length_drop,h.len],fun i u c h1 h2=>?_⟩;rw[List.getElem?_drop]at h1 h2;exact h.at_ _ u c h1 h2
theorem Rws.app {ts us:List (Tr V)} {L M:List AS} (h:Rws ts L) (h':Rws us M):Rws (ts++us) (L++M):=by
 have hl:=h.len;refine⟨by rw[lAq,lAq,h.len,h'.len],fun i u c h1 h2=>?_⟩;by_cases hi:i<ts.length
 . rw[List.getElem?_append_left hi]at h1
   rw[List.getElem?_append_left (by omega)]at h2;exact h.at_ i u c h1 h2
 . rw[List.getElem?_append_right (by omega)]at h1
   rw[List.getElem?_append_right (by omega),<- hl]at h2;exact h'.at_ _ u c h1 h2
def Rd (S:St) (b N0:Nat) (s:List UInt8) (d:Nat) (st:PS):Prop:=∃lv ts,Rdr st.g d S b N0 s st.i st.fi lv ts/\Rws ts st.acc
theorem stp_k {k:Int} (h1:(List.range 256).all (fun i=>isF ((TK k).get i))=true) (h2:(TK k).get 256=some (.int .i64 k)) (h3:(TK k).get 257=some (.int .i64 0)):Stp (TK k) (fun _=>false) k 0:=
 ⟨fun c=>isF_eq (List.all_eq_true.1 h1 c.toNat (List.mem_range.2 c.toNat_lt)),h2,h3⟩
theorem stp_1:Stp (TK 1) (fun _=>false) 1 0:=stp_k (by kernel_rfl) (by kernel_rfl) (by kernel_rfl)
theorem stp_2:Stp (TK 2) (fun _=>false) 2 0:=stp_k (by kernel_rfl) (by kernel_rfl) (by kernel_rfl)
theorem stp_3:Stp (TK 3) (fun _=>false) 3 0:=stp_k (by kernel_rfl) (by kernel_rfl) (by kernel_rfl)
theorem stp_4:Stp (TK 4) (fun _=>false) 4 0:=stp_k (by kernel_rfl) (by kernel_rfl) (by kernel_rfl)
theorem stp_5:Stp (TK 5) (fun _=>false) 5 0:=stp_k (by kernel_rfl) (by kernel_rfl) (by kernel_rfl)
theorem stp_6:Stp (TK 6) (fun _=>false) 6 0:=stp_k (by kernel_rfl) (by kernel_rfl) (by kernel_rfl)
theorem Stp.to {t:Tr V} {p:UInt8->Bool} {k z:Int} (h:Stp t p k z) (z':Int):Stp (t.set (.int .i64 z') 257) p k z':=by
 refine⟨fun x=>?_,?_,?_⟩
 . have:=x.toNat_lt
   rw[Tr.get_set,iN (by omega)]; exact h.has x
 . rw[Tr.get_set,iN (by omega)]; exact h.kind
 . rw[Tr.get_set,iP rfl]
theorem build_1:qau E0 50 [(1,.int .i64 1)]=some (.agg 258 (TK 1)):=by kernel_rfl
theorem build_2:qau E0 50 [(1,.int .i64 2)]=some (.agg 258 (TK 2)):=by kernel_rfl
theorem build_3 (z:Int):qau E0 50 [(1,.int .i64 3),(2,.int .i64 z)]=some (.agg 258 ((TK 3).set (.int .i64 z) 257)):=by kernel_rfl
theorem build_4 (z:Int):qau E0 50 [(1,.int .i64 4),(2,.int .i64 z)]=some (.agg 258 ((TK 4).set (.int .i64 z) 257)):=by kernel_rfl
theorem build_5 (z:Int):qau E0 50 [(1,.int .i64 5),(2,.int .i64 z)]=some (.agg 258 ((TK 5).set (.int .i64 z) 257)):=by kernel_rfl
noncomputable def TZ:Tr V:=match qau E0 50 []with|some (.agg _ t)=>t|_=>.nil
theorem build_no:qau E0 50 []=some (.agg 258 TZ):=by kernel_rfl
theorem stp_Z:Stp TZ (fun _=>false) 0 0:=
 ⟨fun c=>isF_eq (List.all_eq_true.1 (show(List.range 256).all (fun i=>isF (TZ.get i))=true by kernel_rfl) c.toNat (List.mem_range.2 c.toNat_lt)),by kernel_rfl,by kernel_rfl⟩
section
variable {S:St}
theorem qbl (ho:S.on=false) {b i:Nat} {v:V} (h:ld1 (.ptr b i) S=some (v,S)) (l:List LE):ld1 (.ptr b i) (S.lg l)=some (v,S.lg (⟨b,i,i+1,false⟩::l)):=by
 have h':ld S b i=some (v,S):=h;show ld (S.lg l) b i=_;unfold ld at h' ⊢;rw[show(S.lg l).heap=S.heap from rfl];split at h'
 . rename_i e esz n ro c hb
   cases hc:(Nat.blt i (esz*n)&&Nat.blt (esz*n) big)with
   | false=>rw[hc]at h'; cases h'
   | true=>
    rw[hc]at h';simp only[cT,oI,oS,pM]at h' ⊢;obtain⟨t,h1,w,h2,rfl,_⟩:=h';exact⟨t,h1,w,h2,rfl,rfl⟩
 . cases h'
theorem qih (r n k:Nat) (h:k<n):ixP 258 (.oslice r 0 n 258) (.int .i64 (k:Int))=some (.ptr r (k*258)):=by
 have h0:ixP 258 (.oslice r 0 n 258) (.int .i64 (k:Int))=bif Nat.blt k n then some (.ptr r (0+k*258))else none:=rfl;rw[h0,blt_true.2 h,cT,Nat.zero_add]
theorem row_ld {r e:Nat} {l:List (Tr V)} (ho:S.on=false) (h:RowAt S r e 258 l) {k j:Nat} {u:Tr V} {v:V} (hk:l[k]?=some u) (hj:j<258) (hv:u.get j=some v):ld1 (.ptr r (k*258+j)) S=some (v,S):=by
 obtain⟨c,h1,h2⟩:=h.row;have hlt:=(List.getElem?_eq_some_iff.1 hk).1;have hfit:=h.fit;show ld S r (k*258+j)=_;unfold ld;rw[h1];simp only
 rw[blt_true.2 (show k*258+j<258*l.length by
  have:(k+1)*258<=l.length*258:=Nat.mul_le_mul_right _ hlt
  omega),blt_true.2 hfit,Bool.and_self,cT,show(k*258+j)/258=k by omega,show(k*258+j)%258=j by omega,h2 k u hk,oB,hv,oB,qb6 ho]
theorem row_st {r e:Nat} {l:List (Tr V)} (ho:S.on=false) (h:RowAt S r e 258 l) {k j:Nat} {u:Tr V} (hk:l[k]?=some u) (hj:j<258) (k1:IntKind) (z:Int):∃T,stP 1 (.ptr r (k*258+j)) (.int k1 z) S=some (.tuple [],T)/\RowAt T r e 258 (l.set k (u.set (.int k1 z) j))/\Grew (fun x=>x=r) S T/\T.next=S.next:=by
 obtain⟨c,h1,h2⟩:=h.row;have hlt:=(List.getElem?_eq_some_iff.1 hk).1;have hfit:=h.fit
 have hle:k*258+j+1<=258*l.length:=by
  have:(k+1)*258<=l.length*258:=Nat.mul_le_mul_right _ hlt;omega
 refine⟨S.put r (.cells e 258 l.length false (c.set (u.set (.int k1 z) j) k)),?_,⟨h.pos,by rw[List.length_set]; exact h.fit,c.set (u.set (.int k1 z) j) k,by rw[qe9,iP rfl,List.length_set],fun i t hi=>?_⟩,qbz r _,rfl⟩
 . show vu (bif Nat.beq 1 1&&!false then stK S r (k*258+j) 1 (Ev.one (.int k1 z))else none)=_
   rw[show(Nat.beq 1 1&&!false)=true from rfl,cT]
   have:stK S r (k*258+j) 1 (Ev.one (.int k1 z))=some (S.put r (.cells e 258 l.length false (c.set (u.set (.int k1 z) j) k))):=by
    unfold stK;rw[h1];simp only[ble_true.2 hle,blt_true.2 hfit,Bool.and_self,nF,cT];unfold qfn;rw[show Nat.beq 1 258=false from rfl];have hv0:(Ev.one (V.int k1 z)).get 0=some (.int k1 z):=rfl;simp only[Bool.false_and,cF,qfa,hv0,oB,Nat.add_zero,show(k*258+j)/258=k by omega,show(k*258+j)%258=j by omega,h2 k u hk,Tr.setC_eq,qb6 ho]
   rw[this]; rfl
 . rw[Tr.get_set]
   rw[List.getElem?_set]at hi;by_cases e:k=i
   . subst e
     rw[iP rfl,iP hlt,oS]at hi;rw[iP rfl,hi]
   . rw[iN e]at hi
     rw[iN (fun e'=>e e'.symm)];exact h2 i t hi
theorem slice_row (ho:S.on=false) {r:Nat} {l:List (Tr V)} (h:RowAt S r 50 258 l) {k:Nat} (hk:k<l.length) (ls:List LE):∃ls',qbj E0 40 (.oslice r 0 l.length 258) (some (.int .i64 (k:Int))) none none (S.lg ls)=some (.oslice r (k*258) (l.length-k) 258,S.lg ls')/\(ls.all (fun e=>!e.w)=true->ls'.all (fun e=>!e.w)=true):=by
 obtain⟨c,h1,h2⟩:=h.row;have hfit:=h.fit;refine⟨⟨r,big-1,big,false⟩::ls,?_,fun hh=>by rw[List.all_cons,hh]; rfl⟩;unfold qbj;rw[show und E0 40=some (.slice 50) by kernel_rfl,oB];show(qay E0 50).bind _=_;rw[show qay E0 50=some 258 by kernel_rfl,oB];dsimp only;rw[show(Nat.beq 258 258&&Nat.blt 0 258)=true from rfl,cT]
 have hsz:sizeB (S.lg ls) r=some (258*l.length,S.lg (⟨r,big-1,big,false⟩::ls)):=by
  unfold sizeB;rw[show(S.lg ls).heap.get r=_ from h1];simp only;rw[blt_true.2 hfit,cT]; rfl
 rw[hsz,oB];dsimp only;rw[Nat.sub_zero,Nat.mul_div_cancel_left _ (by decide),qi5 .i64 (by omega),oB];dsimp only;rw[blt_true.2 hk,cT,Nat.zero_add]
theorem copy_row (ho:S.on=false) {r:Nat} {l:List (Tr V)} (h:RowAt S r 50 258 l) {k:Nat} (hk:k+1<l.length):∃T,cpP 258 (.oslice r ((k+1)*258) (l.length-(k+1)) 258) (.oslice r (k*258) (l.length-k) 258) S=some (.int .i64 ((l.length-(k+1):Nat):Int),T)/\RowAt T r 50 258 (l.take (k+1)++(l.drop k).take (l.length-(k+1)))/\Grew (fun x=>x=r) S T/\T.next=S.next:=by
 have hld:=h.ldN ho (l.length-(k+1)) k (by omega);have hlen:((l.drop k).take (l.length-(k+1))).length=l.length-(k+1):=by rw[List.length_take,List.length_drop]; omega
 obtain⟨T,a1,a2,a3,a4⟩:=RowAt.stN ((l.drop k).take (l.length-(k+1))) ho h (k+1) (by rw[hlen]; omega);rw[hlen,List.drop_eq_nil_of_le (show l.length<=k+1+(l.length-(k+1)) by omega),List.append_nil]at a2;refine⟨T,?_,a2,a3,a4⟩;unfold cpP qev;simp only[qh3,qc7,oB];have hmin:Nat.min (l.length-k) (l.length-(k+1))=l.length-(k+1):=Nat.min_eq_right (by omega);rw[hmin,hld,oB];dsimp only;rw[a1]; rfl
theorem copy_lg (ho:S.on=false) {z b off len e1 b2 off2 len2 e2:Nat} {v:V} {T:St} (h:cpP z (.oslice b off len e1) (.oslice b2 off2 len2 e2) S=some (v,T)) (l:List LE) :
 T.on=false/\∃l',cpP z (.oslice b off len e1) (.oslice b2 off2 len2 e2) (S.lg l)=some (v,T.lg l'):=by
 unfold cpP qev at h;simp only[qh3,qc7,oB,oI,oS,pM]at h;obtain⟨⟨ts,s1⟩,h1,s2,h2,rfl,rfl⟩:=h;obtain⟨e1,l1,h3⟩:=ldN_lg ho b2 z (Nat.min len2 len) off2 h1 l;simp only at h2;rw[e1]at h2;obtain⟨o2,l2,h4⟩:=stN_lg b z ts off ho h2 l1;refine⟨o2,l2,?_⟩;unfold cpP qev;simp only[qh3,qc7,oB];rw[h3];simp only[oB];rw[h4];rfl
end
section
variable {gr dp:Nat} {S:St} {b N0 i:Nat} {s:List UInt8} {f:Bool} {lv:V} {ts:List (Tr V)}
theorem Rdr.get (h:Rdr gr dp S b N0 s i f lv ts) (hne:ts≠[]):∃r,lv=.oslice r 0 ts.length 258/\RowAt S r 50 258 ts/\N0<=r/\r<S.next/\r≠b:=by
 rcases h.steps with⟨h1,_⟩|⟨_,r,h2,h3,h4,h5⟩
 . exact absurd h1 hne
 . exact⟨r,h2,h3,h4,h5,ql8 h.bx h3⟩
theorem Rdr.put {r n:Nat} (h:Rdr gr dp S b N0 s i f (.oslice r 0 n 258) ts) {us:List (Tr V)} (hne:us≠[]) (hl:us.length=n) (hrb:r≠b) (hr0:N0<=r) (hrn:r<S.next) {T:St} (hr:RowAt T r 50 258 us) (g:Grew (fun x=>x=r) S T):Rdr gr dp T b N0 s i f (.oslice r 0 n 258) us:=
 ⟨g.on.trans h.on,h.lo,Nat.lt_of_lt_of_le h.hi g.next,h.bx.grew h.hi (fun e=>hrb e.symm) g,.inr ⟨hne,r,by rw[hl],hr,hr0,Nat.lt_of_lt_of_le hrn g.next⟩⟩
theorem take_set_succ {α:Type} (L:List α) (i:Nat) (x:α) (h:i<L.length):(L.set i x).take (i+1)=L.take i++[x]:=by
 rw[List.take_succ_eq_append_getElem (by rw[List.length_set]; exact h),List.getElem_set_self,List.take_set_of_le (lR _)]
theorem L19_spec (self:EV) (N:Nat) (nk:Ac->St->Rs) (ek:Nat->Ac->St->Rs) (v1:V) {r n:Nat} (hr0:N0<=r) (hrb:r≠b) (hn:n<=4000) :
 ∀(d j k:Nat) (ts:List (Tr V)) (L:List AS) (S:St),Rdr gr dp S b N0 s i f (.oslice r 0 n 258) ts->ts≠[]->ts.length=n->RowAt S r 50 258 ts->r<S.next->Rws ts L->j+d=n->(∀x∈L.drop j,x.kind=3\/x.kind=4->x.to_<=9000)->d<k->
 ∃T us,qks self N nk ek k (.ptr b 0) v1 (.int .i64 (j:Int)) S=ek 0 (fr 83 [(0,.ptr b 0),(1,v1)]) T/\Rdr gr dp T b N0 s i f (.oslice r 0 n 258) us/\us≠[]/\us.length=n/\RowAt T r 50 258 us/\Rws us (L.take j++(L.drop j).map upA)/\Grew (fun x=>x=r) S T
 | d,j,0,ts,L,S,_,_,_,_,_,_,_,_,hk=>by omega
 | 0,j,k+1,ts,L,S,h,hne,hl,hr,hrn,hR,hj,_,hk=>by
  have hLl:=hR.len;refine⟨S,ts,?_,h,hne,hl,hr,?_,Grew.refl _ _⟩
  . rw[L19_45_eq]
    simp only[qg8,qcn,Nat.zero_add,oB,Nat.add_zero];rw[h.l0,oB];dsimp only;rw[lnS_oslice,oB];dsimp only;rw[binV_ii,intsV_lss,qed (by omega),oB,ifK_bool,cF]
  . rw[List.take_of_length_le (by omega),List.drop_eq_nil_of_le (by omega)]
    simpa using hR
 | d+1,j,k+1,ts,L,S,h,hne,hl,hr,hrn,hR,hj,hto,hk=>by
  have ho:=h.on;have hLl:=hR.len;have hjL:j<L.length:=by omega
  obtain⟨t,ht1,ht2⟩:=hR.get hjL;have hdrop:=List.drop_eq_getElem_cons hjL;have hq:=hto L[j] (by rw[hdrop]; exact List.mem_cons_self ..);have ixj:=qih r n j (by omega);have rk:=row_ld ho hr ht1 (j:=256) (by omega) ht2.kind;have rt:=row_ld ho hr ht1 (j:=257) (by omega) ht2.to_;rw[L19_45_eq];simp only[qg8,qcn,Nat.zero_add,oB,Nat.add_zero];rw[h.l0,oB];dsimp only;rw[lnS_oslice,oB];dsimp only;rw[binV_ii,intsV_lss,qee (by omega),oB,ifK_bool,cT,h.l0,oB];dsimp only;rw[ixj,oB,qcn,oB,rk,oB];dsimp only;have hnext:=qa5 (i:=j) (by omega)
  have yes:L[j].kind=3\/L[j].kind=4->∃T us,((ld1 (.ptr b 0) S).bind fun p74=>
(ixP 258 p74.1 (.int .i64 (j:Int))).bind fun t76=>
(faP 257 false 1 t76).bind fun t77=>
(ld1 t77 p74.2).bind fun p78=>
(qa4 E0 .add 3 false true p78.1 (.int .i64 1)).bind fun t79=>
(ixP 258 p74.1 (.int .i64 (j:Int))).bind fun t80=>
(faP 257 false 1 t80).bind fun t81=>
(stP 1 t81 t79 p78.2).bind fun p82=>
(qa4 E0 .add 3 false true (.int .i64 (j:Int)) (.int .i64 1)).bind fun t84=>
qks self N nk ek k (.ptr b 0) v1 t84 p82.2)=ek 0 (fr 83 [(0,.ptr b 0),(1,v1)]) T/\Rdr gr dp T b N0 s i f (.oslice r 0 n 258) us/\us≠[]/\us.length=n/\RowAt T r 50 258 us/\Rws us (L.take j++(L.drop j).map upA)/\Grew (fun x=>x=r) S T:=fun hk34=>by
   obtain⟨S1,a1,a2,a3,a4⟩:=row_st ho hr ht1 (j:=257) (by omega) .i64 ((L[j].to_:Int)+1);have hup:upA L[j]=⟨L[j].p,L[j].kind,L[j].to_+1⟩:=by unfold upA; rw[iP hk34]
   have hR1:Rws (ts.set j (t.set (.int .i64 ((L[j].to_:Int)+1)) 257)) (L.set j (upA L[j])):=hR.set j (by
    rw[hup];have:=ht2.to ((L[j].to_:Int)+1);rw[show(L[j].to_:Int)+1=((L[j].to_+1:Nat):Int) by omega]at this ⊢
    exact this)
   have hne1:ts.set j (t.set (.int .i64 ((L[j].to_:Int)+1)) 257)≠[]:=fun e=>by
    have:=congrArg List.length e;rw[List.length_set,List.length_nil]at this;omega
   have hl1:(ts.set j (t.set (.int .i64 ((L[j].to_:Int)+1)) 257)).length=n:=by rw[List.length_set]; exact hl
   obtain⟨T,us,b1,b2,b3,b4,b5,b6,b7⟩:=L19_spec self N nk ek v1 hr0 hrb hn d (j+1) k _ _ S1 (h.put hne1 hl1 hrb hr0 hrn a2 a3) hne1 hl1 a2 (by omega) hR1 (by omega) (fun x hx=>by
    rw[List.drop_set_of_lt (Nat.lt_succ_self j)]at hx
    exact hto x (by rw[hdrop]; exact mO _ hx)) (by omega)
   refine⟨T,us,?_,b2,b3,b4,b5,?_,a3.trans b7⟩
   . rw[h.l0,oB]
     dsimp only;rw[ixj,oB,qcn,oB,rt,oB];dsimp only;rw[binV_ii,intsV_add,qap (by have:=hq hk34; omega) (by have:=hq hk34; omega),oB,oB,qcn,oB,a1,oB];dsimp only;rw[binV_ii,intsV_add,hnext,oB];exact b1
   . rw[take_set_succ L j _ hjL,List.drop_set_of_lt (Nat.lt_succ_self j)]at b6
     rw[hdrop,List.map_cons];rw[List.append_assoc]at b6;exact b6
  have no:¬(L[j].kind=3\/L[j].kind=4)->∃T us,((qa4 E0 .add 3 false true (.int .i64 (j:Int)) (.int .i64 1)).bind fun t87=>
qks self N nk ek k (.ptr b 0) v1 t87 S)=ek 0 (fr 83 [(0,.ptr b 0),(1,v1)]) T/\Rdr gr dp T b N0 s i f (.oslice r 0 n 258) us/\us≠[]/\us.length=n/\RowAt T r 50 258 us/\Rws us (L.take j++(L.drop j).map upA)/\Grew (fun x=>x=r) S T:=fun hk34=>by
   have hup:upA L[j]=L[j]:=by unfold upA; rw[iN hk34]
   obtain⟨T,us,b1,b2,b3,b4,b5,b6,b7⟩:=L19_spec self N nk ek v1 hr0 hrb hn d (j+1) k ts L S h hne hl hr hrn hR (by omega) (fun x hx=>hto x (by rw[hdrop]; exact mO _ hx)) (by omega);refine⟨T,us,?_,b2,b3,b4,b5,?_,b7⟩
   . rw[binV_ii,intsV_add,hnext,oB]
     exact b1
   . rw[hdrop,List.map_cons,hup]
     rw[List.take_succ_eq_append_getElem hjL,List.append_assoc]at b6;exact b6
  rw[binV_ii,intsV_eql,oB];by_cases h3:L[j].kind=3
  . rw[show decide ((L[j].kind:Int)=3)=true by rw[decide_eq_true_eq]; omega]
    simp only[qaq,oB,Bool.not_true,cF,pickV_bool,cT,ifK_bool];exact yes (.inl h3)
  . rw[show decide ((L[j].kind:Int)=3)=false by rw[decide_eq_false_iff_not]; omega]
    simp only[qaq,oB,nF,cT,pickV_bool,cF,binV_ii,intsV_eql,ifK_bool];by_cases h4:L[j].kind=4
    . rw[show decide ((L[j].kind:Int)=4)=true by rw[decide_eq_true_eq]; omega,cT]
      exact yes (.inr h4)
    . rw[show decide ((L[j].kind:Int)=4)=false by rw[decide_eq_false_iff_not]; omega,cF]
      have:=no (by omega);rw[binV_ii]at this;exact this
theorem stP_agg (z b off:Nat) (t:Tr V) (S:St):stP z (.ptr b off) (.agg z t) S=vu (stK S b off z t):=by
 show vu (bif Nat.beq z z&&!false then stK S b off z t else none)=_;rw[show Nat.beq z z=true from beq_true.2 rfl]; rfl
theorem vu_some (S:St):vu (some S)=some (.tuple [],S):=rfl
theorem fin19 (self:EV) (T:St):qbg E0 self Try.f19 (fr 83 []) T=some (.ret (.tuple []),T):=by kernel_rfl
theorem agn_row {acc:List AS} {z:AS} {k:Nat} (hk:k<acc.length):((((acc++[z]).take (k+1)++((acc++[z]).drop k).take ((acc++[z]).length-(k+1))).take (k+1)++(((acc++[z]).take (k+1)++((acc++[z]).drop k).take ((acc++[z]).length-(k+1))).drop (k+1)).map upA).set k (stA 3 (acc.length+2)))++[stA 4 k]=agn acc k:=by
 have h1:((acc++[z]).take (k+1)).length=k+1:=by rw[List.length_take,lAq,List.length_singleton]; omega
 have h2:((acc++[z]).drop k).take ((acc++[z]).length-(k+1))=acc.drop k:=by
  rw[List.drop_append_of_le_length (by omega),lAq,List.length_singleton,List.take_append_of_le_length (by rw[List.length_drop]; omega),List.take_of_length_le (by rw[List.length_drop]; omega)]
 rw[h2]
 have h3:(((acc++[z]).take (k+1))++acc.drop k).take (k+1)=(acc++[z]).take (k+1):=by
  rw[List.take_append_of_le_length (by omega),List.take_of_length_le (by omega)]
 have h4:(((acc++[z]).take (k+1))++acc.drop k).drop (k+1)=acc.drop k:=by
  have:=List.drop_left' (l₁:=(acc++[z]).take (k+1)) (l₂:=acc.drop k) h1;exact this
 rw[h3,h4,List.take_succ_eq_append_getElem (by rw[lAq,List.length_singleton]; omega),List.take_append_of_le_length (by omega),List.append_assoc,List.set_append_right _ _ (by rw[List.length_take]; omega),List.length_take,Nat.min_eq_left (by omega),Nat.sub_self];unfold agn;simp
theorem again_run {K:FuncId->Option KF} (h13:K 13=none) (h19:K 19=none) (m:Nat) {L:List AS} (h:Rdr gr dp S b N0 s i f lv ts) (hR:Rws ts L) (hl:ts.length<=2000) {k:Nat} (hk:k<ts.length) (hto:∀x∈L.drop k,x.kind=3\/x.kind=4->x.to_<=9000) :
 ∃T lv' us,(ev E0 K (m+2)).f 19 [.ptr b 0,.int .i64 (k:Int)] S=some (.ret (.tuple []),T)/\Rdr gr dp T b N0 s i f lv' us/\Rws us (agn L k)/\Grew (fun x=>N0<=x) S T:=by
 have hLl:=hR.len;obtain⟨S1,lv1,a1,a2,a3⟩:=qen h13 m h (by omega) TZ;have on1:=a2.on;obtain⟨r,rfl,r2,r3,r4,r5⟩:=a2.get (by simp);have hn:(ts++[TZ]).length=ts.length+1:=by simp
 obtain⟨l1,b1,b1'⟩:=slice_row on1 r2 (k:=k+1) (by omega) [];have b1':=b1' rfl;obtain⟨l2,b2,b2'⟩:=slice_row on1 r2 (k:=k) (by omega) [];have b2':=b2' rfl;obtain⟨S2,c1,c2,c3,c4⟩:=copy_row on1 r2 (k:=k) (by omega);obtain⟨on2,l3,c5⟩:=copy_lg on1 c1 []
 have reg:∀ls:List (List LE),∃U,qbf S1 (S2.lg l3) ls=U/\Rdr gr dp U b N0 s i f (.oslice r 0 (ts++[TZ]).length 258) ((ts++[TZ]).take (k+1)++((ts++[TZ]).drop k).take ((ts++[TZ]).length-(k+1)))/\RowAt U r 50 258 ((ts++[TZ]).take (k+1)++((ts++[TZ]).drop k).take ((ts++[TZ]).length-(k+1)))/\Grew (fun x=>x=r) S1 U/\r<U.next:=fun ls=>by
  obtain⟨u1,u2,u3⟩:=qiw on1 l3 ls (s':=S2) on2;have g:Grew (fun x=>x=r) S1 (qbf S1 (S2.lg l3) ls):=⟨by rw[u2]; exact c3.next,u3.trans on1.symm,fun x hx hw=>by rw[u1]; exact c3.keep x hx hw⟩
  have hrow:=c2.same u1
  have hlen:((ts++[TZ]).take (k+1)++((ts++[TZ]).drop k).take ((ts++[TZ]).length-(k+1))).length=(ts++[TZ]).length:=by
   rw[lAq,List.length_take,List.length_take,List.length_drop]; omega
  exact⟨_,rfl,a2.put (fun e=>by rw[e,List.length_nil]at hlen; omega) hlen r5 r3 r4 hrow g,hrow,g,Nat.lt_of_lt_of_le r4 g.next⟩
 have hRz:Rws (ts++[TZ]) (L++[stA 0 0]):=hR.add stp_Z;have hRc:Rws ((ts++[TZ]).take (k+1)++((ts++[TZ]).drop k).take ((ts++[TZ]).length-(k+1))) ((L++[stA 0 0]).take (k+1)++((L++[stA 0 0]).drop k).take ((L++[stA 0 0]).length-(k+1))):=(hRz.take _).app (by rw[<- hRz.len]; exact(hRz.drop _).take _)
 have hlenc:((ts++[TZ]).take (k+1)++((ts++[TZ]).drop k).take ((ts++[TZ]).length-(k+1))).length=(ts++[TZ]).length:=by
  rw[lAq,List.length_take,List.length_take,List.length_drop]; omega
 obtain⟨U1,d0,d1,d2,d3,d4⟩:=reg [[],[],[],[],(S1.lg [⟨b,0,0+1,false⟩]).log,[],[],(S1.lg l1).log,[],[],[],[],(S1.lg [⟨b,0,0+1,false⟩]).log,[],(S1.lg l2).log,(S2.lg l3).log]
 obtain⟨U2,us,e1,e2,e3,e4,e5,e6,e7⟩:=L19_spec (ev E0 K (m+1)) qa3 (R19_20 (ev E0 K (m+1)) qa3 (qbg E0 (ev E0 K (m+1)) Try.f19) qav) (exB 0 (R19_20 (ev E0 K (m+1)) qa3 (qbg E0 (ev E0 K (m+1)) Try.f19) qav) qav) (.int .i64 (k:Int)) r3 r5 (by omega) ((ts++[TZ]).length-(k+1)) (k+1) qa3 _ _ U1 d1 (fun e=>by rw[e,List.length_nil]at hlenc; omega) hlenc d2 d4 hRc (by omega) (fun x hx=>by
  have h1:((L++[stA 0 0]).take (k+1)).length=k+1:=by rw[List.length_take,lAq,List.length_singleton]; omega
  have h4:=List.drop_left' (l₁:=(L++[stA 0 0]).take (k+1)) (l₂:=((L++[stA 0 0]).drop k).take ((L++[stA 0 0]).length-(k+1))) h1;rw[h4]at hx;have hx:=List.mem_of_mem_take hx;rw[List.drop_append_of_le_length (by omega)]at hx;rcases List.mem_append.1 hx with hx|hx
  . exact hto x hx
  . rw[List.mem_singleton.1 hx]
    intro hh
    exact absurd hh (by show ¬((0:Nat)=3\/(0:Nat)=4); decide)) (by unfold qa3; omega)
 have on3:=e2.on;obtain⟨S4,f1,f2,f3,f4⟩:=e5.stK on3 (i:=k) (by omega) ((TK 3).set (.int .i64 ((ts.length+2:Nat):Int)) 257)
 have f1':stP 258 (.ptr r (k*258)) (.agg 258 ((TK 3).set (.int .i64 ((ts.length+2:Nat):Int)) 257)) U2=some (.tuple [],S4):=by
  rw[stP_agg,f1,vu_some]
 obtain⟨l5,f5⟩:=stP_lg on3 f1';have on4:=f3.on.trans on3
 have reg2:∀ls:List (List LE),∃U,qbf U2 (S4.lg l5) ls=U/\Rdr gr dp U b N0 s i f (.oslice r 0 (ts++[TZ]).length 258) (us.set k ((TK 3).set (.int .i64 ((ts.length+2:Nat):Int)) 257))/\Grew (fun x=>x=r) U2 U:=fun ls=>by
  obtain⟨u1,u2,u3⟩:=qiw on3 l5 ls (s':=S4) on4;have g:Grew (fun x=>x=r) U2 (qbf U2 (S4.lg l5) ls):=⟨by rw[u2]; exact f3.next,u3.trans on3.symm,fun x hx hw=>by rw[u1]; exact f3.keep x hx hw⟩
  have hl2:(us.set k ((TK 3).set (.int .i64 ((ts.length+2:Nat):Int)) 257)).length=(ts++[TZ]).length:=by rw[List.length_set]; exact e4
  exact⟨_,rfl,e2.put (fun e=>by rw[e,List.length_nil]at hl2; omega) hl2 r5 r3 (Nat.lt_of_lt_of_le d4 e7.next) (f2.same u1) g,g⟩
 obtain⟨U3,g0,g1,g2⟩:=reg2 [[],[],[],[],(U2.lg [⟨b,0,0+1,false⟩]).log,[],[],[],[],[],(U2.lg [⟨b,0,0+1,false⟩]).log,(U2.lg []).log,[],[],[],(S4.lg l5).log]
 have hR3:=e6.set k (t:=(TK 3).set (.int .i64 ((ts.length+2:Nat):Int)) 257) (a:=stA 3 (L.length+2)) (by
  have:=stp_3.to ((ts.length+2:Nat):Int);rw[<- hLl]
  exact this)
 obtain⟨T,lv',q1,q2,q3⟩:=qen h13 m g1 (by rw[List.length_set]; omega) ((TK 4).set (.int .i64 (k:Int)) 257);have hR4:=hR3.add (t:=(TK 4).set (.int .i64 (k:Int)) 257) (a:=stA 4 k) (stp_4.to (k:Int));rw[agn_row (by omega)]at hR4;have gw:Grew (fun x=>N0<=x) S1 U3:=((d3.trans e7).trans g2).mono fun x _ hx=>by rw[hx]; exact r3
 refine⟨T,lv',_,qax (c:=C19) (d:=B19) (by kernel_rfl) (by kernel_rfl) (qa7 C19 _ (by kernel_rfl)) h19 (?_:F19 (ev E0 K (m+1)) qa3 (.ptr b 0) (.int .i64 (k:Int)) S=_),q2,hR4,(a3.trans gw).trans q3⟩;have on0:∀S:St,onS S=S.lg []:=fun _=>rfl;have on_:∀(S:St) (l:List LE),onS (S.lg l)=S.lg []:=fun _ _=>rfl;rw[F19_eq,build_no,oB,a1,callP_ret];simp only[qg8,qcn,Nat.zero_add,oB,Nat.add_zero];rw[on0,qbl on1 a2.l0,oB];dsimp only;rw[binV_ii,intsV_add,qa5 (by omega),oB,on_,b1,oB];dsimp only;rw[on_,qbl on1 a2.l0,oB];dsimp only;rw[on_,b2,oB];dsimp only;rw[on_,c5,oB];dsimp only
 rw[qia (by
  show((true&&(true&&((l2.all fun e=>!e.w)&&true)))&&(((l1.all fun e=>!e.w)&&(true&&((l2.all fun e=>!e.w)&&true)))&&true))=true
  rw[b1',b2']; rfl),d0,oB,e1,exB_same,R19_20_eq]
 simp only[qg8,qcn,Nat.zero_add,oB,Nat.add_zero];rw[on0,qbl on3 e2.l0,oB];dsimp only;rw[on_,qbl on3 e2.l0,oB];dsimp only;rw[on_,lnS_oslice,oB];dsimp only;rw[binV_ii,intsV_add,qa5 (by omega),oB,build_3,oB,qih r _ k (by omega),oB,on_,show((ts++[TZ]).length+1)=ts.length+2 by omega,f5,oB];dsimp only;rw[qia (by rfl),g0,build_4,oB,q1,callP_ret,fin19]
end
end Go.Proofs.Ytachpdpmoihjmaa.W
