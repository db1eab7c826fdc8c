/-
  WHAT THE FUNCTIONS COME TO: each is read by the evaluator,printed,and told as a function of data,part 9 of 12 (no condition).
-/
import Derived.Test.YtachpdpmoihjmaaW8
namespace Go.Proofs.Ytachpdpmoihjmaa.W
open Go.Proofs.Ytachpdpmoihjmaa.Ev
structure Rg (gr:Nat) (S:St) (b r:Nat) (L:List AS) (ts:List (Tr V)):Prop where
 on:S.on=false
 hb:b<S.next
 hr:r<S.next
 bx:∃s i f d,Bx S b 44 (r6 gr d (.oslice r 0 L.length 258) s i f)
 row:RowAt S r 50 258 ts
 rws:Rws ts L
section
variable {gr:Nat} {S:St} {b r:Nat} {L:List AS} {ts:List (Tr V)}
theorem Rg.of {N0 i d:Nat} {s:List UInt8} {f:Bool} {lv:V} (h:Rdr gr d S b N0 s i f lv ts) (hR:Rws ts L) (hne:ts≠[]):∃r,Rg gr S b r L ts/\N0<=r:=by
 obtain⟨r,h1,h2,h3,h4,h5⟩:=h.get hne;refine⟨r,⟨h.on,h.hi,h4,⟨s,i,f,d,?_⟩,h2,hR⟩,h3⟩;have:=h.bx;rw[h1,hR.len]at this;exact this
theorem Rg.grew {W:Nat->Prop} {T:St} (h:Rg gr S b r L ts) (hw1:¬W b) (hw2:¬W r) (g:Grew W S T):Rg gr T b r L ts:=by
 obtain⟨s,i,f,d,hbx⟩:=h.bx;exact⟨g.on.trans h.on,Nat.lt_of_lt_of_le h.hb g.next,Nat.lt_of_lt_of_le h.hr g.next,⟨s,i,f,d,hbx.grew h.hb hw1 g⟩,h.row.grew h.hr hw2 g,h.rws⟩
theorem Rg.l0 (h:Rg gr S b r L ts):ld1 (.ptr b 0) S=some (.oslice r 0 L.length 258,S):=by
 obtain⟨s,i,f,d,hbx⟩:=h.bx;exact Bx.ld1 h.on hbx 0 (by show 0<6; decide) big6
theorem Rg.l1 (h:Rg gr S b r L ts):ld1 (.ptr b 1) S=some (.int .i64 (gr:Int),S):=by
 obtain⟨s,i,f,d,hbx⟩:=h.bx;exact Bx.ld1 h.on hbx 1 (by show 1<6; decide) big6
theorem Rg.o0 (h:Rg gr S b r L ts):ld1 (.ptr b 0) (onS S)=some (.oslice r 0 L.length 258,rd S b 0 1):=by
 obtain⟨s,i,f,d,hbx⟩:=h.bx;exact Bx.ld1On h.on hbx 0 (by show 0<6; decide) big6
theorem row_ldOn {e:Nat} {l:List (Tr V)} (h:RowAt S r e 258 l) {k j:Nat} {u:Tr V} {v:V} (hk:l[k]?=some u) (hj:j<258) (hv:u.get j=some v):ld1 (.ptr r (k*258+j)) (onS S)=some (v,rd S r (k*258+j) 1):=by
 obtain⟨c,h1,h2⟩:=h.row;have hlt:=(List.getElem?_eq_some_iff.1 hk).1;have hfit:=h.fit;show ld (onS S) r (k*258+j)=_;unfold ld;rw[show(onS S).heap.get r=_ from h1];simp only
 rw[blt_true.2 (show k*258+j<258*l.length by
  have:(k+1)*258<=l.length*258:=Nat.mul_le_mul_right _ hlt
  omega),blt_true.2 hfit,Bool.and_self,cT,show(k*258+j)/258=k by omega,show(k*258+j)%258=j by omega,h2 k u hk,oB,hv,oB]
 rfl
theorem row_ldA {e:Nat} {l:List (Tr V)} (ho:S.on=false) (h:RowAt S r e 258 l) {k:Nat} {u:Tr V} (hk:l[k]?=some u):ldA 258 (.ptr r (k*258)) S=some (.agg 258 u,S):=by
 show(ldK S r (k*258) 258).bind _=_;rw[h.ldK ho hk,oB]
theorem qdm (x n i:Nat) (h:i<n):ixP 1 (.slice x 0 n n) (.int .i64 (i:Int))=some (.ptr x i):=by
 have h0:ixP 1 (.slice x 0 n n) (.int .i64 (i:Int))=bif Nat.blt i n then some (.ptr x (0+i*1))else none:=rfl;rw[h0,blt_true.2 h,cT,Nat.mul_one,Nat.zero_add]
theorem lnS_sl (x n:Nat):lnS (.slice x 0 n n) S=some (.int .i64 (n:Int),S):=rfl
def qcf (F:List Int):List (Tr V):=F.map fun z=>Ev.one (.int .i64 z)
theorem fr_ld (ho:S.on=false) {x e:Nat} {F:List Int} (h:RowAt S x e 1 (qcf F)) {k:Nat} {z:Int} (hk:F[k]?=some z):ld1 (.ptr x k) S=some (.int .i64 z,S):=by
 show ld S x k=_;exact h.ld1 ho (by unfold qcf; rw[List.getElem?_map,hk]; rfl)
theorem fr_st (ho:S.on=false) {x e:Nat} {F:List Int} (h:RowAt S x e 1 (qcf F)) {k:Nat} (hk:k<F.length) (z:Int):∃T,stP 1 (.ptr x k) (.int .i64 z) S=some (.tuple [],T)/\RowAt T x e 1 (qcf (F.set k z))/\Grew (fun y=>y=x) S T/\T.next=S.next:=by
 obtain⟨T,a1,a2,a3,a4⟩:=h.stK ho (i:=k) (by unfold qcf; rw[lM]; exact hk) (Ev.one (.int .i64 z));rw[Nat.mul_one]at a1;refine⟨T,?_,?_,a3,a4⟩
 . show vu (stK S x k 1 (Ev.one (.int .i64 z)))=_
   rw[a1]; rfl
 . unfold qcf at a2 ⊢
   rw[List.map_set];exact a2
theorem make60 (ho:S.on=false) (n:Nat) (hn:n<=20000):∃T,qb5 E0 60 (.int .i64 (n:Int)) (.int .i64 (n:Int)) S=some (.slice S.next 0 n n,T)/\RowAt T S.next 3 1 (qcf (List.replicate n 0))/\Grew (fun _=>False) S T/\T.next=S.next+1:=by
 have hr:=qdv (s:=S) (e:=3) (z:=1) (n:=n) (v:=.int .i64 0) ho (by decide) (by unfold big; omega);refine⟨qg7 S 3 1 (.int .i64 0) n,?_,by unfold qcf; rw[List.map_replicate]; exact hr,qd3 ho _ _,rfl⟩;unfold qb5;rw[show qbi E0 60=some (3,1,8) by kernel_rfl,oB,show qda (.int .i64 (n:Int))=some n from rfl,oB,oB];unfold qjd;rw[show Nat.ble n n=true from ble_true.2 (lR _),blt_true.2 (show n*(8+1+1)<qan by unfold qan; omega),Bool.and_self,cT,show qet E0 3=some (.int .i64 0) by kernel_rfl,oB];rfl
theorem L20_spec (self:EV) (N:Nat) (nk:Ac->St->Rs) (ek:Nat->Ac->St->Rs) (x n:Nat):∀(m i k:Nat) (S:St),i+m=n->m<k->S.on=false->x<S.next->RowAt S x 3 1 (qcf (List.replicate i (-1)++List.replicate m 0))->
 ∃T,L20_14 self N nk ek k (.slice x 0 n n) (.int .i64 (n:Int)) (.int .i64 (i:Int)) S=ek 0 (fr 21 [(3,.slice x 0 n n)]) T/\RowAt T x 3 1 (qcf (List.replicate n (-1)))/\Grew (fun y=>y=x) S T
 | m,i,0,S,_,hk,_,_,_=>by omega
 | 0,i,k+1,S,hi,_,ho,_,hr=>by
  refine⟨S,?_,by rw[<- hi]; simpa using hr,Grew.refl _ _⟩;rw[L20_14_eq,binV_ii,intsV_lss,qed (by omega),oB,ifK_bool,cF]
 | m+1,i,k+1,S,hi,hk,ho,hx,hr=>by
  obtain⟨S1,a1,a2,a3,a4⟩:=fr_st ho hr (k:=i) (by simp) (-1)
  have he:(List.replicate i (-1)++List.replicate (m+1) 0:List Int).set i (-1)=List.replicate (i+1) (-1)++List.replicate m 0:=by
   rw[List.set_append,iN (by simp),List.length_replicate,Nat.sub_self,List.replicate_succ,List.set_cons_zero,List.replicate_succ',List.append_assoc];rfl
  rw[he]at a2;obtain⟨T,b1,b2,b3⟩:=L20_spec self N nk ek x n m (i+1) k S1 (by omega) (by omega) (a3.on.trans ho) (by omega) a2;refine⟨T,?_,b2,a3.trans b3⟩;rw[L20_14_eq,binV_ii,intsV_lss,qee (by omega),oB,ifK_bool,cT,qdm x n i (by omega),oB,a1,oB,binV_ii,intsV_add];by_cases hbig:i<9223372036854775807
  . rw[qa5 hbig,oB]
    exact b1
  . exfalso
    have:=hr.fit;unfold qcf big at this;simp at this;omega
theorem blank_run {K:FuncId->Option KF} (hK:∀f,f≠9->K f=none) (m:Nat) (h:Rg gr S b r L ts) (hL:L.length<=1000) :
 ∃T,(ev E0 K (m+1)).f 20 [.ptr b 0] S=some (.ret (.slice S.next 0 L.length L.length),T)/\RowAt T S.next 3 1 (qcf (qcj L))/\Grew (fun _=>False) S T/\S.next<T.next:=by
 obtain⟨S1,a1,a2,a3,a4⟩:=make60 h.on L.length (by omega);obtain⟨T,b1,b2,b3⟩:=L20_spec (ev E0 K m) qa3 (R20_8 (ev E0 K m) qa3 (qbg E0 (ev E0 K m) Try.f20) qav) (exB 0 (R20_8 (ev E0 K m) qa3 (qbg E0 (ev E0 K m) Try.f20) qav) qav) S.next L.length L.length 0 qa3 S1 (by omega) (by unfold qa3; omega) (a3.on.trans h.on) (by omega) (by simpa using a2)
 refine⟨T,qax (c:=C20) (d:=B20) (by kernel_rfl) (by kernel_rfl) (qa7 C20 _ (by kernel_rfl)) (hK 20 (by decide)) (?_:F20 (ev E0 K m) qa3 (.ptr b 0) S=_),b2,a3.own (lR _) b3,by have:=b3.next; omega⟩;rw[F20_eq];simp only[qg8,qcn,Nat.zero_add,oB];rw[h.l0,oB];dsimp only;rw[lnS_oslice,oB];dsimp only;rw[a1,oB];dsimp only;rw[lnS_sl,oB];dsimp only;rw[show((0:Nat):Int)=0 from rfl]at b1;rw[b1,exB_same,R20_8_eq]
theorem F28_z:∃Z:Tr V,∀(self:EV) (N:Nat) (x0 x1 x2 x3:V) (S:St),F28 self N x0 x1 x2 x3 S =
(qa2 x0).bind fun t7=>
(faP 0 false 1 t7).bind fun t8=>
(ld1 t8 S).bind fun p9=>
(ixP 258 p9.1 x1).bind fun t11=>
(ldA 258 t11 p9.2).bind fun p12=>
(some (nwP 50 258 Z p12.2)).bind fun p13=>
(stP 258 p13.1 p12.1 p13.2).bind fun p14=>
(faP 256 false 1 p13.1).bind fun t15=>
(ld1 t15 p14.2).bind fun p16=>
(qa4 E0 .eql 3 false true p16.1 (.int .i64 1)).bind fun t17=>
ifK t17 (
(qa4 E0 .gtr 3 false true x2 (.int .i64 0)).bind fun t20=>
ifK t20 (
some (.ret .nilslice,p16.2)) (
(qa4 E0 .add 3 false true x1 (.int .i64 1)).bind fun t24=>
(bsP 3 1 1 (Ev.one (.int .i64 0)) [(0,t24)] p16.2).bind fun p25=>
some (.ret p25.1,p25.2))) (
(qa4 E0 .eql 3 false true p16.1 (.int .i64 2)).bind fun t22=>
ifK t22 (
(qa4 E0 .lss 3 false false x2 x3).bind fun t26=>
ifK t26 (
some (.ret .nilslice,p16.2)) (
(qa4 E0 .add 3 false true x1 (.int .i64 1)).bind fun t24=>
(bsP 3 1 1 (Ev.one (.int .i64 0)) [(0,t24)] p16.2).bind fun p25=>
some (.ret p25.1,p25.2))) (
(qa4 E0 .eql 3 false true p16.1 (.int .i64 3)).bind fun t28=>
ifK t28 (
(qa4 E0 .add 3 false true x1 (.int .i64 1)).bind fun t31=>
(faP 257 false 1 p13.1).bind fun t32=>
(ld1 t32 p16.2).bind fun p33=>
(bsP 3 1 2 (Ev.one (.int .i64 0)) [(0,t31),(1,p33.1)] p33.2).bind fun p34=>
some (.ret p34.1,p34.2)) (
(qa4 E0 .eql 3 false true p16.1 (.int .i64 4)).bind fun t36=>
ifK t36 (
(faP 257 false 1 p13.1).bind fun t38=>
(ld1 t38 p16.2).bind fun p39=>
(bsP 3 1 1 (Ev.one (.int .i64 0)) [(0,p39.1)] p39.2).bind fun p40=>
some (.ret p40.1,p40.2)) (
(qa4 E0 .eql 3 false true p16.1 (.int .i64 0)).bind fun t42=>
ifK t42 (
ifK t42 (
some (.ret .nilslice,p16.2)) (
(qa4 E0 .add 3 false true x1 (.int .i64 1)).bind fun t24=>
(bsP 3 1 1 (Ev.one (.int .i64 0)) [(0,t24)] p16.2).bind fun p25=>
some (.ret p25.1,p25.2))) (
(qa4 E0 .eql 3 false true p16.1 (.int .i64 6)).bind fun t45=>
ifK t45 (
some (.ret .nilslice,p16.2)) (
(qa4 E0 .add 3 false true x1 (.int .i64 1)).bind fun t24=>
(bsP 3 1 1 (Ev.one (.int .i64 0)) [(0,t24)] p16.2).bind fun p25=>
some (.ret p25.1,p25.2))))))):=⟨_,fun self N x0 x1 x2 x3 S=>F28_eq self N x0 x1 x2 x3 S⟩
theorem bsP_1 (ho:S.on=false) (z:Int):∃T,bsP 3 1 1 (Ev.one (.int .i64 0)) [(0,.int .i64 z)] S=some (.slice S.next 0 1 1,T)/\RowAt T S.next 3 1 (qcf [z])/\Grew (fun _=>False) S T/\T.next=S.next+1:=by
 refine⟨nw S (.cells 3 1 1 false ((Tr.tab 1 1 fun _=>Ev.one (.int .i64 0)).set (Ev.one (.int .i64 z)) 0)),?_,?_,qd3 ho _ _,rfl⟩
 . unfold bsP qic qic
   simp only[V.size,qaf,Nat.beq_refl,nF,Bool.and_true,show Nat.blt 0 1=true from rfl,cT,Tr.setC_eq,oB];rfl
 . refine qgz ho (by omega) rfl (by unfold big; omega) fun i t h=>?_
   rw[Tr.get_set];cases i with
   | zero=>rw[iP rfl]; exact h
   | succ i=>simp[qcf]at h
theorem bsP_2 (ho:S.on=false) (z w:Int):∃T,bsP 3 1 2 (Ev.one (.int .i64 0)) [(0,.int .i64 z),(1,.int .i64 w)] S=some (.slice S.next 0 2 2,T)/\RowAt T S.next 3 1 (qcf [z,w])/\Grew (fun _=>False) S T/\T.next=S.next+1:=by
 refine⟨nw S (.cells 3 1 2 false (((Tr.tab 2 2 fun _=>Ev.one (.int .i64 0)).set (Ev.one (.int .i64 z)) 0).set (Ev.one (.int .i64 w)) 1)),?_,?_,qd3 ho _ _,rfl⟩
 . unfold bsP qic qic qic
   simp only[V.size,qaf,Nat.beq_refl,nF,Bool.and_true,show Nat.blt 0 2=true from rfl,show Nat.blt 1 2=true from rfl,cT,Tr.setC_eq,oB];rfl
 . refine qgz ho (by omega) rfl (by unfold big; omega) fun i t h=>?_
   rw[Tr.get_set,Tr.get_set];cases i with
   | zero=>rw[iN (by omega),iP rfl]; exact h
   | succ i=>
    cases i with
    | zero=>rw[iP rfl]; exact h
    | succ i=>simp[qcf]at h
def NumsAt (S:St) (N0:Nat) (v:V) (l:List Nat):Prop:=(l=[]/\v=.nilslice)\/∃x,v=.slice x 0 l.length l.length/\RowAt S x 3 1 (qcf (l.map fun(n:Nat)=>(n:Int)))/\N0<=x/\x<S.next
theorem goes_run {K:FuncId->Option KF} (hK:∀f,f≠9->K f=none) (m:Nat) (h:Rg gr S b r L ts) (hL:L.length<=1000) {k:Nat} (hk:k<L.length) (at_ size:Nat) :
 ∃T v,(ev E0 K (m+1)).f 28 [.ptr b 0,.int .i64 (k:Int),.int .i64 (at_:Int),.int .i64 (size:Int)] S=some (.ret v,T)/\NumsAt T S.next v (gon L k at_ size)/\Grew (fun _=>False) S T:=by
 obtain⟨Z,hZ⟩:=F28_z;have ho:=h.on;obtain⟨u,hu1,hu2⟩:=h.rws.get hk;obtain⟨a1,a2,a3⟩:=qe2 ho 50 258 Z;have on1:(nwP 50 258 Z S).2.on=false:=qfs ho _;obtain⟨S2,b1,b2,b3,b4⟩:=a1.stA on1 qdb u;have on2:=b3.on.trans on1;have g2:Grew (fun _=>False) S S2:=a2.own (lR _) b3;have rdF:∀{q},F28 (ev E0 K m) qa3 (.ptr b 0) (.int .i64 (k:Int)) (.int .i64 (at_:Int)) (.int .i64 (size:Int)) S=some q->(ev E0 K (m+1)).f 28 [.ptr b 0,.int .i64 (k:Int),.int .i64 (at_:Int),.int .i64 (size:Int)] S=some q:=fun e=>qax (c:=C28) (d:=B28) (by kernel_rfl) (by kernel_rfl) (qa7 C28 _ (by kernel_rfl)) (hK 28 (by decide)) e;have hF:=hZ (ev E0 K m) qa3 (.ptr b 0) (.int .i64 (k:Int)) (.int .i64 (at_:Int)) (.int .i64 (size:Int)) S;simp only[qg8,qcn,Nat.zero_add,oB]at hF;rw[h.l0,oB]at hF;dsimp only at hF;rw[qih r _ k hk,oB,row_ldA ho h.row hu1,oB]at hF;dsimp only at hF;rw[qde,b1,oB]at hF;dsimp only at hF;have hkind:=b2.ld1 on2 qdb (by decide) hu2.kind;have hto:=b2.ld1 on2 qdb (by decide) hu2.to_;rw[qcn,oB,Nat.zero_add,hkind,oB]at hF;dsimp only at hF;unfold gon;rw[List.getElem?_eq_getElem hk];simp only;generalize L[k]=s at hkind hto hF ⊢;have eqk:∀(c:Int),qa4 E0 .eql 3 false true (.int .i64 (s.kind:Int)) (.int .i64 c)=some (.bool (decide ((s.kind:Int)=c))):=fun c=>by rw[binV_ii,intsV_eql]
 have noneq:F28 (ev E0 K m) qa3 (.ptr b 0) (.int .i64 (k:Int)) (.int .i64 (at_:Int)) (.int .i64 (size:Int)) S=some (.ret .nilslice,S2)->qch s k at_ size=[]->∃T v,(ev E0 K (m+1)).f 28 [.ptr b 0,.int .i64 (k:Int),.int .i64 (at_:Int),.int .i64 (size:Int)] S=some (.ret v,T)/\NumsAt T S.next v (qch s k at_ size)/\Grew (fun _=>False) S T:=fun e hg=>⟨S2,_,rdF e,.inl ⟨hg,rfl⟩,g2⟩
 have nextq:F28 (ev E0 K m) qa3 (.ptr b 0) (.int .i64 (k:Int)) (.int .i64 (at_:Int)) (.int .i64 (size:Int)) S=((qa4 E0 .add 3 false true (.int .i64 (k:Int)) (.int .i64 1)).bind fun t24=>
(bsP 3 1 1 (Ev.one (.int .i64 0)) [(0,t24)] S2).bind fun p25=>
some (.ret p25.1,p25.2))->qch s k at_ size=[k+1]->∃T v,(ev E0 K (m+1)).f 28 [.ptr b 0,.int .i64 (k:Int),.int .i64 (at_:Int),.int .i64 (size:Int)] S=some (.ret v,T)/\NumsAt T S.next v (qch s k at_ size)/\Grew (fun _=>False) S T:=fun e hg=>by
  obtain⟨T,c1,c2,c3,c4⟩:=bsP_1 on2 ((k+1:Nat):Int);rw[binV_ii,intsV_add,qa5 (by omega),oB,c1,oB]at e;rw[hg];have n2:=g2.next
  exact⟨T,_,rdF e,.inr ⟨S2.next,rfl,c2,n2,by omega⟩,g2.trans c3⟩
 rw[eqk,oB,ifK_bool]at hF;by_cases h1:s.kind=1
 . rw[h1,show decide (((1:Nat):Int)=1)=true from rfl,cT,binV_ii,intsV_gtr,oB,ifK_bool]at hF
   by_cases ha:0<at_
   . rw[show decide ((0:Int)<(at_:Int))=true by rw[decide_eq_true_eq]; omega,cT]at hF
     exact noneq hF (by unfold qch; rw[iP h1,iP ha])
   . rw[show decide ((0:Int)<(at_:Int))=false by rw[decide_eq_false_iff_not]; omega,cF]at hF
     exact nextq hF (by unfold qch; rw[iP h1,iN ha])
 rw[show decide ((s.kind:Int)=1)=false by rw[decide_eq_false_iff_not]; omega,cF,eqk,oB,ifK_bool]at hF;by_cases h2:s.kind=2
 . rw[h2,show decide (((2:Nat):Int)=2)=true from rfl,cT,binV_ii,intsV_lss,oB,ifK_bool]at hF
   by_cases ha:at_<size
   . rw[qee ha,cT]at hF
     exact noneq hF (by unfold qch; rw[iN h1,iP h2,iP ha])
   . rw[qed (by omega),cF]at hF
     exact nextq hF (by unfold qch; rw[iN h1,iP h2,iN ha])
 rw[show decide ((s.kind:Int)=2)=false by rw[decide_eq_false_iff_not]; omega,cF,eqk,oB,ifK_bool]at hF;by_cases h3:s.kind=3
 . rw[h3,show decide (((3:Nat):Int)=3)=true from rfl,cT,binV_ii,intsV_add,qa5 (by omega),oB,qcn,oB,Nat.zero_add,hto,oB]at hF
   dsimp only at hF;obtain⟨T,c1,c2,c3,c4⟩:=bsP_2 on2 ((k+1:Nat):Int) (s.to_:Int);rw[c1,oB]at hF;have n2:=g2.next
   exact⟨T,_,rdF hF,.inr ⟨S2.next,by unfold qch; rw[iN h1,iN h2,iP h3]; rfl,by unfold qch; rw[iN h1,iN h2,iP h3]; exact c2,n2,by omega⟩,g2.trans c3⟩
 rw[show decide ((s.kind:Int)=3)=false by rw[decide_eq_false_iff_not]; omega,cF,eqk,oB,ifK_bool]at hF;by_cases h4:s.kind=4
 . rw[h4,show decide (((4:Nat):Int)=4)=true from rfl,cT,qcn,oB,Nat.zero_add,hto,oB]at hF
   dsimp only at hF;obtain⟨T,c1,c2,c3,c4⟩:=bsP_1 on2 (s.to_:Int);rw[c1,oB]at hF;have n2:=g2.next
   exact⟨T,_,rdF hF,.inr ⟨S2.next,by unfold qch; rw[iN h1,iN h2,iN h3,iP h4]; rfl,by unfold qch; rw[iN h1,iN h2,iN h3,iP h4]; exact c2,n2,by omega⟩,g2.trans c3⟩
 rw[show decide ((s.kind:Int)=4)=false by rw[decide_eq_false_iff_not]; omega,cF,eqk,oB,ifK_bool]at hF;by_cases h0:s.kind=0
 . rw[h0,show decide (((0:Nat):Int)=0)=true from rfl,cT,ifK_bool,cT]at hF
   exact noneq hF (by unfold qch; rw[iN h1,iN h2,iN h3,iN h4,iP h0])
 rw[show decide ((s.kind:Int)=0)=false by rw[decide_eq_false_iff_not]; omega,cF,eqk,oB,ifK_bool]at hF;by_cases h6:s.kind=6
 . rw[h6,show decide (((6:Nat):Int)=6)=true from rfl,cT]at hF
   exact noneq hF (by unfold qch; rw[iN h1,iN h2,iN h3,iN h4,iN h0,iP h6])
 rw[show decide ((s.kind:Int)=6)=false by rw[decide_eq_false_iff_not]; omega,cF]at hF;exact nextq hF (by unfold qch; rw[iN h1,iN h2,iN h3,iN h4,iN h0,iN h6])
end
theorem fin21 (self:EV) (T:St):exB 0 (qbg E0 self Try.f21) qav 0 (fr 49 []) T=some (.ret (.tuple []),T):=by
 rw[exB_same]; kernel_rfl
section
variable {gr:Nat} {S:St} {b r:Nat} {L:List AS} {ts:List (Tr V)}
theorem qlj {K:FuncId->Option KF} (hK:∀f,f≠9->K f=none) (hw:WF L) (hL:L.length<=1000) (at_ size:Nat) {bg:Int} (hb:0<=bg) {x:Nat} (hxb:x≠b) (hxr:x≠r) :
 ∀(k m:Nat) (F:List Int) (n:Nat) (S:St),Rg gr S b r L ts->RowAt S x 3 1 (qcf F)->x<S.next->F.length=L.length->n<L.length->mu F bg<k->
 ∃T,(ev E0 K (m+k+1)).f 21 [.ptr b 0,.slice x 0 L.length L.length,.int .i64 (n:Int),.int .i64 bg,.int .i64 (at_:Int),.int .i64 (size:Int)] S=some (.ret (.tuple []),T)/\RowAt T x 3 1 (qcf (ent L at_ size bg k F n))/\Grew (fun y=>y=x) S T
 | 0,m,F,n,S,_,_,_,_,_,hm=>by omega
 | k+1,m,F,n,S,h,hF,hx,hl,hn,hmu=>by
  have ho:=h.on;have hkl:n<F.length:=by omega
  have hz:F[n]?=some F[n]:=List.getElem?_eq_getElem hkl;have hgd:gd F n=F[n]:=by unfold gd; rw[List.getD_eq_getElem?_getD,hz]; rfl
  suffices hm:∃T,F21 (ev E0 K (m+k+1)) qa3 (.ptr b 0) (.slice x 0 L.length L.length) (.int .i64 (n:Int)) (.int .i64 bg) (.int .i64 (at_:Int)) (.int .i64 (size:Int)) S=some (.ret (.tuple []),T)/\RowAt T x 3 1 (qcf (ent L at_ size bg (k+1) F n))/\Grew (fun y=>y=x) S T by
   obtain⟨T,q1,q2,q3⟩:=hm;exact⟨T,qax (c:=C21) (d:=B21) (by kernel_rfl) (by kernel_rfl) (qa7 C21 _ (by kernel_rfl)) (hK 21 (by decide)) q1,q2,q3⟩
  have hok:okF F n bg↔0<=F[n]/\F[n]<=bg:=by unfold okF; rw[hgd]
  rw[ent]
  have go:¬(0<=F[n]/\F[n]<=bg)->∃T,((ixP 1 (.slice x 0 L.length L.length) (.int .i64 (n:Int))).bind fun t16=>
(stP 1 t16 (.int .i64 bg) S).bind fun p17=>
qad ((ev E0 K (m+k+1)).f 28 [.ptr b 0,.int .i64 (n:Int),.int .i64 (at_:Int),.int .i64 (size:Int)] p17.2) fun t22 S22=>
(lnS t22 S22).bind fun p23=>
L21_25 (ev E0 K (m+k+1)) qa3 (qbg E0 (ev E0 K (m+k+1)) Try.f21) (exB 0 (qbg E0 (ev E0 K (m+k+1)) Try.f21) qav) qa3 (.ptr b 0) (.slice x 0 L.length L.length) (.int .i64 bg) (.int .i64 (at_:Int)) (.int .i64 (size:Int)) t22 p23.1 (.int .i64 0) p23.2)=some (.ret (.tuple []),T)/\RowAt T x 3 1 (qcf ((gon L n at_ size).foldl (ent L at_ size bg k) (F.set n bg)))/\Grew (fun y=>y=x) S T:=fun hno=>by
   have hmus:=mu_set F n bg hb hkl (by unfold okF; rw[hgd]; exact hno);obtain⟨S1,a1,a2,a3,a4⟩:=fr_st ho hF hkl bg;have h1:Rg gr S1 b r L ts:=h.grew (fun e=>hxb e.symm) (fun e=>hxr e.symm) a3;obtain⟨S2,v,b1,b2,b3⟩:=goes_run hK (m+k) h1 hL hn at_ size;have h2:Rg gr S2 b r L ts:=h1.grew (fun h=>h) (fun h=>h) b3;have hx2:x<S2.next:=by have:=b3.next; omega
   have hr2:=a2.grew (by omega) (fun h=>h) b3;have hgo:∀y∈gon L n at_ size,y<L.length:=fun y hy=>(hw.gon hy).2;rw[qdm x _ n hn,oB,a1,oB];dsimp only;rw[b1,callP_ret];rcases b2 with⟨e1,rfl⟩|⟨x',rfl,r1,r2,r3⟩
   . refine⟨S2,?_,by rw[e1]; exact hr2,a3.trans (b3.mono fun _ _ h=>h.elim)⟩
     rw[show lnS .nilslice S2=some (.int .i64 0,S2)from rfl,oB];dsimp only;rw[show qa3=qa3-1+1 by unfold qa3; omega,qkt,binV_ii,intsV_lss,show decide ((0:Int)<0)=false from rfl,oB,ifK_bool,cF,fin21]
   . -- the steps behind
     have hxx:x'≠x:=by omega
     have loop:∀(q:List Nat) (j f:Nat) (G:List Int) (S:St),(gon L n at_ size).drop j=q->Rg gr S b r L ts->RowAt S x 3 1 (qcf G)->RowAt S x' 3 1 (qcf ((gon L n at_ size).map fun(n:Nat)=>(n:Int)))->x<S.next->x'<S.next->G.length=L.length->mu G bg<k->q.length<f->j<=3->
      ∃T,L21_25 (ev E0 K (m+k+1)) qa3 (qbg E0 (ev E0 K (m+k+1)) Try.f21) (exB 0 (qbg E0 (ev E0 K (m+k+1)) Try.f21) qav) f (.ptr b 0) (.slice x 0 L.length L.length) (.int .i64 bg) (.int .i64 (at_:Int)) (.int .i64 (size:Int)) (.slice x' 0 (gon L n at_ size).length (gon L n at_ size).length) (.int .i64 ((gon L n at_ size).length:Int)) (.int .i64 (j:Int)) S=some (.ret (.tuple []),T)/\RowAt T x 3 1 (qcf (q.foldl (ent L at_ size bg k) G))/\Grew (fun y=>y=x) S T:=fun q=>by
      induction q with
      | nil=>
       intro j f G S hq h hr hr' hx hx' hG hmu hf hj;have hle:=List.drop_eq_nil_iff.1 hq;obtain⟨f,rfl⟩:∃f',f=f'+1:=⟨f-1,by omega⟩
       refine⟨S,?_,hr,Grew.refl _ _⟩;rw[qkt,binV_ii,intsV_lss,qed hle,oB,ifK_bool,cF,fin21]
      | cons y q ih=>
       intro j f G S hq h hr hr' hx hx' hG hmu hf hj;obtain⟨hlt,hy,hd,hmem⟩:=qg1 hq;obtain⟨f,rfl⟩:∃f',f=f'+1:=⟨f-1,by omega⟩
       have hyl:=hgo y hmem;obtain⟨S3,c1,c2,c3⟩:=qlj hK hw hL at_ size hb hxb hxr k m G y S h hr hx hG hyl hmu;obtain⟨e1,_⟩:=qh7 (at_:=at_) (size:=size) hw hb k G y hG hyl hmu
       obtain⟨T,d1,d2,d3⟩:=ih (j+1) f (ent L at_ size bg k G y) S3 hd (h.grew (fun e=>hxb e.symm) (fun e=>hxr e.symm) c3) c2 (hr'.grew hx' hxx c3) (Nat.lt_of_lt_of_le hx c3.next) (Nat.lt_of_lt_of_le hx' c3.next) (e1.len.trans hG) (Nat.lt_of_le_of_lt e1.le hmu) (by simp at hf; omega) (by
        have hg2:(gon L n at_ size).length<=2:=by
         unfold gon;cases L[n]? with
         | none=>simp
         | some s=>
          simp only[qch]
          repeat' split
          all_goals simp
        omega)
       refine⟨T,?_,by rw[List.foldl_cons]; exact d2,c3.trans d3⟩
       have hld:((gon L n at_ size).map fun(n:Nat)=>(n:Int))[j]?=some (y:Int):=by
        rw[List.getElem?_map,List.getElem?_eq_getElem hlt,hy]; rfl
       rw[qkt,binV_ii,intsV_lss,qee hlt,oB,ifK_bool,cT,qdm x' _ j hlt,oB,fr_ld h.on hr' hld,oB];dsimp only;rw[c1,callP_ret,binV_ii,intsV_add,qa5 (by omega),oB];exact d1
     obtain⟨T,d1,d2,d3⟩:=loop _ 0 qa3 (F.set n bg) S2 rfl h2 hr2 r1 hx2 r3 (by rw[List.length_set]; exact hl) (by omega) (by
      have hg2:(gon L n at_ size).length<=2:=by
       unfold gon;cases L[n]? with
       | none=>simp
       | some s=>
        simp only[qch]
        repeat' split
        all_goals simp
      rw[List.drop_zero]
      unfold qa3; omega) (by omega)
     refine⟨T,?_,d2,(a3.trans (b3.mono fun _ _ h=>h.elim)).trans d3⟩;rw[lnS_sl,oB];exact d1
  rw[F21_eq,qdm x _ n hn,oB,fr_ld ho hF hz,oB];dsimp only;rw[binV_ii,intsV_geq,oB,qaa,oB];by_cases h0:0<=F[n]
  . rw[dT h0,cT,oB,oB,cT,oB,oB,cT,qdm x _ n hn,oB,oB,cT,fr_ld ho hF hz,oB,oB,cT,oB,oB,cT]
    dsimp only;rw[binV_ii,intsV_leq,oB,pickV_bool,cT,oB,ifK_bool];by_cases h1:F[n]<=bg
    . rw[dT h1,cT,iP (hok.2 ⟨h0,h1⟩)]
      exact⟨S,rfl,hF,Grew.refl _ _⟩
    . rw[dF h1,cF,iN (fun h=>h1 (hok.1 h).2)]
      have:=go (fun h=>h1 h.2);rw[qdm x _ n hn]at this;exact this
  . rw[dF h0,cF,oB,oB,cF,oB,oB,cF,oB,oB,cF,oB,oB,cF,oB,oB,cF,oB,pickV_bool,cF,oB,ifK_bool,cF,iN (fun h=>h0 (hok.1 h).1)]
    have:=go (fun h=>h0 h.1);rw[qdm x _ n hn]at this;exact this
end
section
variable {gr:Nat} {S:St} {b r:Nat} {L:List AS} {ts:List (Tr V)}
theorem tak_of {n:Nat} {c:UInt8} (hn:n<L.length):tak L n c=(decide (L[n].kind=0)&&L[n].p c):=by
 unfold tak;rw[List.getElem?_eq_getElem hn]
theorem L14_spec {K:FuncId->Option KF} (hK:∀f,f≠9->K f=none) (hw:WF L) (hL:L.length<=1000) (m N:Nat) (nk:Ac->St->Rs) (ek:Nat->Ac->St->Rs) {T:List UInt8} {at_:Nat} (hat:at_<T.length) (hT:T.length<=1000) (v6 v7:V) {x y:Nat} {F:List Int} (hlen:F.length=L.length) (hxy:x≠y) (hyb:y≠b) (hyr:y≠r) :
 ∀(q:List Int) (n j:Nat) (G:List Int) (lv:Bool) (S:St),F.drop n=q->n<=L.length->Rg gr S b r L ts->RowAt S x 3 1 (qcf F)->RowAt S y 3 1 (qcf G)->x<S.next->y<S.next->G.length=L.length->q.length<j->
 ∃U,qjp (ev E0 K (m+(L.length+1)+1)) N nk ek j (.ptr b 0) (sv T) v6 v7 (.int .i64 (at_:Int)) (.slice y 0 L.length L.length) (.bool lv) (.slice x 0 L.length L.length) (.int .i64 (L.length:Int)) (.int .i64 (n:Int)) S
  = ek 2 (fr 116 [(0,.ptr b 0),(1,sv T),(6,v6),(7,v7),(9,.int .i64 (at_:Int)),(11,.slice y 0 L.length L.length),(12,.bool (lv||lvF L T[at_] q n))]) U/\RowAt U y 3 1 (qcf (nxF L T[at_] (at_+1) T.length q n G))/\Grew (fun z=>z=y) S U
 | q,n,0,G,lv,S,_,_,_,_,_,_,_,_,hj=>by omega
 | [],n,j+1,G,lv,S,hq,hn,h,hx,hy,hxn,hyn,hG,hj=>by
  have hle:=List.drop_eq_nil_iff.1 hq;refine⟨S,?_,hy,Grew.refl _ _⟩;rw[L14_76_eq,binV_ii,intsV_lss,qed (by omega),oB,ifK_bool,cF,lvF,Bool.or_false]
 | z::q,n,j+1,G,lv,S,hq,hn,h,hx,hy,hxn,hyn,hG,hj=>by
  have ho:=h.on;obtain⟨hnF,hz,hd,_⟩:=qg1 hq;have hnL:n<L.length:=by omega
  have hz?:F[n]?=some z:=by rw[List.getElem?_eq_getElem hnF,hz]
  obtain⟨u,hu1,hu2⟩:=h.rws.get hnL;have htk:=tak_of (c:=T[at_]) hnL;have hD:=row_ldOn h.row hu1 (j:=256) (by omega) hu2.kind;have hB:T[at_].toNat<256:=T[at_].toNat_lt;have hB2:T[at_].toNat<258:=Nat.lt_of_lt_of_le hB (by decide);have hD2:=row_ldOn h.row hu1 hB2 (hu2.has T[at_]);have hix:=qja 256 1 false 1 .u8 (b:=r) (off:=n*258) hB
  have no:¬(0<=z/\tak L n T[at_]=true)->∃U,qjp (ev E0 K (m+(L.length+1)+1)) N nk ek j (.ptr b 0) (sv T) v6 v7 (.int .i64 (at_:Int)) (.slice y 0 L.length L.length) (.bool lv) (.slice x 0 L.length L.length) (.int .i64 (L.length:Int)) (.int .i64 ((n+1:Nat):Int)) S
   = ek 2 (fr 116 [(0,.ptr b 0),(1,sv T),(6,v6),(7,v7),(9,.int .i64 (at_:Int)),(11,.slice y 0 L.length L.length),(12,.bool (lv||lvF L T[at_] (z::q) n))]) U/\RowAt U y 3 1 (qcf (nxF L T[at_] (at_+1) T.length (z::q) n G))/\Grew (fun z=>z=y) S U:=fun hno=>by
   obtain⟨U,a1,a2,a3⟩:=L14_spec hK hw hL m N nk ek hat hT v6 v7 hlen hxy hyb hyr q (n+1) j G lv S hd hnL h hx hy hxn hyn hG (by simp at hj; omega);refine⟨U,?_,by rw[nxF,iN hno]; exact a2,a3⟩;rw[a1,lvF]
   have:(decide (0<=z)&&tak L n T[at_])=false:=by
    cases ht:tak L n T[at_]with
    | false=>rw[Bool.and_false]
    | true=>rw[Bool.and_true,dF (fun hh=>hno ⟨hh,ht⟩)]
   rw[this,Bool.false_or]
  rw[L14_76_eq,binV_ii,intsV_lss,qee hnL,oB,ifK_bool,cT,qdm x _ n hnL,oB,fr_ld ho hx hz?,oB];dsimp only;rw[binV_ii,intsV_geq,oB];by_cases h0:0<=z
  . rw[dT h0]
    simp only[qaa,oB,cT,qg8,qcn,Nat.zero_add,h.o0,qih r L.length n hnL,qb8,hD,binV_ii,intsV_eql,pickV_bool,qb7];by_cases hk:L[n].kind=0
    . rw[show decide ((L[n].kind:Int)=0)=true by rw[decide_eq_true_eq]; omega]
      simp only[qaa,oB,cT,qg8,qcn,Nat.zero_add,Nat.add_zero,h.o0,qih r L.length n hnL,qb8,qh8 T .i64 at_ hat,hix,Nat.mul_one,hD2,pickV_bool,qb7,ifK_bool];rw[qam ho];cases hp:L[n].p T[at_]with
      | true=>
       have ht:tak L n T[at_]=true:=by rw[htk,hp,dT hk]; rfl
       have hn1:=hw.tak ht;rw[cT,intsV_add,qa5 (by omega),oB,intsV_add,qa5 (by omega),oB,lnStr_sv,oB];dsimp only;have hmu:=mu_le G z;obtain⟨S1,b1,b2,b3⟩:=qlj hK hw hL (at_+1) T.length h0 hyb hyr (L.length+1) m G (n+1) S h hy hyn hG hn1 (by omega);obtain⟨e1,_⟩:=qh7 (at_:=at_+1) (size:=T.length) hw h0 (L.length+1) G (n+1) hG hn1 (by omega);obtain⟨U,a1,a2,a3⟩:=L14_spec hK hw hL m N nk ek hat hT v6 v7 hlen hxy hyb hyr q (n+1) j _ true S1 hd hnL (h.grew (fun e=>hyb e.symm) (fun e=>hyr e.symm) b3) (hx.grew hxn hxy b3) b2 (Nat.lt_of_lt_of_le hxn b3.next) (Nat.lt_of_lt_of_le hyn b3.next) (e1.len.trans hG) (by simp at hj; omega);refine⟨U,?_,by rw[nxF,iP ⟨h0,ht⟩]; exact a2,b3.trans a3⟩;rw[b1,callP_ret,oB,a1,lvF,ht,dT h0];simp
      | false=>
       rw[cF,intsV_add,qa5 (by omega),oB];exact no (fun hh=>by rw[htk,hp,Bool.and_false]at hh; cases hh.2)
    . rw[show decide ((L[n].kind:Int)=0)=false by rw[decide_eq_false_iff_not]; omega]
      simp only[qaa,oB,cF,pickV_bool,qas,qb7,ifK_bool,qb8];rw[qam ho,intsV_add,qa5 (by omega),oB];exact no (fun hh=>by rw[htk,dF hk,Bool.false_and]at hh; cases hh.2)
  . rw[dF h0]
    simp only[qaa,oB,cF,pickV_bool,qas,qb7,ifK_bool];rw[qam ho,binV_ii,intsV_add,qa5 (by omega),oB];exact no (fun hh=>h0 hh.1)
end
theorem big2:2<big:=by unfold big; decide
noncomputable def tr2 (a e:Int):Tr V:=Tr.ofListFrom .nil [.int .i64 a,.int .i64 e] 0
noncomputable def spT:Option (Int×Int)->Tr V
 | none=>tr2 0 0
 | some p=>tr2 p.1 p.2
theorem build_30 (a e:Int):qau E0 30 [(0,.int .i64 a),(1,.int .i64 e)]=some (.agg 2 (tr2 a e)):=by kernel_rfl
theorem tr2_0 (a e:Int):(tr2 a e).get 0=some (.int .i64 a):=rfl
section
variable {gr:Nat} {S:St} {b r:Nat} {L:List AS} {ts:List (Tr V)}
noncomputable def qj2 (self:EV) (N:Nat) (nk:Ac->St->Rs) (ek:Nat->Ac->St->Rs) (n:Nat) (v0 v1 v6 v7 v8 v9:V) (S:St):Rs:=
 qad (self.f 20 [v0] S) fun t63 S63=>
 (unV .not v7).bind fun t65=>
 (lnS v8 S63).bind fun p74=>
 qjp self N (qhz self N (fun a s=>qa6 [0,1,6,7,8,9] a fun a=>(fun a s=>qa6 [0,1,6,7,8,9] a fun a=>(qb1 self N (qb0 self N nk ek n) ek) a s) a s) (exB 1 (qb1 self N (qb0 self N nk ek n) ek) ek)) (exB 2 (qhz self N (fun a s=>qa6 [0,1,6,7,8,9] a fun a=>(fun a s=>qa6 [0,1,6,7,8,9] a fun a=>(qb1 self N (qb0 self N nk ek n) ek) a s) a s) (exB 1 (qb1 self N (qb0 self N nk ek n) ek) ek)) (exB 1 (qb1 self N (qb0 self N nk ek n) ek) ek)) N v0 v1 v6 v7 v9 t63 t65 v8 p74.1 (.int .i64 0) p74.2
theorem tail_eq (self:EV) (N:Nat) (nk:Ac->St->Rs) (ek:Nat->Ac->St->Rs) (n:Nat) (v0 v1 v6 v7 v8 v9:V) (S:St):qj2 self N nk ek n v0 v1 v6 v7 v8 v9 S =
 qad (self.f 20 [v0] S) fun t63 S63=>
 (unV .not v7).bind fun t65=>
 (lnS v8 S63).bind fun p74=>
 qjp self N (qhz self N (fun a s=>qa6 [0,1,6,7,8,9] a fun a=>(fun a s=>qa6 [0,1,6,7,8,9] a fun a=>(qb1 self N (qb0 self N nk ek n) ek) a s) a s) (exB 1 (qb1 self N (qb0 self N nk ek n) ek) ek)) (exB 2 (qhz self N (fun a s=>qa6 [0,1,6,7,8,9] a fun a=>(fun a s=>qa6 [0,1,6,7,8,9] a fun a=>(qb1 self N (qb0 self N nk ek n) ek) a s) a s) (exB 1 (qb1 self N (qb0 self N nk ek n) ek) ek)) (exB 1 (qb1 self N (qb0 self N nk ek n) ek) ek)) N v0 v1 v6 v7 v9 t63 t65 v8 p74.1 (.int .i64 0) p74.2:=rfl
theorem exB1_0 (nk:Ac->St->Rs) (ek:Nat->Ac->St->Rs) (a:Ac) (s:St):exB 1 nk ek 0 a s=ek 0 a s:=rfl
theorem proj14 (f:Ac->St->Rs) (v0 v1 v6 v7 v8 v9:V) (S:St):(fun a s=>qa6 [0,1,6,7,8,9] a fun a=>(fun a s=>qa6 [0,1,6,7,8,9] a fun a=>f a s) a s) (fr 116 [(0,v0),(1,v1),(6,v6),(7,v7),(8,v8),(9,v9)]) S=f (fr 116 [(0,v0),(1,v1),(6,v6),(7,v7),(8,v8),(9,v9)]) S:=by kernel_rfl
noncomputable def mid14 (self:EV) (N:Nat) (nk:Ac->St->Rs) (ek:Nat->Ac->St->Rs) (n:Nat) (v0 v1 v6 v7 v8 v9:V) (S30:St):Rs:=
(qa2 v0).bind fun t33=>
(faP 0 false 1 t33).bind fun t34=>
(ld1 t34 S30).bind fun p35=>
(lnS p35.1 p35.2).bind fun p36=>
(qa4 E0 .sub 3 false true p36.1 (.int .i64 1)).bind fun t37=>
(ixP 1 v8 t37).bind fun t38=>
(ld1 t38 p36.2).bind fun p39=>
(qa4 E0 .geq 3 false true p39.1 (.int .i64 0)).bind fun t42=>
(qa1 true t42).bind fun g44=>(bif g44 then some v7 else some (.tuple [])).bind fun t44=>
(qa1 true t42).bind fun g45=>(bif g45 then unV .not t44 else some (.tuple [])).bind fun t45=>
(qa1 true t42).bind fun g46=>(bif g46 then some t45 else some (.tuple [])).bind fun t46=>
(qa1 false t46).bind fun g47=>(bif g47 then some p39.1 else some (.tuple [])).bind fun t47=>
(qa1 false t46).bind fun g48=>(bif g48 then ixA 2 1 false 1 v6 (.int .i64 0)else some (.tuple [])).bind fun t48=>
(qa1 false t46).bind fun g49=>(bif g49 then ld1 t48 p39.2 else some (.tuple [],p39.2)).bind fun p49=>
(qa1 false t46).bind fun g50=>(bif g50 then qa4 E0 .leq 3 false false t47 p49.1 else some (.tuple [])).bind fun t50=>
(qa1 true t42).bind fun g51=>(bif g51 then qah t46 (some (.bool true)) (some t50)else some (.tuple [])).bind fun t51=>
(qah t42 (some t51) (some (.bool false))).bind fun t52=>
ifK t52 (
(qau E0 30 [(0,p39.1),(1,v9)]).bind fun t55=>
(stP 2 v6 t55 p49.2).bind fun p56=>
(qbu v1 p56.2).bind fun p60=>
(qa4 E0 .eql 3 false false v9 p60.1).bind fun t61=>
ifK t61 (
ek 0 (fr 116 [(6,v6),(7,(.bool true))]) p60.2) (
qj2 self N nk ek n v0 v1 v6 (.bool true) v8 v9 p60.2)) (
(qbu v1 p49.2).bind fun p128=>
(qa4 E0 .eql 3 false false v9 p128.1).bind fun t129=>
ifK t129 (
ek 0 (fr 116 [(6,v6),(7,v7)]) p128.2) (
qj2 self N nk ek n v0 v1 v6 v7 v8 v9 p128.2))
theorem L14_13_t (self:EV) (N:Nat) (nk:Ac->St->Rs) (ek:Nat->Ac->St->Rs) (n:Nat) (v0 v1 v6 v7 v8 v9:V) (S:St):qkr self N nk ek (n+1) v0 v1 v6 v7 v8 v9 S =
(qbu v1 S).bind fun p16=>
(qa4 E0 .leq 3 false false v9 p16.1).bind fun t17=>
ifK t17 (
(unV .not v7).bind fun t23=>
ifK t23 (
(qbu v1 p16.2).bind fun p29=>
qad (self.f 21 [v0,v8,(.int .i64 0),v9,v9,p29.1] p29.2) fun t30 S30=>
mid14 self N nk ek n v0 v1 v6 v7 v8 v9 S30) (
mid14 self N nk ek n v0 v1 v6 v7 v8 v9 p16.2)) (
ek 0 (fr 116 [(6,v6),(7,v7)]) p16.2):=L14_13_eq self N nk ek n v0 v1 v6 v7 v8 v9 S
theorem tail_run {K:FuncId->Option KF} (hK:∀f,f≠9->K f=none) (hw:WF L) (hL:L.length<=1000) (m N:Nat) (hN:2000<N) (nk:Ac->St->Rs) (ek:Nat->Ac->St->Rs) (j:Nat) {T:List UInt8} {at_ N0:Nat} (hat:at_<T.length) (hT:T.length<=1000) {x p:Nat} {F:List Int} (o:Option (Int×Int)) (hlen:F.length=L.length)
 (h:Rg gr S b r L ts) (hb:b<N0) (hr:r<N0) (hF:RowAt S x 3 1 (qcf F)) (hp:AgAt S p 30 2 (spT o)) (hxn:x<S.next) (hpn:p<S.next) (hx0:N0<=x) (hp0:N0<=p) :
 ∃U y,qj2 (ev E0 K (m+(L.length+1)+1)) N nk ek j (.ptr b 0) (sv T) (.ptr p 0) (.bool o.isSome) (.slice x 0 L.length L.length) (.int .i64 (at_:Int)) S=(bif (!o.isSome||lvF L T[at_] F 0)then qkr (ev E0 K (m+(L.length+1)+1)) N nk ek j (.ptr b 0) (sv T) (.ptr p 0) (.bool o.isSome) (.slice y 0 L.length L.length) (.int .i64 ((at_+1:Nat):Int)) U else ek 0 (fr 116 [(6,.ptr p 0),(7,.bool o.isSome)]) U)/\
  Rg gr U b r L ts/\RowAt U y 3 1 (qcf (nxF L T[at_] (at_+1) T.length F 0 (qcj L)))/\AgAt U p 30 2 (spT o)/\y<U.next/\N0<=y/\y≠p/\p<U.next/\Grew (fun z=>N0<=z) S U:=by
 have hS0:N0<=S.next:=by omega
 obtain⟨S1,a1,a2,a3,a4⟩:=blank_run hK (m+(L.length+1)) h hL;have h1:Rg gr S1 b r L ts:=h.grew (fun h=>h) (fun h=>h) a3;have hbl:(qcj L).length=L.length:=by unfold qcj; simp
 obtain⟨U,b1,b2,b3⟩:=L14_spec hK hw hL m N (qhz (ev E0 K (m+(L.length+1)+1)) N (fun a s=>qa6 [0,1,6,7,8,9] a fun a=>(fun a s=>qa6 [0,1,6,7,8,9] a fun a=>(qb1 (ev E0 K (m+(L.length+1)+1)) N (qb0 (ev E0 K (m+(L.length+1)+1)) N nk ek j) ek) a s) a s) (exB 1 (qb1 (ev E0 K (m+(L.length+1)+1)) N (qb0 (ev E0 K (m+(L.length+1)+1)) N nk ek j) ek) ek)) (exB 2 (qhz (ev E0 K (m+(L.length+1)+1)) N (fun a s=>qa6 [0,1,6,7,8,9] a fun a=>(fun a s=>qa6 [0,1,6,7,8,9] a fun a=>(qb1 (ev E0 K (m+(L.length+1)+1)) N (qb0 (ev E0 K (m+(L.length+1)+1)) N nk ek j) ek) a s) a s) (exB 1 (qb1 (ev E0 K (m+(L.length+1)+1)) N (qb0 (ev E0 K (m+(L.length+1)+1)) N nk ek j) ek) ek)) (exB 1 (qb1 (ev E0 K (m+(L.length+1)+1)) N (qb0 (ev E0 K (m+(L.length+1)+1)) N nk ek j) ek) ek)) hat hT (.ptr p 0) (.bool o.isSome) (x:=x) (y:=S.next) (F:=F) hlen (by omega) (by have:=h.hb; omega) (by have:=h.hr; omega) F 0 N (qcj L) (!o.isSome) S1 rfl (Nat.zero_le _) h1 (hF.grew hxn (fun h=>h) a3) a2 (Nat.lt_of_lt_of_le hxn a3.next) a4 hbl (by omega);have g:Grew (fun z=>N0<=z) S U:=(a3.mono fun _ _ h=>h.elim).trans (b3.mono fun z _ hz=>by omega);refine⟨U,S.next,?_,h1.grew (by omega) (by omega) b3,b2,(hp.grew hpn (fun h=>h) a3).grew (by omega) (by omega) b3,Nat.lt_of_lt_of_le a4 b3.next,hS0,by omega,Nat.lt_of_lt_of_le hpn g.next,g⟩;rw[tail_eq,a1,callP_ret,unV_not,oB,lnS_sl,oB]
 dsimp only;rw[show((0:Nat):Int)=0 from rfl]at b1;rw[b1,exB_same,R14_68_eq,unV_not,oB,ifK_bool];cases hc:(!o.isSome||lvF L T[at_] F 0)with
 | true=>
  rw[Bool.not_true,cF,cT];refine(proj14 (qb1 (ev E0 K (m+(L.length+1)+1)) N (qb0 (ev E0 K (m+(L.length+1)+1)) N nk ek j) ek) _ _ _ _ _ _ U).trans ?_;rw[R14_18_eq,binV_ii,intsV_add,qa5 (by omega),oB,N14_13_eq]
 | false=>
  rw[nF,cT,cF,exB1_0]
theorem mid_run (self:EV) (N:Nat) (nk:Ac->St->Rs) (ek:Nat->Ac->St->Rs) (n:Nat) {T:List UInt8} {at_:Nat} {x p:Nat} {F:List Int} (o:Option (Int×Int)) (hpos:0<L.length) (hlen:F.length=L.length) (hL:L.length<=1000)
 (h:Rg gr S b r L ts) (hF:RowAt S x 3 1 (qcf F)) (hp:AgAt S p 30 2 (spT o)) (hxp:x≠p) (hpb:b≠p) (hpr:r≠p) :
 ∃U,mid14 self N nk ek n (.ptr b 0) (sv T) (.ptr p 0) (.bool o.isSome) (.slice x 0 L.length L.length) (.int .i64 (at_:Int)) S=(bif decide ((at_:Int)=(T.length:Int))then ek 0 (fr 116 [(6,.ptr p 0),(7,.bool (hitG L (at_:Int) F o).isSome)]) U else
  qj2 self N nk ek n (.ptr b 0) (sv T) (.ptr p 0) (.bool (hitG L (at_:Int) F o).isSome) (.slice x 0 L.length L.length) (.int .i64 (at_:Int)) U)/\
  AgAt U p 30 2 (spT (hitG L (at_:Int) F o))/\Grew (fun z=>z=p) S U/\U.next=S.next:=by
 have ho:=h.on;have hkl:L.length-1<F.length:=by omega
 have hz:F[L.length-1]?=some F[L.length-1]:=List.getElem?_eq_getElem hkl;have hgd:gd F (L.length-1)=F[L.length-1]:=by unfold gd; rw[List.getD_eq_getElem?_getD,hz]; rfl
 unfold hitG;rw[hgd];unfold mid14;simp only[qg8,qcn,Nat.zero_add,oB];rw[h.l0,oB];dsimp only;rw[lnS_oslice,oB];dsimp only;rw[binV_ii,intsV_sub,qap (by omega) (by omega),show(L.length:Int)-1=((L.length-1:Nat):Int) by omega,oB,qdm x _ _ (by omega),oB,fr_ld ho hF hz,oB];dsimp only;rw[binV_ii,intsV_geq,oB]
 have yes:∃U,((qau E0 30 [(0,.int .i64 F[L.length-1]),(1,.int .i64 (at_:Int))]).bind fun t55=>
(stP 2 (.ptr p 0) t55 S).bind fun p56=>
(qbu (sv T) p56.2).bind fun p60=>
(qa4 E0 .eql 3 false false (.int .i64 (at_:Int)) p60.1).bind fun t61=>
ifK t61 (
ek 0 (fr 116 [(6,.ptr p 0),(7,(.bool true))]) p60.2) (
qj2 self N nk ek n (.ptr b 0) (sv T) (.ptr p 0) (.bool true) (.slice x 0 L.length L.length) (.int .i64 (at_:Int)) p60.2))=(bif decide ((at_:Int)=(T.length:Int))then ek 0 (fr 116 [(6,.ptr p 0),(7,.bool (some (F[L.length-1],(at_:Int))).isSome)]) U else
  qj2 self N nk ek n (.ptr b 0) (sv T) (.ptr p 0) (.bool (some (F[L.length-1],(at_:Int))).isSome) (.slice x 0 L.length L.length) (.int .i64 (at_:Int)) U)/\
  AgAt U p 30 2 (spT (some (F[L.length-1],(at_:Int))))/\Grew (fun z=>z=p) S U/\U.next=S.next:=by
  obtain⟨U,a1,a2,a3,a4⟩:=hp.stA ho big2 (tr2 F[L.length-1] (at_:Int));refine⟨U,?_,a2,a3,a4⟩;rw[build_30,oB,a1,oB];dsimp only;rw[lnStr_sv,oB];dsimp only;rw[binV_ii,intsV_eql,oB,ifK_bool];rfl
 have nope:∃U,((qbu (sv T) S).bind fun p128=>
(qa4 E0 .eql 3 false false (.int .i64 (at_:Int)) p128.1).bind fun t129=>
ifK t129 (
ek 0 (fr 116 [(6,.ptr p 0),(7,(.bool o.isSome))]) p128.2) (
qj2 self N nk ek n (.ptr b 0) (sv T) (.ptr p 0) (.bool o.isSome) (.slice x 0 L.length L.length) (.int .i64 (at_:Int)) p128.2))=(bif decide ((at_:Int)=(T.length:Int))then ek 0 (fr 116 [(6,.ptr p 0),(7,.bool o.isSome)]) U else
  qj2 self N nk ek n (.ptr b 0) (sv T) (.ptr p 0) (.bool o.isSome) (.slice x 0 L.length L.length) (.int .i64 (at_:Int)) U)/\
  AgAt U p 30 2 (spT o)/\Grew (fun z=>z=p) S U/\U.next=S.next:=by
  refine⟨S,?_,hp,Grew.refl _ _,rfl⟩;rw[lnStr_sv,oB];dsimp only;rw[binV_ii,intsV_eql,oB,ifK_bool]
 by_cases h0:0<=F[L.length-1]
 . rw[dT h0]
   cases o with
   | none=>
    rw[iP ⟨h0,rfl⟩];simp only[qaa,qaq,oB,cT,cF,unV_not,Option.isSome_none,nF,Bool.not_true,pickV_bool,ifK_bool];exact yes
   | some q=>
    have hld:=hp.ld1 ho big2 (i:=0) (by decide) (tr2_0 q.1 q.2);have hix:=qja 2 1 false 1 .i64 (b:=p) (off:=0) (n:=0) (by decide);rw[show((0:Nat):Int)=0 from rfl]at hix;simp only[qaa,qaq,oB,cT,cF,unV_not,Option.isSome_some,nF,Bool.not_true,pickV_bool,hix,Nat.zero_mul,Nat.add_zero,hld,binV_ii,intsV_leq,ifK_bool];by_cases h1:F[L.length-1]<=q.1
    . rw[iP ⟨h0,show decide (F[L.length-1]<=q.1)=true from dT h1⟩,dT h1,cT]
      exact yes
    . rw[iN (fun hh=>h1 (of_decide_eq_true (show decide (F[L.length-1]<=q.1)=true from hh.2))),dF h1,cF]
      exact nope
 . rw[dF h0,iN (fun hh=>h0 hh.1)]
   simp only[qaa,qaq,qas,oB,cT,cF,pickV_bool,ifK_bool];exact nope
theorem entG_len (hw:WF L) {size a:Nat} {o:Option (Int×Int)} {F:List Int} (h:F.length=L.length):(entG L size o F a).length=L.length:=by
 cases o with
 | some p=>exact h
 | none=>
  have:=mu_le F (a:Int);exact(qh7 (at_:=a) (size:=size) hw (Int.natCast_nonneg a) (L.length+1) F 0 h hw.pos (by omega)).1.len.trans h
theorem L13_spec {K:FuncId->Option KF} (hK:∀f,f≠9->K f=none) (hw:WF L) (hL:L.length<=1000) (m N:Nat) (hN:2000<N) (nk:Ac->St->Rs) (ek:Nat->Ac->St->Rs) {T:List UInt8} {N0 p:Nat} (hT:T.length<=1000) (hb:b<N0) (hr:r<N0) (hp0:N0<=p) :
 ∀(q:List UInt8) (at_:Nat) (F:List Int) (o:Option (Int×Int)) (x j:Nat) (S:St),Rg gr S b r L ts->RowAt S x 3 1 (qcf F)->AgAt S p 30 2 (spT o)->x<S.next->p<S.next->N0<=x->x≠p->F.length=L.length->T.drop at_=q->at_<=T.length->q.length<j->
 ∃U,qkr (ev E0 K (m+(L.length+1)+1)) N nk ek j (.ptr b 0) (sv T) (.ptr p 0) (.bool o.isSome) (.slice x 0 L.length L.length) (.int .i64 (at_:Int)) S=ek 0 (fr 116 [(6,.ptr p 0),(7,.bool (whG L T.length q at_ F o).isSome)]) U/\AgAt U p 30 2 (spT (whG L T.length q at_ F o))/\p<U.next/\Grew (fun z=>N0<=z) S U
 | q,at_,F,o,x,0,S,_,_,_,_,_,_,_,_,_,_,hj=>by omega
 | q,at_,F,o,x,j+1,S,h,hF,hp,hxn,hpn,hx0,hxp,hlen,hq,hat,hj=>by
  have ent:∃S1,qkr (ev E0 K (m+(L.length+1)+1)) N nk ek (j+1) (.ptr b 0) (sv T) (.ptr p 0) (.bool o.isSome) (.slice x 0 L.length L.length) (.int .i64 (at_:Int)) S=mid14 (ev E0 K (m+(L.length+1)+1)) N nk ek j (.ptr b 0) (sv T) (.ptr p 0) (.bool o.isSome) (.slice x 0 L.length L.length) (.int .i64 (at_:Int)) S1/\RowAt S1 x 3 1 (qcf (entG L T.length o F at_))/\Grew (fun z=>z=x) S S1:=by
   rw[L14_13_t,lnStr_sv,oB];dsimp only;rw[binV_ii,intsV_leq,dT (show(at_:Int)<=(T.length:Int) by omega),oB,ifK_bool,cT,unV_not,oB,ifK_bool];cases o with
   | some w=>
    rw[show(!(some w).isSome)=false from rfl,cF];exact⟨S,rfl,hF,Grew.refl _ _⟩
   | none=>
    have hmu:=mu_le F (at_:Int);obtain⟨S1,a1,a2,a3⟩:=qlj hK hw hL at_ T.length (Int.natCast_nonneg at_) (show x≠b by omega) (show x≠r by omega) (L.length+1) m F 0 S h hF hxn hlen hw.pos (by omega);refine⟨S1,?_,a2,a3⟩;rw[show((0:Nat):Int)=0 from rfl]at a1;rw[show(!(none:Option (Int×Int)).isSome)=true from rfl,cT,lnStr_sv,oB];dsimp only;rw[a1,callP_ret]
  obtain⟨S1,e1,e2,e3⟩:=ent;have h1:Rg gr S1 b r L ts:=h.grew (by omega) (by omega) e3;have hlen1:(entG L T.length o F at_).length=L.length:=entG_len hw hlen;obtain⟨S2,c1,c2,c3,c4⟩:=mid_run (ev E0 K (m+(L.length+1)+1)) N nk ek j o (T:=T) (at_:=at_) hw.pos hlen1 hL h1 e2 (hp.grew hpn (fun e=>hxp e.symm) e3) hxp (by omega) (by omega);have hpn2:p<S2.next:=by have:=e3.next; omega
  have g12:Grew (fun z=>N0<=z) S S2:=(e3.mono fun z _ hz=>by omega).trans (c3.mono fun z _ hz=>by omega);cases q with
  | nil=>
   have hle:T.length<=at_:=List.drop_eq_nil_iff.1 hq;refine⟨S2,?_,c2,hpn2,g12⟩;rw[e1,c1,dT (show(at_:Int)=(T.length:Int) by omega),cT,whG]
  | cons c q=>
   obtain⟨hlt,hc,hd,_⟩:=qg1 hq;obtain⟨U,y,d1,d2,d3,d4,d5,d6,d7,d8,d9⟩:=tail_run hK hw hL m N hN nk ek j hlt hT (hitG L (at_:Int) (entG L T.length o F at_) o) hlen1 (h1.grew (by omega) (by omega) c3) hb hr (e2.grew (Nat.lt_of_lt_of_le hxn e3.next) hxp c3) c2 (by have:=e3.next; omega) hpn2 hx0 hp0;rw[e1,c1,dF (show ¬(at_:Int)=(T.length:Int) by omega),cF,d1,whG];rw[hc]at d3 ⊢;cases hcc:(!(hitG L (at_:Int) (entG L T.length o F at_) o).isSome||lvF L c (entG L T.length o F at_) 0)with
   | false=>
    rw[cF,cF];exact⟨U,rfl,d4,d8,g12.trans d9⟩
   | true=>
    rw[cT,cT];have hbl:(qcj L).length=L.length:=by unfold qcj; simp
    obtain⟨V,f1,f2,f3,f4⟩:=L13_spec hK hw hL m N hN nk ek hT hb hr hp0 q (at_+1) (nxF L c (at_+1) T.length (entG L T.length o F at_) 0 (qcj L)) (hitG L (at_:Int) (entG L T.length o F at_) o) y j U d2 d3 d4 d5 d8 d6 d7 (nxF_len hw _ 0 _ hbl) hd hlt (by simp at hj; omega);exact⟨V,f1,f2,f3,(g12.trans d9).trans f4⟩
theorem whole_run {K:FuncId->Option KF} (hK:∀f,f≠9->K f=none) (hw:WF L) (hL:L.length<=1000) (m:Nat) {T:List UInt8} {from_:Nat} (hT:T.length<=1000) (hf:from_<=T.length) (h:Rg gr S b r L ts) :
 ∃U,(ev E0 K (m+(L.length+1)+2)).f 14 [.ptr b 0,sv T,.int .i64 (from_:Int)] S=some (.ret (.tuple [.agg 2 (spT (qcw L T from_)),.bool (qcw L T from_).isSome]),U)/\Grew (fun z=>S.next<=z) S U:=by
 have ho:=h.on;obtain⟨a1,a2,a3⟩:=qe2 ho 30 2 (tr2 0 0);have on1:(nwP 30 2 (tr2 0 0) S).2.on=false:=qfs ho _;have h1:Rg gr (nwP 30 2 (tr2 0 0) S).2 b r L ts:=h.grew (fun h=>h) (fun h=>h) a2;obtain⟨S2,b1,b2,b3,b4⟩:=blank_run hK (m+(L.length+1)) h1 hL;have h2:Rg gr S2 b r L ts:=h1.grew (fun h=>h) (fun h=>h) b3;have hp2:=a1.grew (by omega) (fun h=>h) b3;have hb:=h.hb;have hr:=h.hr;obtain⟨U,c1,c2,c3,c4⟩:=L13_spec hK hw hL m qa3 (by unfold qa3; omega) (R14_5 (ev E0 K (m+(L.length+1)+1)) qa3 (qbg E0 (ev E0 K (m+(L.length+1)+1)) Try.f14) qav) (exB 0 (R14_5 (ev E0 K (m+(L.length+1)+1)) qa3 (qbg E0 (ev E0 K (m+(L.length+1)+1)) Try.f14) qav) qav) (N0:=S.next) (p:=S.next) hT hb hr (lR _) (T.drop from_) from_ (qcj L) none (nwP 30 2 (tr2 0 0) S).2.next qa3 S2 h2 b2 hp2 b4 (by omega) (by omega) (by omega) (by unfold qcj; simp) rfl hf (by rw[List.length_drop]; unfold qa3; omega)
 have g:Grew (fun z=>S.next<=z) S U:=((a2.trans b3).mono fun _ _ h=>h.elim).trans c4;have onU:=g.on.trans ho;obtain⟨V,d1,d2,d3,d4⟩:=c2.stA onU big2 (spT (qcw L T from_));have onV:=d3.on.trans onU;refine⟨V,qax (c:=C14) (d:=B14) (by kernel_rfl) (by kernel_rfl) (qa7 C14 _ (by kernel_rfl)) (hK 14 (by decide)) (?_:F14 (ev E0 K (m+(L.length+1)+1)) qa3 (.ptr b 0) (sv T) (.int .i64 (from_:Int)) S=_),g.trans (d3.mono fun z _ hz=>by omega)⟩;rw[F14_eq,oB];show qad ((ev E0 K (m+(L.length+1)+1)).f 20 [.ptr b 0] (nwP 30 2 (tr2 0 0) S).2) _=_;rw[b1,callP_ret];refine c1.trans ?_;rw[exB_same,R14_5_eq];rw[show whG L T.length (T.drop from_) from_ (qcj L) none=qcw L T from_ from rfl]at c2 ⊢;rw[c2.ldA onU big2,oB];dsimp only;rw[d1,oB];dsimp only;rw[d2.ldrA onV big2,oB]
end
def OkLog (N:Nat) (l:List LE):Prop:=∀e∈l,e.w=true->N<=e.b
theorem OkLog.nil (N:Nat):OkLog N []:=fun _ h=>by cases h
theorem OkLog.rd {N:Nat} {l:List LE} (h:OkLog N l) (b i j:Nat):OkLog N (⟨b,i,j,false⟩::l):=fun e he hw=>by
 rcases List.mem_cons.1 he with rfl|he
 . cases hw
 . exact h e he hw
theorem OkLog.wr {N:Nat} {l:List LE} (h:OkLog N l) {b:Nat} (hb:N<=b) (i j:Nat):OkLog N (⟨b,i,j,true⟩::l):=fun e he hw=>by
 rcases List.mem_cons.1 he with rfl|he
 . exact hb
 . exact h e he hw
theorem OkLog.of_rd {N:Nat} {l:List LE} (h:(l.all fun e=>!e.w)=true):OkLog N l:=fun e he hw=>by
 have:=List.all_eq_true.1 h e he;rw[hw]at this;cases this
theorem clash1_new {N p i j:Nat} (hp:p<N):∀{l:List LE},OkLog N l->qh5 ⟨p,i,j,false⟩ l=false
 | [],_=>rfl
 | f::l,h=>by
  unfold qh5
  have hm:meet ⟨p,i,j,false⟩ f=false:=by
   cases hw:f.w with
   | false=>
    have:=meet_read p i j f.b f.lo f.hi;rw[show f=⟨f.b,f.lo,f.hi,false⟩ by rw[<- hw]];exact this
   | true=>
    have:=h f (List.mem_cons_self ..) hw;unfold meet;rw[show Nat.beq p f.b=false from beq_false.2 (by omega)];rfl
  rw[hm];exact clash1_new hp fun g hg=>h g (mO _ hg)
section
variable {S:St}
theorem ldA_lg (ho:S.on=false) {b off z:Nat} {v:V} (h:ldA z (.ptr b off) S=some (v,S)) (l:List LE):ldA z (.ptr b off) (S.lg l)=some (v,S.lg (⟨b,off,off+z,false⟩::l)):=by
 have h':((ldK S b off z).bind fun p=>some (V.agg z p.1,p.2))=some (v,S):=h;show((ldK (S.lg l) b off z).bind fun p=>some (V.agg z p.1,p.2))=_;simp only[oI,oS,pM]at h';obtain⟨⟨t,s'⟩,h1,h2,h3⟩:=h'
 have hx:ldK (S.lg l) b off z=some (t,S.lg (⟨b,off,off+z,false⟩::l)):=by
  unfold ldK at h1 ⊢;rw[show(S.lg l).heap=S.heap from rfl];split at h1
  . rename_i e esz n ro c hb
    cases hc:(Nat.ble (off+z) (esz*n)&&Nat.blt (esz*n) big)with
    | false=>rw[hc]at h1; cases h1
    | true=>
     rw[hc]at h1;simp only[cT,oI,oS,pM]at h1 ⊢;obtain⟨w,h4,rfl,_⟩:=h1;exact⟨w,h4,rfl,rfl⟩
  . cases h1
 rw[hx,oB,<- h2]
theorem stA_lg (ho:S.on=false) {b off z:Nat} {u:Tr V} {T:St} (h:stP z (.ptr b off) (.agg z u) S=some (.tuple [],T)) (l:List LE):stP z (.ptr b off) (.agg z u) (S.lg l)=some (.tuple [],T.lg (⟨b,off,off+z,true⟩::l)):=by
 rw[stP_agg]at h ⊢;unfold vu at h ⊢;simp only[oI,oS,pM,true_and]at h;obtain⟨T',h1,rfl⟩:=h
 have hx:stK (S.lg l) b off z u=some (T'.lg (⟨b,off,off+z,true⟩::l)):=by
  unfold stK at h1 ⊢;rw[show(S.lg l).heap=S.heap from rfl];split at h1
  . rename_i e esz n ro c hb
    cases hc:(Nat.ble (off+z) (esz*n)&&Nat.blt (esz*n) big&&!ro)with
    | false=>rw[hc]at h1; cases h1
    | true=>
     rw[hc]at h1;simp only[cT,oI,oS]at h1 ⊢;obtain⟨w,h4,h5⟩:=h1;refine⟨w,h4,?_⟩;rw[qb6 ho]at h5;rw[<- h5];rfl
  . cases h1
 rw[hx,oB]
theorem bsP_1_lg (ho:S.on=false) (z:Int) {T:St} (h:bsP 3 1 1 (Ev.one (.int .i64 0)) [(0,.int .i64 z)] S=some (.slice S.next 0 1 1,T)) (l:List LE):bsP 3 1 1 (Ev.one (.int .i64 0)) [(0,.int .i64 z)] (S.lg l)=some (.slice S.next 0 1 1,T.lg (⟨S.next,0,big,true⟩::l)):=by
 unfold bsP at h ⊢;simp only[oI,oS,pM,true_and]at h;obtain⟨w,h1,h2⟩:=h;rw[h1,oB,nw_lg ho,h2];rfl
theorem bsP_2_lg (ho:S.on=false) (z w:Int) {T:St} (h:bsP 3 1 2 (Ev.one (.int .i64 0)) [(0,.int .i64 z),(1,.int .i64 w)] S=some (.slice S.next 0 2 2,T)) (l:List LE):bsP 3 1 2 (Ev.one (.int .i64 0)) [(0,.int .i64 z),(1,.int .i64 w)] (S.lg l)=some (.slice S.next 0 2 2,T.lg (⟨S.next,0,big,true⟩::l)):=by
 unfold bsP at h ⊢;simp only[oI,oS,pM,true_and]at h;obtain⟨w,h1,h2⟩:=h;rw[h1,oB,nw_lg ho,h2];rfl
theorem nwP_lg (ho:S.on=false) (e z:Nat) (t:Tr V) (l:List LE):nwP e z t (S.lg l)=(.ptr S.next 0,(nwP e z t S).2.lg (⟨S.next,0,big,true⟩::l)):=by
 show(V.ptr S.next 0,qag (S.lg l) e z [t])=_;rw[qm2 ho];rfl
end
end Go.Proofs.Ytachpdpmoihjmaa.W
