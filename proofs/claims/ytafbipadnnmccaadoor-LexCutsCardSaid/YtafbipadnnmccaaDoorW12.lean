/-
  WHAT THE FUNCTIONS COME TO: each is read by the evaluator,printed,and told as a function of data,part 12 of 17 (no condition).
-/
import Derived.Test.YtafbipadnnmccaaDoorW11
namespace Go.Proofs.YtafbipadnnmccaaDoor.W
open Go.Proofs.YtafbipadnnmccaaDoor.Ev Go.RowKit
theorem refX:RefL KX:=by constructor<;>rfl
def Hd (S:St):Prop:=2<=S.next/\∃e,S.heap.get 0=some (.cells e 1 1 true (sG.one2 (Ev.one (.iface 136 (.agg 1 (Ev.one (.ptr 1 24)))))))
theorem Hd.grew {W:Nat->Prop} {S U:St} (h:Hd S) (hW:¬W 0) (g:Grew W S U):Hd U:=by
 obtain⟨h1,e,h2⟩:=h;exact⟨Nat.le_trans h1 g.next,e,by rw[g.keep 0 (by omega) hW]; exact h2⟩
theorem eql24 (x:Nat):qa4 E0 .eql 24 false true (.iface 51 (.ptr x 0)) .niliface=some (.bool false):=by kernel_rfl
theorem eql24n:qa4 E0 .eql 24 false true .niliface .niliface=some (.bool true):=by kernel_rfl
theorem eql27c (n:Nat):qa4 E0 .eql 27 false true (.int .i64 (n:Int)) (.int .i64 0)=some (.bool (decide (n=0))):=by
 rw[binV_ii,intsV_eql]
 congr 2
 simp
theorem eql27s (n:Nat):qa4 E0 .eql 27 false false (.int .i64 (n:Int)) (.int .i64 (n:Int))=some (.bool true):=by
 rw[binV_ii,intsV_eql]
 congr 2
 simp
theorem eql3s (n:Nat):qa4 E0 .eql 3 false false (.int .i64 (n:Int)) (.int .i64 (n:Int))=some (.bool true):=by
 rw[binV_ii,intsV_eql]
 congr 2
 simp
theorem flt0 (c n:Nat):(qb6 c n).get 0=some (.int .i64 (c:Int)):=by unfold qb6; rw[Tr.get_ofList]; rfl
theorem flt1 (c n:Nat):(qb6 c n).get 1=some (.int .i64 (n:Int)):=by unfold qb6; rw[Tr.get_ofList]; rfl
theorem qda:2<big:=by unfold big; decide
theorem pairs_told (q x n0:Nat) (l:List LE):qai [[],[],l,[],[⟨q,0,0+1,false⟩],[],[],[⟨x,0,0+1,false⟩],[],[⟨n0,0,0+1,false⟩],[],[],[],[⟨q,0,0+1,false⟩],[],[],[⟨x,1,1+1,false⟩],[],[⟨n0,1,1+1,false⟩],[],[],[],[],[],[⟨n0,0,0+1,false⟩],[],[⟨x,0,0+1,false⟩],[],[]] [(4,[9]),(7,[9]),(13,[18]),(16,[18])]=true:=by
 have h1:=qb3 q 0 (0+1) n0 0 (0+1) false (.inl rfl);have h2:=qb3 x 0 (0+1) n0 0 (0+1) false (.inl rfl);have h3:=qb3 q 0 (0+1) n0 1 (1+1) false (.inl rfl);have h4:=qb3 x 1 (1+1) n0 1 (1+1) false (.inl rfl);show(bif (bif qbr [⟨q,0,0+1,false⟩] [⟨n0,0,0+1,false⟩]then true else false)then false else(bif (bif qbr [⟨x,0,0+1,false⟩] [⟨n0,0,0+1,false⟩]then true else false)then false else(bif (bif qbr [⟨q,0,0+1,false⟩] [⟨n0,1,1+1,false⟩]then true else false)then false else(bif (bif qbr [⟨x,1,1+1,false⟩] [⟨n0,1,1+1,false⟩]then true else false)then false else true))))=true;rw[h1,h2,h3,h4];rfl
structure KnX (K:FuncId->Option KF):Prop where
 r:RefL K
 a:K 32=some (knAs 51 71 136 24 0 1)
 i:K 33=some kfIs
theorem knX:KnX KX:=⟨refX,rfl,rfl⟩
section
variable {K:FuncId->Option KF} {S U T:St}
theorem as_run (hX:KnX K) (m x q:Nat) (hH:Hd S) (ho:S.on=false) (hq:AgAt S q 51 1 (Ev.one .nilptr)) (hq0:q≠0):∃U l,(ev E0 K (m+1)).f 32 [.iface 51 (.ptr x 0),.iface 71 (.ptr q 0)] (onS S)=some (.ret (.bool true),U.lg l)/\AgAt U q 51 1 (Ev.one (.ptr x 0))/\Grew (fun y=>y=q) S U/\U.next=S.next:=by
 obtain⟨U,k1,k2,k3,k4⟩:=hq.st_one ho (.ptr x 0) rfl rfl rfl;obtain⟨hn,e,hb⟩:=hH
 have hstK:stK S q 0 1 (Ev.one (.ptr x 0))=some U:=by
  have h':vu (stK S q 0 1 (Ev.one (.ptr x 0)))=some (.tuple [],U):=k1;unfold vu at h';simp only[oI,oS,pM,true_and]at h';obtain⟨u,hu,rfl⟩:=h';exact hu
 obtain⟨_,l,hl⟩:=stK_lg ho hstK [⟨0,0,0+1,false⟩];refine⟨U,l,?_,k2,k3,k4⟩;rw[ev_known hX.a];show(bif Nat.beq 51 51&&Nat.beq 71 71 then asHit 0 136 1 24 x 0 q 0 (onS S)else none)=_;rw[show(Nat.beq 51 51&&Nat.beq 71 71)=true from rfl,cT];unfold asHit
 have hld:ld (onS S) 0 0=some (.iface 136 (.agg 1 (Ev.one (.ptr 1 24))),S.lg [⟨0,0,0+1,false⟩]):=by
  unfold ld;rw[show(onS S).heap.get 0=_ from hb];rfl
 rw[hld,oB];dsimp only;rw[show qj3 136 1 24 (.iface 136 (.agg 1 (Ev.one (.ptr 1 24))))=true by kernel_rfl,cT,hl];rfl
theorem is_run (hX:KnX K) (m b c:Nat) (T:St) {s':St} (h:ld T b 0=some (.int .i64 (c:Int),s')):(ev E0 K (m+1)).f 33 [.iface 51 (.ptr b 0),.iface 27 (.int .i64 (c:Int))] T=some (.ret (.bool true),s'):=by
 rw[ev_known hX.i];show(bif Nat.beq 51 51&&Nat.beq 27 27 then(ld T b 0).bind fun q=>bif (match q.1 with|.int .i64 c'=>decide (c'=(c:Int))|_=>false)then some (En.ret (.bool true),q.2)else none else none)=_;rw[show(Nat.beq 51 51&&Nat.beq 27 27)=true from rfl,cT,h,oB];dsimp only;rw[dT rfl,cT]
theorem told_ok (hX:KnX K) (m:Nat) (ho:S.on=false) (n:Nat):∃U,(ev E0 K (m+1)).f 10 [.niliface,.agg 2 (qb6 0 n)] S=some (.ret (.bool true),U)/\Grew (fun _=>False) S U:=by
 obtain⟨n1,n2,n3⟩:=qar ho 29 2 (qb6 0 n);have on1:=n2.on.trans ho;have hk:=n1.ld1 on1 qda (by decide) (flt0 0 n);refine⟨_,rv10 hX.r ?_,n2⟩;show F10 (ev E0 K m) qa3 .niliface (.agg 2 (qb6 0 n)) S=_;rw[F10_eq,show ∀T:Tr V,boxK 29 (.agg 2 T) S=some (.ptr S.next 0,(nwP 29 2 T S).2)from fun T=>rfl,oB,eql24n,oB];simp only[g_f,Bool.not_true,b_s,c_f,qf1,p_b,c_t,i_b,eql24n,g_t,f_0,hk];rw[show(V.int .i64 ((0:Nat):Int))=.int .i64 ((0:Nat):Int)from rfl,eql27c,b_s];rfl
theorem told_yes (hX:KnX K) (m:Nat) (ho:S.on=false) (hH:Hd S) {x c n:Nat} (hx:AgAt S x 52 2 (qb6 c n)) (hxn:x<S.next) (hc:c≠0):∃U,(ev E0 K (m+2)).f 10 [.iface 51 (.ptr x 0),.agg 2 (qb6 c n)] S=some (.ret (.bool true),U)/\Grew (fun _=>False) S U:=by
 obtain⟨n1,n2,n3⟩:=qar ho 29 2 (qb6 c n);have on1:=n2.on.trans ho;have hk:=n1.ld1 on1 qda (by decide) (flt0 c n);obtain⟨p1,p2,p3⟩:=qar on1 51 1 (Ev.one .nilptr);have on2:=p2.on.trans on1;have nx1:=n2.next
 have nx2:=p2.next
 have hh:=hH.1;obtain⟨U,l,a1,a2,a3,a4⟩:=as_run hX m x _ ((hH.grew (fun h=>h) n2).grew (fun h=>h) p2) on2 p1 (by omega);have onU:=a3.on.trans on2;have f1:AgAt U S.next 29 2 (qb6 c n):=(n1.grew (by omega) (fun h=>h) p2).grew (by omega) (by omega) a3
 have f2:AgAt U x 52 2 (qb6 c n):=((hx.grew hxn (fun h=>h) n2).grew (by omega) (fun h=>h) p2).grew (by omega) (by omega) a3;obtain⟨T4,e1,e2,e3,e4⟩:=qcp on2 U [] [[],[],(U.lg l).log,[],(U.lg [⟨(nwP 29 2 (qb6 c n) S).2.next,0,0+1,false⟩]).log,[],[],(U.lg [⟨x,0,0+1,false⟩]).log,[],(U.lg [⟨S.next,0,0+1,false⟩]).log,[],[],[],(U.lg [⟨(nwP 29 2 (qb6 c n) S).2.next,0,0+1,false⟩]).log,[],[],(U.lg [⟨x,1,1+1,false⟩]).log,[],(U.lg [⟨S.next,1,1+1,false⟩]).log,[],[],[],[],[],(U.lg [⟨S.next,0,0+1,false⟩]).log,[],(U.lg [⟨x,0,0+1,false⟩]).log,[],[]];refine⟨T4,rv10 hX.r ?_,⟨by omega,e4.trans ho.symm,fun y hy hw=>by rw[e2]; exact(a3.keep y (by omega) (by omega)).trans ((p2.keep y (by omega) hw).trans (n2.keep y hy hw))⟩⟩;show F10 (ev E0 K (m+1)) qa3 (.iface 51 (.ptr x 0)) (.agg 2 (qb6 c n)) S=_;rw[F10_eq,show ∀T:Tr V,boxK 29 (.agg 2 T) S=some (.ptr S.next 0,(nwP 29 2 T S).2)from fun T=>rfl,oB,eql24,oB];simp only[g_f,nF,b_s,c_t,f_0,hk,eql27c,p_b,c_f];rw[dF hc,i_b,c_f,qan,a1,qbs];have l1:∀L,ld1 (.ptr (nwP 29 2 (qb6 c n) S).2.next 0) (U.lg L)=some (.ptr x 0,U.lg (⟨(nwP 29 2 (qb6 c n) S).2.next,0,0+1,false⟩::L)):=fun L=>qbj onU (ag1 onU a2) L;have l2:∀L,ld1 (.ptr x 0) (U.lg L)=some (.int .i64 (c:Int),U.lg (⟨x,0,0+1,false⟩::L)):=fun L=>qbj onU (f2.ld1 onU qda (by decide) (flt0 c n)) L
 have l3:∀L,ld1 (.ptr x 1) (U.lg L)=some (.int .i64 (n:Int),U.lg (⟨x,1,1+1,false⟩::L)):=fun L=>qbj onU (f2.ld1 onU qda (by decide) (flt1 c n)) L;have l4:∀L,ld1 (.ptr S.next 0) (U.lg L)=some (.int .i64 (c:Int),U.lg (⟨S.next,0,0+1,false⟩::L)):=fun L=>qbj onU (f1.ld1 onU qda (by decide) (flt0 c n)) L;have l5:∀L,ld1 (.ptr S.next 1) (U.lg L)=some (.int .i64 (n:Int),U.lg (⟨S.next,1,1+1,false⟩::L)):=fun L=>qbj onU (f1.ld1 onU qda (by decide) (flt1 c n)) L;have o1:∀L,onS (U.lg L)=U.lg []:=fun L=>rfl;have hf1:∀y,faP 1 false 1 (.ptr y 0)=some (.ptr y 1):=fun y=>rfl;simp only[g_t,b_s,c_t,o1,l1,n_k,f_0,l2,l4,eql27s,p_b,hf1,l3,l5,eql3s];rw[is_run hX m x c (U.lg []) (l2 []),qbs,qf0 (show qai [[],[],(U.lg l).log,[],(U.lg [⟨(nwP 29 2 (qb6 c n) S).2.next,0,0+1,false⟩]).log,[],[],(U.lg [⟨x,0,0+1,false⟩]).log,[],(U.lg [⟨S.next,0,0+1,false⟩]).log,[],[],[],(U.lg [⟨(nwP 29 2 (qb6 c n) S).2.next,0,0+1,false⟩]).log,[],[],(U.lg [⟨x,1,1+1,false⟩]).log,[],(U.lg [⟨S.next,1,1+1,false⟩]).log,[],[],[],[],[],(U.lg [⟨S.next,0,0+1,false⟩]).log,[],(U.lg [⟨x,0,0+1,false⟩]).log,[],[]] [(4,[9]),(7,[9]),(13,[18]),(16,[18])]=true from pairs_told _ x S.next l),show onS (U.lg [(⟨x,0,0+1,false⟩:LE)])=U.lg []from rfl,e1]
end
def mrkS (k:Nat):Bs:=match k with|0=>[]|1=>[113]|2=>[36]|_=>[40]
mutual
def psP:Part->Bs
 | .mk k t o q w=>mrkS k++(if q then [81]else [])++t++o++(if w.isEmpty then []else [60]++psL w++[62])
def psL:List Part->Bs
 | []=>[]
 | p::l=>psP p++(if l.isEmpty then []else [46])++psL l
end
mutual
def depP:Part->Nat
 | .mk _ _ _ _ w=>qdg w+1
def qdg:List Part->Nat
 | []=>0
 | p::l=>max (depP p) (qdg l)
end
theorem faK (i b:Nat):faP i false 1 (.ptr b 0)=some (.ptr b (0+i)):=Eq.trans rfl rfl
theorem build_114:qa7 E0 114 [(0,(sv [])),(1,(sv [113])),(2,(sv [36])),(3,(sv [40]))]=some (.agg 4 (Tr.ofListFrom .nil [sv [],sv [113],sv [36],sv [40]] 0)):=by kernel_rfl
theorem mark0:ixV 4 1 false 1 (.agg 4 (Tr.ofListFrom .nil [sv [],sv [113],sv [36],sv [40]] 0)) (.int .i64 0)=some (sv []):=by kernel_rfl
theorem mark1:ixV 4 1 false 1 (.agg 4 (Tr.ofListFrom .nil [sv [],sv [113],sv [36],sv [40]] 0)) (.int .i64 1)=some (sv [113]):=by kernel_rfl
theorem mark2:ixV 4 1 false 1 (.agg 4 (Tr.ofListFrom .nil [sv [],sv [113],sv [36],sv [40]] 0)) (.int .i64 2)=some (sv [36]):=by kernel_rfl
theorem mark3:ixV 4 1 false 1 (.agg 4 (Tr.ofListFrom .nil [sv [],sv [113],sv [36],sv [40]] 0)) (.int .i64 3)=some (sv [40]):=by kernel_rfl
theorem mark_ix (k:Nat):ixV 4 1 false 1 (.agg 4 (Tr.ofListFrom .nil [sv [],sv [113],sv [36],sv [40]] 0)) (.int .i64 (max (min (k:Int) 3) 0))=some (sv (mrkS k)):=by
 match k with
 | 0=>exact mark0
 | 1=>exact mark1
 | 2=>exact mark2
 | k+3=>
  rw[show max (min ((k+3:Nat):Int) 3) 0=3 by omega,show mrkS (k+3)=[40]from rfl];exact mark3
theorem rowP0 (k:Nat) (t o:Bs) (q:Bool) (v:V):(qcr k t o q v).get 0=some (.int .i64 (k:Int)):=by unfold qcr; rw[Tr.get_ofList]; rfl
theorem rowP1 (k:Nat) (t o:Bs) (q:Bool) (v:V):(qcr k t o q v).get 1=some (sv t):=by unfold qcr; rw[Tr.get_ofList]; rfl
theorem rowP2 (k:Nat) (t o:Bs) (q:Bool) (v:V):(qcr k t o q v).get 2=some (sv o):=by unfold qcr; rw[Tr.get_ofList]; rfl
theorem rowP3 (k:Nat) (t o:Bs) (q:Bool) (v:V):(qcr k t o q v).get 3=some (.bool q):=by unfold qcr; rw[Tr.get_ofList]; rfl
theorem rowP4 (k:Nat) (t o:Bs) (q:Bool) (v:V):(qcr k t o q v).get 4=some v:=by unfold qcr; rw[Tr.get_ofList]; rfl
section
variable {K:FuncId->Option KF} {S U T:St}
def PshOk (K:FuncId->Option KF) (d:Nat) (l:List Part):Prop:=∀(S:St) (v:V) (rows:List (Tr V)) (Q:Nat->Prop),S.on=false->RV S v 49 6 rows->PrAt S Q l rows->(∀x,Q x->x<S.next)->(psL l).length<1000000000->∃U,(ev E0 K d).f 36 [v] S=some (.ret (sv (psL l)),U)/\Grew (fun _=>False) S U
theorem qle (self:EV) (N:Nat) (nk:Ac->St->Rs) (ek:Nat->Ac->St->Rs) (q:Nat) {v:V} {rows:List (Tr V)} (hv:RV S v 49 6 rows) (j:Nat) (hj:j<9223372036854770000) (t:Bs) (ht:t.length<2000000000) (U:St) :
 ((qa4 E0 .add 3 false true (.int .i64 (j:Int)) (.int .i64 1)).bind fun t52=>(lnS v U).bind fun p54=>(qa4 E0 .lss 3 false false t52 p54.1).bind fun t55=>ifK t55 (
   (qa4 E0 .add 9 false true (sv t) (sv [46])).bind fun t57=>(qa4 E0 .add 3 false true (.int .i64 (j:Int)) (.int .i64 1)).bind fun t60=>qg5 self N nk ek q v t57 t60 p54.2) (
   (qa4 E0 .add 3 false true (.int .i64 (j:Int)) (.int .i64 1)).bind fun t63=>qg5 self N nk ek q v (sv t) t63 p54.2))=qg5 self N nk ek q v (sv (t++if j+1<rows.length then [46]else [])) (.int .i64 ((j+1:Nat):Int)) U:=by
 rw[qb0 (by omega),b_s,hv.len,b_s];dsimp only;rw[qdz,b_s,i_b];by_cases h:j+1<rows.length
 . rw[dT h,c_t,qbh _ _ (by simp; omega),b_s,b_s,iP h]
 . rw[dF h,c_f,b_s,iN h,List.append_nil]
theorem psh_loop (hK:RefL K) (d n:Nat) (ih:∀w,qdg w<n->PshOk K d w) (N:Nat) (nk:Ac->St->Rs) (ek:Nat->Ac->St->Rs) {v:V} {rows:List (Tr V)} {Q:Nat->Prop} :
 ∀(l:List Part) (j q:Nat) (o:Bs) (rest:List (Tr V)) (S:St),S.on=false->RV S v 49 6 rows->(∀x,Q x->x<S.next)->rows.drop j=rest->PrAt S Q l rest->qdg l<=n->l.length<q->(o++psL l).length<1000000000->
 ∃U,qg5 (ev E0 K d) N nk ek q v (sv o) (.int .i64 (j:Int)) S=ek 0 (fr 55 [(3,sv (o++psL l))]) U/\Grew (fun _=>False) S U
 | l,j,0,o,rest,S,_,_,_,_,_,_,hq,_=>by omega
 | [],j,q+1,o,rest,S,ho,hv,hQ,hr,hp,hn,hq,hl=>by
  simp only[PrAt]at hp;rw[hp]at hr;have:=qc4 hr;refine⟨S,?_,Grew.refl _ _⟩;rw[L36_6_eq,hv.len,b_s];dsimp only;rw[qdz,dF (by omega),b_s,i_b,c_f,psL,List.append_nil]
 | .mk k t op qd w::l,j,q+1,o,rest,S,ho,hv,hQ,hr,hp,hn,hq,hl=>by
  simp only[PrAt]at hp;obtain⟨c,rest',rfl,hc,hp'⟩:=hp;simp only[PtAt]at hc;obtain⟨v',rows',rfl,hv',hw,hb⟩:=hc;obtain⟨hlt,e1,e2,_⟩:=qcy hr;obtain⟨r,hr1,hr2,hr3,hr4⟩:=hv.at hlt;have hg:rows[j]?=some (qcr k t op qd v'):=by rw[List.getElem?_eq_getElem hlt,e1]
  obtain⟨n1,n2,n3⟩:=qar ho 49 6 (Tr.ofListFrom .nil [(.int .i64 0),(sv []),(sv []),(.bool false),.nilslice,.nilptr] 0);have on1:=n2.on.trans ho;obtain⟨S2,m1,m2,m3,m4⟩:=n1.stA on1 qej (qcr k t op qd v');have on2:=m3.on.trans on1;have nx:=n2.next
  have g2:Grew (fun _=>False) S S2:=⟨by omega,on2.trans ho.symm,fun x hx hw=>by rw[m3.keep x (by omega) (by omega)]; exact n2.keep x hx hw⟩
  have hd':qdg w<n:=by
   simp only[qdg,depP]at hn;omega
  have hdl:qdg l<=n:=by
   simp only[qdg]at hn;omega
  have f0:=m2.ld1 on2 qej (by decide) (rowP0 k t op qd v');have f1:=m2.ld1 on2 qej (by decide) (rowP1 k t op qd v');have f2:=m2.ld1 on2 qej (by decide) (rowP2 k t op qd v');have f3:=m2.ld1 on2 qej (by decide) (rowP3 k t op qd v');have f4:=m2.ld1 on2 qej (by decide) (rowP4 k t op qd v');have hv2:RV S2 v 49 6 rows:=hv.grew (fun _ _ h=>h) g2;have hv'2:RV S2 v' 49 6 rows':=hv'.grew (fun _ _ h=>h) g2;have hw2:PrAt S2 Q w rows':=PrAt.grew g2 (fun _ _ h=>h) hw
  have hj:j<9223372036854770000:=by
   have:=hr3.fit;unfold big at this;omega
  have hsep:(if j+1<rows.length then [46]else []:Bs)=if l.isEmpty then []else [46]:=by
   have:rest'.length=l.length:=hp'.len;have e3:=congrArg List.length e2;rw[List.length_drop]at e3;cases l with
   | nil=>rw[iN (by rw[List.length_nil]at this; rw[this]at e3; omega)]; rfl
   | cons a l=>rw[iP (by rw[List.length_cons]at this; omega)]; rfl
  rw[psL,psP]at hl;simp only[lAq]at hl
  have hmk:(mrkS k).length<=1:=by
   unfold mrkS;split<;>simp
  have hE:qg5 (ev E0 K d) N nk ek (q+1) v (sv o) (.int .i64 (j:Int)) S=_:=L36_6_eq ..;rw[hv.len,b_s]at hE;dsimp only at hE;rw[qdz,dT hlt,b_s,i_b,c_t,hr2,b_s,rv_ldA ho hr3 hg,b_s]at hE;dsimp only at hE;rw[b_s,qan,m1,b_s,build_114,b_s]at hE;dsimp only at hE;rw[faK,b_s,f0,b_s]at hE;dsimp only at hE;rw[foldK_min,b_s]at hE;dsimp only at hE;rw[foldK_max,b_s]at hE;dsimp only at hE;rw[mark_ix,b_s,faK,b_s,f3,b_s]at hE;dsimp only at hE;rw[i_b]at hE
  have fin:∀(tx:Bs) (U:St),Grew (fun _=>False) S2 U->tx=o++psP (.mk k t op qd w)->qg5 (ev E0 K d) N nk ek (q+1) v (sv o) (.int .i64 (j:Int)) S=qg5 (ev E0 K d) N nk ek q v (sv (tx++if j+1<rows.length then [46]else [])) (.int .i64 ((j+1:Nat):Int)) U->
   ∃U,qg5 (ev E0 K d) N nk ek (q+1) v (sv o) (.int .i64 (j:Int)) S=ek 0 (fr 55 [(3,sv (o++psL (.mk k t op qd w::l)))]) U/\Grew (fun _=>False) S U:=fun tx U g htx he=>by
   subst htx;have g3:=g2.trans g
   obtain⟨T,t1,t2⟩:=psh_loop hK d n ih N nk ek l (j+1) q (o++psP (.mk k t op qd w)++if l.isEmpty then []else [46]) rest' U (g3.on.trans ho) (hv.grew (fun _ _ h=>h) g3) (fun x hx=>Nat.lt_of_lt_of_le (hQ x hx) g3.next) e2 (PrAt.grew g3 (fun _ _ h=>h) hp') hdl (by simp only[List.length_cons]at hq; omega) (by
    simp only[lAq,psP]
    omega)
   refine⟨T,?_,g3.trans t2⟩;rw[he,hsep,t1,psL];simp only[List.append_assoc]
  have hlen:∀(T:St),lnS v' T=some (.int .i64 (rows'.length:Int),T):=hv'.len;have hwl:=hw.len
  have hgt:qa4 E0 .gtr 3 false true (.int .i64 (rows'.length:Int)) (.int .i64 0)=some (.bool (!w.isEmpty)):=by
   rw[show(V.int .i64 0)=.int .i64 ((0:Nat):Int)from rfl,binV_ii,intsV_gtr,hwl]
   congr 2
   cases w<;>simp
  cases qd with
  | true=>
   rw[c_t,qbh _ _ (by simp; omega),b_s,qbh _ _ (by simp; omega),b_s,faK,b_s,f1,b_s]at hE;dsimp only at hE;rw[qbh _ _ (by simp; omega),b_s,faK,b_s,f2,b_s]at hE;dsimp only at hE;rw[qbh _ _ (by simp; omega),b_s,faK,b_s,f4,b_s]at hE;dsimp only at hE;rw[hlen,b_s]at hE;dsimp only at hE;rw[hgt,b_s,i_b]at hE;cases hw0:w.isEmpty with
   | true=>
    rw[hw0,Bool.not_true,c_f,qle _ _ _ _ _ hv _ hj _ (by simp; omega)]at hE;exact fin _ _ (Grew.refl _ _) (by rw[psP,hw0]; simp) hE
   | false=>
    rw[hw0]at hl;simp only[Bool.false_eq_true,if_false,lAq,List.length_singleton]at hl;obtain⟨T,t1,t2⟩:=ih w hd' S2 v' rows' Q on2 hv'2 hw2 (fun x hx=>Nat.lt_of_lt_of_le (hQ x hx) g2.next) (by omega);rw[hw0,nF,c_t,qbh _ _ (by simp; omega),b_s,b_s,f4,b_s]at hE;dsimp only at hE;rw[t1,callP_ret,qbh _ _ (by simp; omega),b_s,qbh _ _ (by simp; omega),b_s,qle _ _ _ _ _ hv _ hj _ (by simp; omega)]at hE;exact fin _ _ t2 (by rw[psP,hw0]; simp) hE
  | false=>
   rw[c_f,qbh _ _ (by omega),b_s,faK,b_s,f1,b_s]at hE;dsimp only at hE;rw[qbh _ _ (by simp; omega),b_s,faK,b_s,f2,b_s]at hE;dsimp only at hE;rw[qbh _ _ (by simp; omega),b_s,faK,b_s,f4,b_s]at hE;dsimp only at hE;rw[hlen,b_s]at hE;dsimp only at hE;rw[hgt,b_s,i_b]at hE;cases hw0:w.isEmpty with
   | true=>
    rw[hw0,Bool.not_true,c_f,qle _ _ _ _ _ hv _ hj _ (by simp; omega)]at hE;exact fin _ _ (Grew.refl _ _) (by rw[psP,hw0]; simp) hE
   | false=>
    rw[hw0]at hl;simp only[Bool.false_eq_true,if_false,lAq,List.length_singleton]at hl;obtain⟨T,t1,t2⟩:=ih w hd' S2 v' rows' Q on2 hv'2 hw2 (fun x hx=>Nat.lt_of_lt_of_le (hQ x hx) g2.next) (by omega);rw[hw0,nF,c_t,qbh _ _ (by simp; omega),b_s,b_s,f4,b_s]at hE;dsimp only at hE;rw[t1,callP_ret,qbh _ _ (by simp; omega),b_s,qbh _ _ (by simp; omega),b_s,qle _ _ _ _ _ hv _ hj _ (by simp; omega)]at hE;exact fin _ _ t2 (by rw[psP,hw0]; simp) hE
theorem psh_run (hK:RefL K) (m:Nat):∀(n:Nat) (l:List Part),qdg l<=n->PshOk K (m+n+1) l
 | n,l,hn=>by
  intro S v rows Q ho hv hp hQ hl
  have ih:∀w,qdg w<n->PshOk K (m+n) w:=fun w hw=>by
   obtain⟨n',rfl⟩:∃n',n=n'+1:=⟨n-1,by omega⟩
   exact psh_run hK m n' w (by omega)
  have hlq:l.length<qa3:=by
   have h1:=hp.len;rcases hv with⟨h,_⟩|⟨r,h2,_,_,_⟩
   . rw[h]at h1
     simp at h1;unfold qa3;omega
   . have:=h2.fit
     unfold big at this;unfold qa3;omega
  obtain⟨U,u1,u2⟩:=psh_loop hK (m+n) n ih qa3 (R36_2 (ev E0 K (m+n)) qa3 (qbt E0 (ev E0 K (m+n)) Tryd.f36) qas) (exB 0 (R36_2 (ev E0 K (m+n)) qa3 (qbt E0 (ev E0 K (m+n)) Tryd.f36) qas) qas) l 0 qa3 [] rows S ho hv hQ rfl hp hn hlq (by simpa using hl);refine⟨U,rv36 hK ?_,u2⟩;show F36 (ev E0 K (m+n)) qa3 v S=_;rw[F36_eq,show(V.int .i64 0)=.int .i64 ((0:Nat):Int)from rfl,u1,exB_same,R36_2_eq,List.nil_append]
end
def shwT (t:Tok):Bs:=if t.kind=0 then [91]++psL t.parts++[93]else if t.kind=2 then [47]else if t.kind=3 then [123]++t.text++(if t.quoted then []else [58]++psL t.parts)++[125]else [32]++t.text++[32]
def shwL:List Tok->Bs
 | []=>[]
 | t::l=>shwT t++shwL l
def shwD:Except Flt (List Tok)->Bs
 | .error _=>[63]
 | .ok l=>shwL l
def depT (l:List Tok):Bool:=l.all fun t=>Nat.ble (qdg t.parts) 30
theorem rowT0 (t:Tok) (v:V):(qeb t v).get 0=some (.int .i64 (t.kind:Int)):=by unfold qeb; rw[Tr.get_ofList]; rfl
theorem rowT1 (t:Tok) (v:V):(qeb t v).get 1=some (sv t.text):=by unfold qeb; rw[Tr.get_ofList]; rfl
theorem rowT2 (t:Tok) (v:V):(qeb t v).get 2=some v:=by unfold qeb; rw[Tr.get_ofList]; rfl
theorem rowT3 (t:Tok) (v:V):(qeb t v).get 3=some (.bool t.quoted):=by unfold qeb; rw[Tr.get_ofList]; rfl
theorem rowT4 (t:Tok) (v:V):(qeb t v).get 4=some (.int .i64 (t.at_:Int)):=by unfold qeb; rw[Tr.get_ofList]; rfl
theorem eqKd (k c:Nat):qa4 E0 .eql 3 false true (.int .i64 (k:Int)) (.int .i64 (c:Int))=some (.bool (decide (k=c))):=by
 rw[binV_ii,intsV_eql]
 congr 2
 rw[Bool.eq_iff_iff];simp;omega
theorem qjj (b:Bool):unV .not (.bool b)=some (.bool (!b)):=Eq.trans rfl rfl
theorem nd_neq:qa4 E0 .neq 24 false true .niliface .niliface=some (.bool false):=by kernel_rfl
theorem nx_neq (x:Nat):qa4 E0 .neq 24 false true (.iface 51 (.ptr x 0)) .niliface=some (.bool true):=by kernel_rfl
theorem ln_nil (S:St):lnS .nilslice S=some (.int .i64 ((0:Nat):Int),S):=Eq.trans rfl rfl
theorem build_29 (c n:Nat):qa7 E0 29 [(0,.int .i64 (c:Int)),(1,.int .i64 (n:Int))]=some (.agg 2 (qb6 c n)):=by kernel_rfl
section
variable {K:FuncId->Option KF} {S U T:St}
theorem qfd (g:Grew (fun x=>S.next<=x) S U):Grew (fun _=>False) S U:=⟨g.next,g.on,fun x hx _=>g.keep x hx (by omega)⟩
theorem shw_loop (hK:RefL K) (d:Nat) (N:Nat) (nk:Ac->St->Rs) (ek:Nat->Ac->St->Rs) {v:V} {rows:List (Tr V)} {Q:Nat->Prop} {toks:List Tok} :
 ∀(l:List Tok) (j q:Nat) (o:Bs) (S:St),S.on=false->RV S v 39 5 rows->TksAt S Q toks rows->(∀x,Q x->x<S.next)->toks.drop j=l->depT l=true->l.length<q->(o++shwL l).length<1000000000->
 ∃U,qg1 (ev E0 K (d+31)) N nk ek q v (sv o) (.int .i64 (j:Int)) S=ek 0 (fr 78 [(5,sv (o++shwL l))]) U/\Grew (fun _=>False) S U
 | l,j,0,o,S,_,_,_,_,_,_,hq,_=>by omega
 | [],j,q+1,o,S,ho,hv,ht,hQ,hr,hdp,hq,hl=>by
  have:=qc4 hr;have h1:=ht.1;refine⟨S,?_,Grew.refl _ _⟩;rw[L14_16_eq,hv.len,b_s];dsimp only;rw[qdz,dF (by omega),b_s,i_b,c_f,shwL,List.append_nil]
 | t::l,j,q+1,o,S,ho,hv,ht,hQ,hr,hdp,hq,hl=>by
  obtain⟨hlt,e1,e2,_⟩:=qcy hr;have h1:=ht.1;have hjl:j<rows.length:=by omega
  obtain⟨r,hr1,hr2,hr3,hr4⟩:=hv.at hjl;obtain⟨c,hg,v',rows',rfl,hv',hp',hb⟩:=ht.2 j t (by rw[List.getElem?_eq_getElem hlt,e1]);have f0:=qbx ho hr3 hg (by decide) (rowT0 t v');have f1:=qbx ho hr3 hg (by decide) (rowT1 t v');have f2:=qbx ho hr3 hg (by decide) (rowT2 t v');have f3:=qbx ho hr3 hg (by decide) (rowT3 t v');have fx:∀i,faP i false 1 (.ptr r (j*5))=some (.ptr r (j*5+i)):=fun i=>faPg i 0 _ false r
  have hj:j<9223372036854770000:=by
   have:=hr3.fit;unfold big at this;omega
  rw[depT,List.all_cons,Bool.and_eq_true_iff]at hdp;rw[shwL]at hl;simp only[lAq]at hl;have hE:qg1 (ev E0 K (d+31)) N nk ek (q+1) v (sv o) (.int .i64 (j:Int)) S=_:=L14_16_eq ..;rw[hv.len,b_s]at hE;dsimp only at hE;rw[qdz,dT hjl,b_s,i_b,c_t,hr2,b_s,fx,b_s,f0,b_s]at hE;dsimp only at hE;rw[show(V.int .i64 0)=.int .i64 ((0:Nat):Int)from rfl,eqKd,b_s,i_b]at hE
  have fin:∀(tx:Bs) (U:St),Grew (fun _=>False) S U->tx=o++shwT t->qg1 (ev E0 K (d+31)) N nk ek (q+1) v (sv o) (.int .i64 (j:Int)) S=qg1 (ev E0 K (d+31)) N nk ek q v (sv tx) (.int .i64 ((j+1:Nat):Int)) U->
   ∃U,qg1 (ev E0 K (d+31)) N nk ek (q+1) v (sv o) (.int .i64 (j:Int)) S=ek 0 (fr 78 [(5,sv (o++shwL (t::l)))]) U/\Grew (fun _=>False) S U:=fun tx U g htx he=>by
   subst htx;obtain⟨T,t1,t2⟩:=shw_loop hK d N nk ek l (j+1) q (o++shwT t) U (g.on.trans ho) (hv.grew (fun _ _ h=>h) g) (ht.grew g fun _ _ h=>h) (fun x hx=>Nat.lt_of_lt_of_le (hQ x hx) g.next) e2 hdp.2 (by simp only[List.length_cons]at hq; omega) (by simp only[lAq]; omega);refine⟨T,?_,g.trans t2⟩;rw[he,t1,shwL,List.append_assoc]
  have psh:(psL t.parts).length<1000000000->∃U,(ev E0 K (d+31)).f 36 [v'] S=some (.ret (sv (psL t.parts)),U)/\Grew (fun _=>False) S U:=fun hl=>psh_run hK d 30 t.parts (Nat.le_of_ble_eq_true hdp.1) S v' rows' Q ho hv' hp' hQ hl;unfold shwT at hl fin;by_cases k0:t.kind=0
  . rw[iP k0]at hl fin
    simp only[lAq,List.length_singleton]at hl;obtain⟨U,u1,u2⟩:=psh (by omega);rw[dT k0,c_t,qbh _ _ (by simp; omega),b_s,b_s,fx,b_s,f2,b_s]at hE;dsimp only at hE;rw[u1,callP_ret,qbh _ _ (by simp; omega),b_s,qbh _ _ (by simp; omega),b_s,qb0 (by omega),b_s]at hE;exact fin _ U u2 (by simp) hE
  . rw[iN k0]at hl fin
    rw[dF k0,c_f,show(V.int .i64 2)=.int .i64 ((2:Nat):Int)from rfl,eqKd,b_s,i_b]at hE;by_cases k2:t.kind=2
    . rw[iP k2]at hl fin
      simp only[List.length_singleton]at hl;rw[dT k2,c_t,qbh _ _ (by simp; omega),b_s,qb0 (by omega),b_s]at hE;exact fin _ S (Grew.refl _ _) rfl hE
    . rw[iN k2]at hl fin
      rw[dF k2,c_f,show(V.int .i64 3)=.int .i64 ((3:Nat):Int)from rfl,eqKd,b_s,i_b]at hE;by_cases k3:t.kind=3
      . rw[iP k3]at hl fin
        simp only[lAq,List.length_singleton]at hl;rw[dT k3,c_t,qbh _ _ (by simp; omega),b_s,b_s,fx,b_s,f1,b_s]at hE;dsimp only at hE;rw[qbh _ _ (by simp; omega),b_s,b_s,fx,b_s,f3,b_s]at hE;dsimp only at hE;rw[qjj,b_s,i_b]at hE;cases hq':t.quoted with
        | true=>
         rw[hq']at hE fin;rw[Bool.not_true,c_f,qbh _ _ (by simp; omega),b_s,qb0 (by omega),b_s]at hE;exact fin _ S (Grew.refl _ _) (by simp) hE
        | false=>
         rw[hq']at hE fin hl;simp only[Bool.false_eq_true,if_false,lAq,List.length_singleton]at hl;obtain⟨U,u1,u2⟩:=psh (by omega);rw[nF,c_t,qbh _ _ (by simp; omega),b_s,b_s,fx,b_s,f2,b_s]at hE;dsimp only at hE;rw[u1,callP_ret,qbh _ _ (by simp; omega),b_s,qbh _ _ (by simp; omega),b_s,qb0 (by omega),b_s]at hE;exact fin _ U u2 (by simp) hE
      . rw[iN k3]at hl fin
        simp only[lAq,List.length_singleton]at hl;rw[dF k3,c_f,qbh _ _ (by simp; omega),b_s,b_s,fx,b_s,f1,b_s]at hE;dsimp only at hE;rw[qbh _ _ (by simp; omega),b_s,qbh _ _ (by simp; omega),b_s,qb0 (by omega),b_s]at hE;exact fin _ S (Grew.refl _ _) (by simp) hE
def depA:Except Flt (List Tok)->Bool
 | .error _=>true
 | .ok l=>depT l
theorem toks_small {v:V} {rows:List (Tr V)} {Q:Nat->Prop} {toks:List Tok} (hv:RV S v 39 5 rows) (ht:TksAt S Q toks rows):toks.length<qa3:=by
 have h1:=ht.1;rcases hv with⟨h,_⟩|⟨r,h2,_,_,_⟩
 . rw[h]at h1
   simp at h1;unfold qa3;omega
 . have:=h2.fit
   unfold big at this;unfold qa3;omega
theorem shown_run (hK:RefL K) (d:Nat) (s:Bs) (ho:S.on=false) (hs:s.length<=5000) (hd:18*s.length+600<=d) (hdp:depA (qin s)=true) (hl:(shwD (qin s)).length<1000000000):∃U,(ev E0 K (d+22)).f 14 [sv s] S=some (.ret (sv (shwD (qin s))),U)/\Grew (fun _=>False) S U:=by
 have hq:=lex_run hK d s ho hs hd;have hE:F14 (ev E0 K (d+21)) qa3 (sv s) S=_:=F14_eq ..;cases hA:qin s with
 | error e=>
  rw[hA]at hq;obtain⟨U,x,h1,h2,h3,h4,h5⟩:=hq;refine⟨U,rv14 hK ?_,(qfd h5)⟩;show F14 (ev E0 K (d+21)) qa3 (sv s) S=_;rw[hE,h1,callP_ret,ex0,b_s,ex1,b_s,nx_neq,b_s,i_b,c_t];rfl
 | ok toks=>
  rw[hA]at hq hdp hl;obtain⟨U,v,rT,h1,h2,h3,h4,h5⟩:=hq;obtain⟨d',rfl⟩:∃d',d=d'+10:=⟨d-10,by omega⟩
  obtain⟨T,t1,t2⟩:=shw_loop hK d' qa3 (R14_12 (ev E0 K (d'+31)) qa3 (qbt E0 (ev E0 K (d'+31)) Tryd.f14) qas) (exB 0 (R14_12 (ev E0 K (d'+31)) qa3 (qbt E0 (ev E0 K (d'+31)) Tryd.f14) qas) qas) toks 0 qa3 [] U (h5.on.trans ho) h2 h3 (fun x hx=>hx.2) rfl hdp (toks_small h2 h3) (by rw[List.nil_append]; exact hl);refine⟨T,rv14 hK ?_,(qfd h5).trans t2⟩;show F14 (ev E0 K (d'+31)) qa3 (sv s) S=_;rw[hE,h1,callP_ret,ex0,b_s,ex1,b_s,nd_neq,b_s,i_b,c_f];rw[show(V.int .i64 0)=.int .i64 ((0:Nat):Int)from rfl,t1,exB_same,R14_12_eq,List.nil_append];rfl
theorem qjk (hX:KnX K) (d:Nat) (s:Bs) {c n:Nat} (ho:S.on=false) (hH:Hd S) (hs:s.length<=5000) (hd:18*s.length+600<=d) (hA:qin s=.error (c,n)) (hc:c≠0):∃U,(ev E0 K (d+22)).f 15 [sv s,.int .i64 (c:Int),.int .i64 (n:Int)] S=some (.ret (.bool true),U)/\Grew (fun _=>False) S U:=by
 have hq:=lex_run hX.r d s ho hs hd;rw[hA]at hq;obtain⟨U,x,h1,h2,h3,h4,h5⟩:=hq;have h6:=(qfd h5)
 have hE:F15 (ev E0 K (d+21)) qa3 (sv s) (.int .i64 (c:Int)) (.int .i64 (n:Int)) S=_:=F15_eq ..;obtain⟨T,t1,t2⟩:=told_yes hX (d+19) (h5.on.trans ho) (hH.grew (fun h=>h) h6) h2 h4 hc;refine⟨T,rv15 hX.r ?_,h6.trans t2⟩;show F15 (ev E0 K (d+21)) qa3 (sv s) (.int .i64 (c:Int)) (.int .i64 (n:Int)) S=_;rw[hE,h1,callP_ret,ex0,b_s,ex1,b_s,ln_nil,b_s];dsimp only;rw[show(V.int .i64 0)=.int .i64 ((0:Nat):Int)from rfl,eqKd,dT rfl,b_s];simp only[g_t,b_s,c_t,build_29,t1,callP_ret,p_b]
end
theorem i3eq (w k:Nat):qa4 E0 .eql 3 false true (.int .i64 (w:Int)) (.int .i64 (k:Int))=some (.bool (decide (w=k))):=by
 rw[binV_ii,intsV_eql]
 congr 2
 simp;omega
theorem bare_ends (c:UInt8):([32,9,10,59,38,124,40,41,60,62]:Bs).contains c=(decide (c.toNat=32)||(decide (c.toNat=9)||(decide (c.toNat=10)||([59,38,124,40,41,60,62]:Bs).contains c))):=by
 have hb:∀k:UInt8,decide (c.toNat=k.toNat)=(c==k):=fun k=>by
  rw[Bool.eq_iff_iff,beq_iff_eq,decide_eq_true_iff,<- UInt8.toNat_inj]
 have h1:=hb 32;have h2:=hb 9;have h3:=hb 10;rw[show(32:UInt8).toNat=32 from rfl]at h1;rw[show(9:UInt8).toNat=9 from rfl]at h2;rw[show(10:UInt8).toNat=10 from rfl]at h3;rw[h1,h2,h3,List.contains_cons,List.contains_cons,List.contains_cons]
section
variable {K:FuncId->Option KF} {S:St}
theorem stops_run (hK:RefL K) (m:Nat) (w:Nat) (c:UInt8) (S:St):(ev E0 K (m+2)).f 50 [.int .u8 (c.toNat:Int),.int .i64 (w:Int)] S=some (.ret (.bool (qi1 w c)),S):=rv50 hK (by
 show F50 (ev E0 K (m+1)) qa3 (.int .u8 (c.toNat:Int)) (.int .i64 (w:Int)) S=_
 have hb:∀k:UInt8,decide (c.toNat=k.toNat)=(c==k):=fun k=>by
  rw[Bool.eq_iff_iff,beq_iff_eq,decide_eq_true_iff,<- UInt8.toNat_inj]
 rw[F50_eq,show(V.int .i64 0)=.int .i64 ((0:Nat):Int)from rfl,show(V.int .i64 1)=.int .i64 ((1:Nat):Int)from rfl,show(V.int .i64 2)=.int .i64 ((2:Nat):Int)from rfl,show(V.int .u8 34)=.int .u8 ((34:Nat):Int)from rfl,show(V.int .u8 125)=.int .u8 ((125:Nat):Int)from rfl,show(V.int .u8 32)=.int .u8 ((32:Nat):Int)from rfl,show(V.int .u8 9)=.int .u8 ((9:Nat):Int)from rfl,show(V.int .u8 10)=.int .u8 ((10:Nat):Int)from rfl,i3eq,b_s];unfold qi1;by_cases h0:w=0
 . rw[dT h0,iP h0,i_b,c_t,u8eq,b_s,bare_ends]
   have e2:=u8eq c 9;have e3:=u8eq c 10;have e4:=hasd_run hK m [59,38,124,40,41,60,62] c (by decide) S;generalize ([59,38,124,40,41,60,62]:Bs).contains c=q4 at e4 ⊢;generalize decide (c.toNat=10)=q3 at e3 ⊢;generalize decide (c.toNat=9)=q2 at e2 ⊢;generalize decide (c.toNat=32)=q1;cases q1<;>cases q2<;>cases q3<;>cases q4<;>simp only[g_t,g_f,qf1,b_s,c_t,c_f,p_b,callP_ret,Bool.not_true,nF,e2,e3,e4]<;>rfl
 . rw[dF h0,iN h0,i_b,c_f,i3eq,b_s]
   by_cases h1:w=1
   . rw[dT h1,iP h1,i_b,c_t,u8eq,b_s,<- hb 34]
     rfl
   . rw[dF h1,iN h1,i_b,c_f,i3eq,b_s]
     by_cases h2:w=2
     . rw[dT h2,iP h2,i_b,c_t]
     . rw[dF h2,iN h2,i_b,c_f,u8eq,b_s,<- hb 125]
       rfl)
theorem qil (hK:RefL K) (m:Nat) (n:Nat) (ho:S.on=false):∃U,(ev E0 K (m+1)).f 28 [.int .i64 (n:Int)] S=some (.ret (.agg 2 (qb6 19 n)),U)/\Grew (fun _=>False) S U/\U.next=S.next+1:=by
 obtain⟨a1,a2,a3⟩:=qar ho 29 2 (Tr.ofListFrom .nil [(.int .i64 0),(.int .i64 0)] 0);have on1:=a2.on.trans ho;obtain⟨U,k1,k2,k3,k4⟩:=a1.stA on1 qda (qb6 19 n);have onU:=k3.on.trans on1;refine⟨U,rv28 hK ?_,⟨by omega,onU.trans ho.symm,fun x hx hw=>by rw[k3.keep x (by omega) (by omega)]; exact a2.keep x hx hw⟩,by omega⟩;show F28 (ev E0 K m) qa3 (.int .i64 (n:Int)) S=_;rw[F28_eq,b_s,qan,show qa7 E0 29 [(0,(.int .i64 19)),(1,.int .i64 (n:Int))]=some (.agg 2 (qb6 19 n))from build_29 19 n,b_s,k1,b_s];dsimp only;rw[k2.ldrA onU qda,b_s]
end
section
variable {K:FuncId->Option KF} {S T U:St}
theorem dmark_loop (hK:RefL K) (m N:Nat) (ho:S.on=false) {v:V} {L:List Bs} (hL:TL S v L) (hLl:L.length<1000) (s:Bs) (i:Nat) (hi:i<1000000000) (nk:Ac->St->Rs) (ek:Nat->Ac->St->Rs) :
 ∀(l:List Bs) (k q:Nat),L.drop k=l->l.length<q->(∀t∈l,t≠[]/\t.length<1000)->L30_6 (ev E0 K (m+1)) N nk ek q (sv s) (.int .i64 (i:Int)) v (.int .i64 (k:Int)) S=match l.find? (fun o=>atD s i o)with
  | some o=>some (.ret (sv o),S)
  | none=>ek 0 (fr 25 []) S
 | l,k,0,hk,hq,_=>absurd hq (Nat.not_lt_zero _)
 | [],k,q+1,hk,hq,_=>by
  rw[L30_6_eq,hL.len,b_s];dsimp only;rw[qdz,dF (by have:=qc4 hk; omega),b_s,i_b,c_f];rfl
 | o::l,k,q+1,hk,hq,ht=>by
  obtain⟨hlt,hc,hr,_⟩:=qcy hk;rw[List.length_cons]at hq;have ih:=dmark_loop hK m N ho hL hLl s i hi nk ek l (k+1) q hr (by omega) (fun t h=>ht t (mO _ h));obtain⟨h1,h2⟩:=ht o (List.mem_cons_self ..);obtain⟨p,p1,p2⟩:=hL.ld ho (i:=k) (a:=o) (by rw[List.getElem?_eq_getElem hlt,hc]);rw[L30_6_eq,hL.len,b_s];dsimp only;rw[qdz,dT hlt,b_s,i_b,c_t,p1,b_s,p2,b_s];dsimp only;rw[qdy hK m s i o hi (by omega) h1,callP_ret,i_b,List.find?_cons];cases ha:atD s i o with
  | true=>rw[c_t,b_s,p2,b_s]
  | false=>rw[c_f,qb0 (by omega),b_s,ih]
theorem marT_ok:∀t∈marT,t≠[]/\t.length<1000:=by
 intro t ht;unfold marT at ht;simp only[List.mem_cons,List.not_mem_nil,or_false]at ht;rcases ht with rfl|rfl|rfl|rfl|rfl|rfl|rfl|rfl|rfl|rfl|rfl|rfl<;>exact⟨by decide,by decide⟩
theorem dmark_run (hK:RefL K) (m:Nat) (ho:S.on=false) (s:Bs) (i:Nat) (hi:i<1000000000):∃U,(ev E0 K (m+2)).f 30 [sv s,.int .i64 (i:Int)] S=some (.ret (sv ((marT.find? fun o=>atD s i o).getD [])),U)/\Grew (fun _=>False) S U:=by
 obtain⟨U,h1,h2,h3,h4⟩:=qji ho marT (by decide);refine⟨U,rv30 hK ?_,h3⟩;show F30 (ev E0 K (m+1)) qa3 (sv s) (.int .i64 (i:Int)) S=_;rw[F30_eq];have e:bsP 9 1 12 (Ev.one (sv [])) [(0,(sv [59,59])),(1,(sv [59])),(2,(sv [38,38])),(3,(sv [124,124])),(4,(sv [124])),(5,(sv [40])),(6,(sv [41])),(7,(sv [60,60])),(8,(sv [60])),(9,(sv [62,62])),(10,(sv [62,38])),(11,(sv [62]))] S=some (.slice S.next 0 12 12,U):=h1;rw[e,b_s];dsimp only;rw[show V.int .i64 0=.int .i64 ((0:Nat):Int)from rfl,dmark_loop hK m qa3 (h3.on.trans ho) (show TL U (.slice S.next 0 12 12) marT from h2) (by decide) s i hi _ _ marT 0 qa3 rfl (by unfold qa3; decide) marT_ok];cases marT.find? fun o=>atD s i o with
 | some o=>rfl
 | none=>
  dsimp only;rw[exB_same,R30_3_eq];rfl
theorem i3ne (w k:Nat):qa4 E0 .neq 3 false true (.int .i64 (w:Int)) (.int .i64 (k:Int))=some (.bool (w != k)):=by
 rw[binV_ii,intsV_neq]
 congr 2
 rw[Bool.eq_iff_iff];simp;omega
theorem end_loop (hK:RefL K) (self:EV) (N:Nat) (ho:S.on=false) {w:V} {rows:List (Tr V)} {Q:Nat->Prop} (hw:RV S w 49 6 rows) (nk:Ac->St->Rs) (ek:Nat->Ac->St->Rs) :
 ∀(l:List Part) (p q:Nat) (acc:Bs) (qt:Bool) (rl:List (Tr V)),PrAt S Q l rl->rows.drop p=rl->l.length<q->acc.length+(l.map fun p=>p.text.length).sum<4611686018427387000->p+l.length<=1000000->
 L31_12 self N nk ek q w (sv acc) (.bool qt) (.int .i64 (p:Int)) S=if l.any fun p=>p.kind != 0&&p.kind != 1 then some (.ret (.tuple [(sv []),(.bool false),(.bool false)]),S)else ek 0 (fr 46 [(5,sv (acc++(l.map Part.text).flatten)),(6,.bool (qt||l.any fun p=>p.kind==1))]) S
 | l,p,0,acc,qt,rl,hps,hp,hq,ht,hpl=>absurd hq (Nat.not_lt_zero _)
 | [],p,q+1,acc,qt,rl,hps,hp,hq,ht,hpl=>by
  simp only[PrAt]at hps;subst hps;rw[L31_12_eq,hw.len,b_s];dsimp only;rw[qdz,dF (by have:=qc4 hp; omega),b_s,i_b,c_f];simp
 | .mk k t o qd wd::l,p,q+1,acc,qt,rl,hps,hp,hq,ht,hpl=>by
  simp only[PrAt]at hps;obtain⟨c,rest',rfl,hc,hp'⟩:=hps;simp only[PtAt]at hc;obtain⟨v',rows',rfl,hv',hw',hb⟩:=hc;obtain⟨hlt,e1,e2,_⟩:=qcy hp;obtain⟨r,hr1,hr2,hr3,hr4⟩:=hw.at hlt;have hg:rows[p]?=some (qcr k t o qd v'):=by rw[List.getElem?_eq_getElem hlt,e1]
  have f0:=qbx ho hr3 hg (by decide) (rowP0 k t o qd v');have f1:=qbx ho hr3 hg (by decide) (rowP1 k t o qd v');have fx:∀i,faP i false 1 (.ptr r (p*6))=some (.ptr r (p*6+i)):=fun i=>faPg i 0 _ false r;rw[List.map_cons,List.sum_cons]at ht;have ht':t.length=(Part.mk k t o qd wd).text.length:=rfl;simp only[List.length_cons]at hq hpl;have ih:=end_loop hK self N ho hw nk ek l (p+1) q (acc++t) (qt||k==1) rest' hp' e2 (by omega) (by rw[lAq]; omega) (by omega);rw[L31_12_eq,hw.len,b_s];dsimp only;rw[qdz,dT hlt,b_s,i_b,c_t,hr2,b_s,fx,b_s,f0,b_s];dsimp only;rw[show V.int .i64 0=.int .i64 ((0:Nat):Int)from rfl,show V.int .i64 1=.int .i64 ((1:Nat):Int)from rfl,i3ne,b_s,List.any_cons,List.any_cons,List.map_cons,List.flatten_cons];show _=if((k != 0&&k != 1)||l.any fun p=>p.kind != 0&&p.kind != 1)=true then _ else ek 0 (fr 46 [(5,sv (acc++(t++(l.map Part.text).flatten))),(6,.bool (qt||((k==1)||l.any fun p=>p.kind==1)))]) S
  have go:((k != 0&&k != 1)=false)->((ixP 6 w (.int .i64 (p:Int))).bind fun t37=>(faP 1 false 1 t37).bind fun t38=>(ld1 t38 S).bind fun p39=>(qa4 E0 .add 9 false false (sv acc) p39.1).bind fun t40=>
   (qa0 false (.bool qt)).bind fun g44=>(bif g44 then some w else some (.tuple [])).bind fun t44=>
   (qa0 false (.bool qt)).bind fun g45=>(bif g45 then some (V.int .i64 (p:Int))else some (.tuple [])).bind fun t45=>
   (qa0 false (.bool qt)).bind fun g46=>(bif g46 then ixP 6 t44 t45 else some (.tuple [])).bind fun t46=>
   (qa0 false (.bool qt)).bind fun g47=>(bif g47 then faP 0 false 1 t46 else some (.tuple [])).bind fun t47=>
   (qa0 false (.bool qt)).bind fun g48=>(bif g48 then ld1 t47 p39.2 else some (.tuple [],p39.2)).bind fun p48=>
   (qa0 false (.bool qt)).bind fun g49=>(bif g49 then qa4 E0 .eql 3 false true p48.1 (.int .i64 ((1:Nat):Int))else some (.tuple [])).bind fun t49=>
   (qac (.bool qt) (some (.bool true)) (some t49)).bind fun t50=>
   (qa4 E0 .add 3 false true (.int .i64 (p:Int)) (.int .i64 ((1:Nat):Int))).bind fun t53=>
   L31_12 self N nk ek q w t40 t50 t53 p48.2)=if((k != 0&&k != 1)||l.any fun p=>p.kind != 0&&p.kind != 1)=true then some (.ret (.tuple [(sv []),(.bool false),(.bool false)]),S)else ek 0 (fr 46 [(5,sv (acc++(t++(l.map Part.text).flatten))),(6,.bool (qt||((k==1)||l.any fun p=>p.kind==1)))]) S:=fun hk=>by
   rw[hk,Bool.false_or,hr2,b_s,fx,b_s,f1,b_s];dsimp only;rw[qbh _ _ (by simp only[ht']; omega),b_s];have e5:=i3eq k 1;have e6:=addC 1 (i:=p) (by omega);have fin:L31_12 self N nk ek q w (sv (acc++t)) (.bool (qt||k==1)) (.int .i64 ((p+1:Nat):Int)) S=_:=ih;rw[List.append_assoc,Bool.or_assoc]at fin;cases qt with
   | true=>
    simp only[g_f,qf1,b_s,c_f,Bool.not_true,p_b,c_t,e6];exact fin
   | false=>
    simp only[g_f,b_s,c_t,nF,hr2,fx,f0,e5,p_b,c_f,e6];exact fin
  by_cases h0:k=0
  . subst h0
    rw[show((0:Nat) != 0)=false from rfl];simp only[g_t,qf1,b_s,c_f,p_b,i_b];have g:=go rfl;rw[hr2,b_s]at g;simp only[p_b]at g;exact g
  . have hk0:(k != 0)=true:=by simpa using h0
    rw[hk0];simp only[g_t,b_s,c_t,hr2,fx,f0,i3ne];rw[p_b,c_t,b_s,i_b];by_cases h1:k=1
    . subst h1
      rw[show((1:Nat) != 1)=false from rfl,c_f];have g:=go rfl;simp only[hr2,b_s,fx]at g;exact g
    . have hk1:(k != 1)=true:=by simpa using h1
      rw[hk1,c_t];rfl
theorem end_run (hK:RefL K) (m:Nat) (ho:S.on=false) {w:V} {rows:List (Tr V)} {Q:Nat->Prop} (hw:RV S w 49 6 rows) {l:List Part} (hps:PrAt S Q l rows) (hl:l.length<=1000000) (ht:(l.map fun p=>p.text.length).sum<4611686018427387000):(ev E0 K (m+1)).f 31 [w] S=some (.ret (if l.any fun p=>p.kind != 0&&p.kind != 1 then .tuple [(sv []),(.bool false),(.bool false)]else .tuple [sv (l.map Part.text).flatten,.bool (l.any fun p=>p.kind==1),.bool true]),S):=rv31 hK (by
 show F31 (ev E0 K m) qa3 w S=_;rw[F31_eq,show V.int .i64 0=.int .i64 ((0:Nat):Int)from rfl,end_loop hK _ qa3 ho hw _ _ l 0 qa3 [] false rows hps rfl (by unfold qa3; omega) (by simpa using ht) (by omega)];split
 . rfl
 . rw[exB_same,R31_5_eq,List.nil_append,Bool.false_or])
theorem scan27 (self:EV) (N:Nat) (nk:Ac->St->Rs) (ek:Nat->Ac->St->Rs) (s:Bs) (hs:s.length<1000000000) (v1 v2 v8:V) :
 ∀(m k q:Nat),k+m=s.length->m<q->L27_36 self N nk ek q (sv s) v1 v2 v8 (.int .i64 (k:Int)) S=ek 2 (fr 46 [(0,sv s),(1,v1),(2,v2),(8,v8),(9,.int .i64 (qjl s k 10:Int))]) S
 | _,_,0,_,hq=>by omega
 | 0,k,q+1,hk,hq=>by
  rw[L27_36_eq,qfm,b_s];dsimp only;rw[qdz,dF (by omega),b_s];simp only[g_t,qf1,b_s,c_f,p_b,i_b];rw[show qjl s k 10=k by unfold qjl; rw[ql8 (by omega)]; exact(by omega:s.length=k)]
 | m+1,k,q+1,hk,hq=>by
  have hlt:k<s.length:=by omega
  have ih:=scan27 self N nk ek s hs v1 v2 v8 m (k+1) q (by omega) (by omega);have e:=u8neU (byt s k) 10;rw[show((10:UInt8).toNat:Int)=10 from rfl]at e;rw[L27_36_eq,qfm,b_s];dsimp only;rw[qdz,dT hlt,b_s];simp only[g_t,b_s,c_t];rw[qbl s .i64 k hlt,qb9 hlt,b_s,e,b_s,p_b,c_t,b_s,i_b];unfold qjl at ih ⊢;rw[qj0 hlt];by_cases hb:byt s k=10
  . rw[dT hb,iP hb,Bool.not_true,c_f]
    rfl
  . rw[dF hb,iN hb,nF,c_t,qb0 (by omega),b_s,ih]
theorem minL (a b:Nat) (S:St):qi6 minV (.int .i64 (a:Int)) [.int .i64 (b:Int)] S=some (.int .i64 ((min a b:Nat):Int),S):=by
 rw[foldK_min]
 congr 3
 omega
def docV (s:Bs) (frm:Nat):Option (Nat×Nat)->V
 | some (k,j)=>.tuple [sv ((s.drop frm).take (k-frm)),.int .i64 (j:Int)]
 | none=>.tuple [sv [],.int .i64 (-1)]
theorem docd_loop (hK:RefL K) (self:EV) (s:Bs) (hs:s.length<1000000000) (last:Bs) (frm:Nat) (nk:Ac->St->Rs) (ek:Nat->Ac->St->Rs) (hek:ek 0 (fr 46 []) S=some (.ret (docV s frm none),S)) :
 ∀(n i q:Nat),i<=s.length->frm<=i->s.length<n+i->n<=q->L27_7 self qa3 nk ek q (sv s) (.int .i64 (i:Int)) (sv last) (.int .i64 (frm:Int)) S=some (.ret (docV s frm (docD n s last i)),S)
 | 0,i,q,hi,hfi,hn,hq=>by omega
 | n+1,i,0,hi,hfi,hn,hq=>by omega
 | n+1,i,q+1,hi,hfi,hn,hq=>by
  unfold docD;rw[L27_7_eq,qfm,b_s];dsimp only;rw[qdz,b_s];by_cases hlt:i<s.length
  . have hle:=idxE_le hi 10
    have ih:_:=docd_loop hK self s hs last frm nk ek hek n (min (qjl s i 10+1) s.length) q (by omega) (by omega) (by omega) (by omega);rw[dT hlt,i_b,c_t,iP hlt,scan27 _ _ _ _ s hs _ _ _ (s.length-i) i qa3 (by omega) (by unfold qa3; omega),exB_same,R27_14_eq,qb0 (by omega),b_s,qfm,b_s];dsimp only;rw[minL,b_s];dsimp only;rw[qap qij s (qav .i64 .i64 hle.1 hle.2) hle.2,b_s];dsimp only;rw[eqStr,b_s,i_b,show(qim s i 10).getD s.length=qjl s i 10 from rfl];generalize hq:((s.drop i).take (qjl s i 10-i)==last)=bq;cases bq with
    | true=>
     rw[c_t,iP rfl,qap qij s (qav .i64 .i64 hfi hi) hi,b_s];rfl
    | false=>
     rw[c_f,iN (by simp),N27_7_eq,ih]
  . rw[dF hlt,iN hlt,i_b,c_f,hek]
theorem docd_run (hK:RefL K) (m:Nat) (s:Bs) (hs:s.length<1000000000) (last:Bs) (i:Nat) (hi:i<=s.length) (S:St):(ev E0 K (m+1)).f 27 [sv s,.int .i64 (i:Int),sv last] S=some (.ret (docV s i (docD (s.length+1) s last i)),S):=rv27 hK (by
 show F27 (ev E0 K m) qa3 (sv s) (.int .i64 (i:Int)) (sv last) S=_
 rw[F27_eq,docd_loop hK _ s hs last i _ _ (by rw[exB_same,R27_4_eq]; rfl) (s.length+1) i qa3 hi (lR _) (by omega) (by unfold qa3; omega)])
end
end Go.Proofs.YtafbipadnnmccaaDoor.W
