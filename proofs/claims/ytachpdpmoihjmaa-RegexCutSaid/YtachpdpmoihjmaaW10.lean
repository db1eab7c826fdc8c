/-
  WHAT THE FUNCTIONS COME TO: each is read by the evaluator,printed,and told as a function of data,part 10 of 12 (no condition).
-/
import Derived.Test.YtachpdpmoihjmaaW9
namespace Go.Proofs.Ytachpdpmoihjmaa.W
open Go.Proofs.Ytachpdpmoihjmaa.Ev
section
variable {gr:Nat} {S:St} {b r:Nat} {L:List AS} {ts:List (Tr V)}
theorem goes_on {K:FuncId->Option KF} (hK:∀f,f≠9->K f=none) (m:Nat) (h:Rg gr S b r L ts) (hL:L.length<=1000) {k:Nat} (hk:k<L.length) (at_ size:Nat) (l:List LE) :
 ∃T v l',(ev E0 K (m+1)).f 28 [.ptr b 0,.int .i64 (k:Int),.int .i64 (at_:Int),.int .i64 (size:Int)] (S.lg l)=some (.ret v,T.lg l')/\NumsAt T S.next v (gon L k at_ size)/\Grew (fun _=>False) S T/\(OkLog S.next l->OkLog S.next l'):=by
 obtain⟨Z,hZ⟩:=F28_z;have ho:=h.on;obtain⟨u,hu1,hu2⟩:=h.rws.get hk;obtain⟨a1,a2,a3⟩:=qe2 ho 50 258 Z;have on1:(nwP 50 258 Z S).2.on=false:=qfs ho _;obtain⟨S2,b1,b2,b3,b4⟩:=a1.stA on1 qdb u;have on2:=b3.on.trans on1;have g2:Grew (fun _=>False) S S2:=a2.own (lR _) b3;have rdF:∀{q},F28 (ev E0 K m) qa3 (.ptr b 0) (.int .i64 (k:Int)) (.int .i64 (at_:Int)) (.int .i64 (size:Int)) (S.lg l)=some q->(ev E0 K (m+1)).f 28 [.ptr b 0,.int .i64 (k:Int),.int .i64 (at_:Int),.int .i64 (size:Int)] (S.lg l)=some q:=fun e=>qax (c:=C28) (d:=B28) (by kernel_rfl) (by kernel_rfl) (qa7 C28 _ (by kernel_rfl)) (hK 28 (by decide)) e;have hF:=hZ (ev E0 K m) qa3 (.ptr b 0) (.int .i64 (k:Int)) (.int .i64 (at_:Int)) (.int .i64 (size:Int)) (S.lg l);rw[qg8,oB,qcn,oB,Nat.zero_add]at hF;rw[qbl ho h.l0,oB]at hF;dsimp only at hF;rw[qih r _ k hk,oB,ldA_lg ho (row_ldA ho h.row hu1),oB]at hF;dsimp only at hF;rw[nwP_lg ho,oB]at hF;dsimp only at hF;rw[stA_lg on1 b1,oB]at hF;dsimp only at hF;have hkind:=fun l=>qbl on2 (b2.ld1 on2 qdb (by decide) hu2.kind) l;have hto:=fun l=>qbl on2 (b2.ld1 on2 qdb (by decide) hu2.to_) l;rw[qcn,oB,Nat.zero_add,hkind,oB]at hF;dsimp only at hF;obtain⟨lo,hlo0⟩:∃lo,lo=(⟨S.next,256,256+1,false⟩::⟨S.next,0,0+258,true⟩::⟨S.next,0,big,true⟩::⟨r,k*258,k*258+258,false⟩::⟨b,0,0+1,false⟩::l:List LE):=⟨_,rfl⟩
 have hlo:OkLog S.next l->OkLog S.next lo:=fun h=>by rw[hlo0]; exact((((h.rd _ _ _).rd _ _ _).wr (lR _) _ _).wr (lR _) _ _).rd _ _ _
 rw[<- hlo0]at hF;unfold gon;rw[List.getElem?_eq_getElem hk];simp only;generalize L[k]=s at hkind hto hF ⊢;have eqk:∀(c:Int),qa4 E0 .eql 3 false true (.int .i64 (s.kind:Int)) (.int .i64 c)=some (.bool (decide ((s.kind:Int)=c))):=fun c=>by rw[binV_ii,intsV_eql]
 have noneq:F28 (ev E0 K m) qa3 (.ptr b 0) (.int .i64 (k:Int)) (.int .i64 (at_:Int)) (.int .i64 (size:Int)) (S.lg l)=some (.ret .nilslice,S2.lg lo)->qch s k at_ size=[]->∃T v l',(ev E0 K (m+1)).f 28 [.ptr b 0,.int .i64 (k:Int),.int .i64 (at_:Int),.int .i64 (size:Int)] (S.lg l)=some (.ret v,T.lg l')/\NumsAt T S.next v (qch s k at_ size)/\Grew (fun _=>False) S T/\(OkLog S.next l->OkLog S.next l'):=fun e hg=>⟨S2,_,_,rdF e,.inl ⟨hg,rfl⟩,g2,hlo⟩
 have nextq:F28 (ev E0 K m) qa3 (.ptr b 0) (.int .i64 (k:Int)) (.int .i64 (at_:Int)) (.int .i64 (size:Int)) (S.lg l)=((qa4 E0 .add 3 false true (.int .i64 (k:Int)) (.int .i64 1)).bind fun t24=>
(bsP 3 1 1 (Ev.one (.int .i64 0)) [(0,t24)] (S2.lg lo)).bind fun p25=>
some (.ret p25.1,p25.2))->qch s k at_ size=[k+1]->∃T v l',(ev E0 K (m+1)).f 28 [.ptr b 0,.int .i64 (k:Int),.int .i64 (at_:Int),.int .i64 (size:Int)] (S.lg l)=some (.ret v,T.lg l')/\NumsAt T S.next v (qch s k at_ size)/\Grew (fun _=>False) S T/\(OkLog S.next l->OkLog S.next l'):=fun e hg=>by
  obtain⟨T,c1,c2,c3,c4⟩:=bsP_1 on2 ((k+1:Nat):Int);rw[binV_ii,intsV_add,qa5 (by omega),oB,bsP_1_lg on2 _ c1,oB]at e;rw[hg];have n2:=g2.next
  exact⟨T,_,_,rdF e,.inr ⟨S2.next,rfl,c2,n2,by omega⟩,g2.trans c3,fun h=>(hlo h).wr n2 _ _⟩
 rw[eqk,oB,ifK_bool]at hF;by_cases h1:s.kind=1
 . rw[h1,show decide (((1:Nat):Int)=1)=true from rfl,cT,binV_ii,intsV_gtr,oB,ifK_bool]at hF
   by_cases ha:0<at_
   . rw[show decide ((0:Int)<(at_:Int))=true by rw[decide_eq_true_eq]; omega,cT]at hF
     exact noneq hF (by unfold qch; rw[iP h1,iP ha])
   . rw[show decide ((0:Int)<(at_:Int))=false by rw[decide_eq_false_iff_not]; omega,cF]at hF
     exact nextq hF (by unfold qch; rw[iP h1,iN ha])
 rw[show decide ((s.kind:Int)=1)=false by rw[decide_eq_false_iff_not]; omega,cF,eqk,oB,ifK_bool]at hF;by_cases h2:s.kind=2
 . rw[h2,show decide (((2:Nat):Int)=2)=true from rfl,cT,binV_ii,intsV_lss,oB,ifK_bool]at hF
   by_cases ha:at_<size
   . rw[qee ha,cT]at hF
     exact noneq hF (by unfold qch; rw[iN h1,iP h2,iP ha])
   . rw[qed (by omega),cF]at hF
     exact nextq hF (by unfold qch; rw[iN h1,iP h2,iN ha])
 rw[show decide ((s.kind:Int)=2)=false by rw[decide_eq_false_iff_not]; omega,cF,eqk,oB,ifK_bool]at hF;by_cases h3:s.kind=3
 . rw[h3,show decide (((3:Nat):Int)=3)=true from rfl,cT,binV_ii,intsV_add,qa5 (by omega),oB,qcn,oB,Nat.zero_add,hto,oB]at hF
   dsimp only at hF;obtain⟨T,c1,c2,c3,c4⟩:=bsP_2 on2 ((k+1:Nat):Int) (s.to_:Int);rw[bsP_2_lg on2 _ _ c1,oB]at hF;have n2:=g2.next
   exact⟨T,_,_,rdF hF,.inr ⟨S2.next,by unfold qch; rw[iN h1,iN h2,iP h3]; rfl,by unfold qch; rw[iN h1,iN h2,iP h3]; exact c2,n2,by omega⟩,g2.trans c3,fun h=>((hlo h).rd _ _ _).wr n2 _ _⟩
 rw[show decide ((s.kind:Int)=3)=false by rw[decide_eq_false_iff_not]; omega,cF,eqk,oB,ifK_bool]at hF;by_cases h4:s.kind=4
 . rw[h4,show decide (((4:Nat):Int)=4)=true from rfl,cT,qcn,oB,Nat.zero_add,hto,oB]at hF
   dsimp only at hF;obtain⟨T,c1,c2,c3,c4⟩:=bsP_1 on2 (s.to_:Int);rw[bsP_1_lg on2 _ c1,oB]at hF;have n2:=g2.next
   exact⟨T,_,_,rdF hF,.inr ⟨S2.next,by unfold qch; rw[iN h1,iN h2,iN h3,iP h4]; rfl,by unfold qch; rw[iN h1,iN h2,iN h3,iP h4]; exact c2,n2,by omega⟩,g2.trans c3,fun h=>((hlo h).rd _ _ _).wr n2 _ _⟩
 rw[show decide ((s.kind:Int)=4)=false by rw[decide_eq_false_iff_not]; omega,cF,eqk,oB,ifK_bool]at hF;by_cases h0:s.kind=0
 . rw[h0,show decide (((0:Nat):Int)=0)=true from rfl,cT,ifK_bool,cT]at hF
   exact noneq hF (by unfold qch; rw[iN h1,iN h2,iN h3,iN h4,iP h0])
 rw[show decide ((s.kind:Int)=0)=false by rw[decide_eq_false_iff_not]; omega,cF,eqk,oB,ifK_bool]at hF;by_cases h6:s.kind=6
 . rw[h6,show decide (((6:Nat):Int)=6)=true from rfl,cT]at hF
   exact noneq hF (by unfold qch; rw[iN h1,iN h2,iN h3,iN h4,iN h0,iP h6])
 rw[show decide ((s.kind:Int)=6)=false by rw[decide_eq_false_iff_not]; omega,cF]at hF;exact nextq hF (by unfold qch; rw[iN h1,iN h2,iN h3,iN h4,iN h0,iN h6])
end
def BRl (S:St) (x:Nat) (l:List Bool):Prop:=x<S.next/\RowAt S x 4 1 (l.map fun q=>Ev.one (.bool q))
theorem BRl.grew {W:Nat->Prop} {S T:St} {x:Nat} {l:List Bool} (h:BRl S x l) (hw:¬W x) (g:Grew W S T):BRl T x l:=⟨Nat.lt_of_lt_of_le h.1 g.next,h.2.grew h.1 hw g⟩
theorem BRl.ld {S:St} (ho:S.on=false) {x k:Nat} {l:List Bool} (h:BRl S x l) (hk:k<l.length):ld1 (.ptr x k) S=some (.bool (bd l k),S):=by
 have:bd l k=l[k]:=by unfold bd; rw[List.getD_eq_getElem?_getD,List.getElem?_eq_getElem hk]; rfl
 rw[this];exact h.2.ld1 ho (by rw[List.getElem?_map,List.getElem?_eq_getElem hk]; rfl)
theorem BRl.st {S:St} (ho:S.on=false) {x k:Nat} {l:List Bool} (h:BRl S x l) (hk:k<l.length) (q:Bool):∃T,stP 1 (.ptr x k) (.bool q) S=some (.tuple [],T)/\BRl T x (l.set k q)/\Grew (fun y=>y=x) S T/\T.next=S.next:=by
 obtain⟨h1,h3⟩:=h;obtain⟨T,a1,a2,a3,a4⟩:=h3.stK ho (i:=k) (by rw[lM]; omega) (Ev.one (.bool q));rw[Nat.mul_one]at a1;refine⟨T,?_,⟨by omega,by rw[List.map_set]; exact a2⟩,a3,a4⟩;show vu (stK S x k 1 (Ev.one (.bool q)))=_;rw[a1]; rfl
structure Rch (gr:Nat) (S:St) (b r:Nat) (L:List AS) (ts:List (Tr V)) (N1 p3 p4 p5 p7 ro:Nat) (T:List UInt8) (s0 s1:Nat) (outL:List V):Prop where
 rx:Rg gr S b r L ts
 hb:b<N1
 hr:r<N1
 h3:p3<N1
 h4:p4<N1
 h5:p5<N1
 h7:p7<N1
 h8:ro<N1
 hN:N1<=S.next
 le:s0<=s1
 hs:s1<=T.length
 hw:WF L
 hL:L.length<=1000
 hT:T.length<=1000
 len:outL.length=s1-s0+1
 b3:Bx S p3 22 [.ptr b 0]
 b4:Bx S p4 9 [sv T]
 b5:AgAt S p5 30 2 (tr2 s0 s1)
 b7:AgAt S p7 63 1 (Ev.one (.slice ro 0 (s1-s0+1) (s1-s0+1)))
 out:RowAt S ro 65 1 (outL.map Ev.one)
def RowsAt (S:St) (N1:Nat) (L:List AS) (T:List UInt8) (s0 s1 j:Nat) (outL:List V):Prop:=∀i,j<=i->i<outL.length->∃x,outL[i]?=some (.slice x 0 L.length L.length)/\N1<=x/\BRl S x (rwAt L T s1 (s0+i))
section
variable {gr:Nat} {S:St} {b r N1 p3 p4 p5 p7 ro:Nat} {L:List AS} {ts:List (Tr V)} {T:List UInt8} {s0 s1:Nat} {outL:List V}
theorem Rch.grew {W:Nat->Prop} {U:St} (h:Rch gr S b r L ts N1 p3 p4 p5 p7 ro T s0 s1 outL) (hw:∀x,x<N1->¬W x) (g:Grew W S U):Rch gr U b r L ts N1 p3 p4 p5 p7 ro T s0 s1 outL:=
 ⟨h.rx.grew (hw b h.hb) (hw r h.hr) g,h.hb,h.hr,h.h3,h.h4,h.h5,h.h7,h.h8,Nat.le_trans h.hN g.next,h.le,h.hs,h.hw,h.hL,h.hT,h.len,
  h.b3.grew (Nat.lt_of_lt_of_le h.h3 h.hN) (hw _ h.h3) g,h.b4.grew (Nat.lt_of_lt_of_le h.h4 h.hN) (hw _ h.h4) g,h.b5.grew (Nat.lt_of_lt_of_le h.h5 h.hN) (hw _ h.h5) g,h.b7.grew (Nat.lt_of_lt_of_le h.h7 h.hN) (hw _ h.h7) g,h.out.grew (Nat.lt_of_lt_of_le h.h8 h.hN) (hw _ h.h8) g⟩
theorem fin29 (self:EV) (N:Nat) (S:St):exB 0 (qh4 self N (qbg E0 self Try.f29) qav) qav 0 (fr 77 []) S=some (.ret (.bool false),S):=by
 rw[exB_same,R29_54_eq]
theorem L29_spec (self:EV) (N:Nat) {U:St} (ho:U.on=false) {x x' p9:Nat} {l:List Bool} {ll:List Nat} (hx:BRl U x l) (hll:∀y∈ll,y<l.length) (h9:AgAt U p9 65 1 (Ev.one (.slice x 0 l.length l.length))) (hx':RowAt U x' 3 1 (qcf (ll.map fun(n:Nat)=>(n:Int)))) (hs:ll.length<=5) :
 ∀(q:List Nat) (j f:Nat) (lg:List LE),ll.drop j=q->j<=5->q.length<f->∃lg',L29_64 self N (qh4 self N (qbg E0 self Try.f29) qav) (exB 0 (qh4 self N (qbg E0 self Try.f29) qav) qav) f (.ptr p9 0) (.slice x' 0 ll.length ll.length) (.int .i64 (ll.length:Int)) (.int .i64 (j:Int)) (U.lg lg)=some (.ret (.bool (q.any fun k=>bd l k)),U.lg lg')/\∀N0,OkLog N0 lg->OkLog N0 lg'
 | q,j,0,lg,_,_,hf=>by omega
 | [],j,f+1,lg,hq,hj,hf=>by
  have hle:=List.drop_eq_nil_iff.1 hq;refine⟨lg,?_,fun _ h=>h⟩;rw[qku,binV_ii,intsV_lss,qed hle,oB,ifK_bool,cF,fin29];rfl
 | y::q,j,f+1,lg,hq,hj,hf=>by
  obtain⟨hlt,hy,hd,hmem⟩:=qg1 hq;have hyl:=hll y hmem
  have hld:(ll.map fun(n:Nat)=>(n:Int))[j]?=some (y:Int):=by
   rw[List.getElem?_map,List.getElem?_eq_getElem hlt,hy]; rfl
  have r9:=h9.ld1 ho big1 (i:=0) (v:=.slice x 0 l.length l.length) (by decide) rfl
  have key:∀lg,∃lg',L29_64 self N (qh4 self N (qbg E0 self Try.f29) qav) (exB 0 (qh4 self N (qbg E0 self Try.f29) qav) qav) (f+1) (.ptr p9 0) (.slice x' 0 ll.length ll.length) (.int .i64 (ll.length:Int)) (.int .i64 (j:Int)) (U.lg lg)=(bif bd l y then some (.ret (.bool true),U.lg lg')else L29_64 self N (qh4 self N (qbg E0 self Try.f29) qav) (exB 0 (qh4 self N (qbg E0 self Try.f29) qav) qav) f (.ptr p9 0) (.slice x' 0 ll.length ll.length) (.int .i64 (ll.length:Int)) (.int .i64 ((j+1:Nat):Int)) (U.lg lg'))/\∀N0,OkLog N0 lg->OkLog N0 lg':=fun lg=>by
   refine⟨_,?_,fun N0 h=>((h.rd x' j (j+1)).rd p9 0 (0+1)).rd x y (y+1)⟩;rw[qku,binV_ii,intsV_lss,qee hlt,oB,ifK_bool,cT,qdm x' _ j hlt,oB,qbl ho (fr_ld ho hx' hld),oB];dsimp only;rw[qbl ho r9,oB];dsimp only;rw[qdm x _ y hyl,oB,qbl ho (hx.ld ho hyl),oB,ifK_bool];dsimp only;rw[binV_ii,intsV_add,qa5 (by omega),oB]
  obtain⟨lg1,k1,k2⟩:=key lg;rw[k1,List.any_cons];cases hb:bd l y with
  | true=>exact⟨lg1,rfl,k2⟩
  | false=>
   obtain⟨lg2,e1,e2⟩:=L29_spec self N ho hx hll h9 hx' hs q (j+1) f lg1 hd (by omega) (by simp at hf; omega);exact⟨lg2,e1,fun N0 h=>e2 N0 (k2 N0 h)⟩
theorem can_spec {K:FuncId->Option KF} (hK:∀f,f≠9->K f=none) (m:Nat) (h:Rch gr S b r L ts N1 p3 p4 p5 p7 ro T s0 s1 outL) {a:Nat} (ha0:s0<=a) (ha1:a<=s1) {p8 p9 x:Nat} (h8:AgAt S p8 3 1 (Ev.one (.int .i64 (a:Int)))) {l:List Bool} (hl:l.length=L.length) (h9:AgAt S p9 65 1 (Ev.one (.slice x 0 L.length L.length))) (hp9:p9<S.next) (hx:BRl S x l) (hrows:RowsAt S N1 L T s0 s1 (a-s0+1) outL) {k:Nat} (hk:k<L.length) :
 ∃U L',F29 (ev E0 K (m+1)) qa3 (.int .i64 (k:Int)) (.ptr p3 0) (.ptr p8 0) (.ptr p5 0) (.ptr p4 0) (.ptr p7 0) (.ptr p9 0) (S.lg [])=some (.ret (.bool (canS L T s1 a ((qd7 L T s1 (s1-a)).headD []) l k)),U.lg L')/\OkLog S.next L'/\Grew (fun _=>False) S U:=by
 have ho:=h.rx.on;have hT:=h.hT;have hs:=h.hs;have hL:=h.hL;have r3:=Bx.ld1 ho h.b3 0 (by show 0<1; decide) big1;have r4:=Bx.ld1 ho h.b4 0 (by show 0<1; decide) big1;have r7:=h.b7.ld1 ho big1 (i:=0) (v:=.slice ro 0 (s1-s0+1) (s1-s0+1)) (by decide) rfl;have r8:=h8.ld1 ho big1 (i:=0) (v:=.int .i64 (a:Int)) (by decide) rfl;simp only[List.getElem_cons_zero]at r3 r4;have rs0:=h.b5.ld1 ho big2 (i:=0) (by decide) (tr2_0 s0 s1);have rs1:=h.b5.ld1 ho big2 (i:=1) (v:=.int .i64 (s1:Int)) (by decide) rfl;have i0:ixA 2 1 false 1 (.ptr p5 0) (.int .i64 0)=some (.ptr p5 0):=rfl;have i1:ixA 2 1 false 1 (.ptr p5 0) (.int .i64 1)=some (.ptr p5 1):=rfl;obtain⟨u,hu1,hu2⟩:=h.rx.rws.get hk;have rk:=row_ld ho h.rx.row hu1 (j:=256) (by omega) hu2.kind;have ixk:=qih r L.length k hk;unfold canS;rw[List.getElem?_eq_getElem hk];simp only;rw[F29_eq,qbl ho r3,oB];dsimp only;rw[qg8,oB,qcn,oB,Nat.zero_add,qbl ho h.rx.l0,oB];dsimp only;rw[ixk,oB,qcn,oB,qbl ho rk,oB];dsimp only;rw[binV_ii,intsV_eql,oB,ifK_bool];have on_:∀l:List LE,onS (S.lg l)=S.lg []:=fun _=>rfl;have R3:=fun l=>qbl ho r3 l;have R4:=fun l=>qbl ho r4 l;have R7:=fun l=>qbl ho r7 l;have R8:=fun l=>qbl ho r8 l;have R0:=fun l=>qbl ho rs0 l;have R1:=fun l=>qbl ho rs1 l;have Rl:=fun l=>qbl ho h.rx.l0 l;by_cases hk0:L[k].kind=0
 . rw[iP hk0,show decide ((L[k].kind:Int)=0)=true by rw[decide_eq_true_eq]; omega,cT]
   have hk1:k+1<L.length:=by
    rcases Nat.lt_or_ge (k+1) L.length with h'|h'
    . exact h'
    . have:=(h.hw.last k _ (List.getElem?_eq_getElem hk)).2 (by omega)
      omega
   simp only[on_,R8,i1,R1,oB,binV_ii,intsV_lss,qaa];by_cases hlt:a<s1
   . have haT:a<T.length:=by omega
     have hgT:T.getD a 0=T[a]:=by rw[List.getD_eq_getElem?_getD,List.getElem?_eq_getElem haT]; rfl
     have hB:T[a].toNat<256:=T[a].toNat_lt;have hB2:T[a].toNat<258:=Nat.lt_of_lt_of_le hB (by decide);have hix:=qja 256 1 false 1 .u8 (b:=r) (off:=k*258) hB;have hD2:=fun l=>qbl ho (row_ld ho h.rx.row hu1 hB2 (hu2.has T[a])) l;rw[dT hlt,hgT,rwAt_next hlt];rw[qee hlt];simp only[cT,oB,on_,R3,qg8,qcn,Nat.zero_add,Nat.add_zero,Rl,R4,R8,qh8 T .i64 a haT,ixk,hix,Nat.mul_one,hD2,pickV_bool,qaa,Bool.true_and];cases hq:L[k].p T[a]with
     | false=>
      simp only[cF,oB,qas,pickV_bool,on_,Bool.false_and];rw[qbp (by rfl)];exact⟨S,_,rfl,OkLog.of_rd rfl,Grew.refl _ _⟩
     | true=>
      have hj:a+1-s0<outL.length:=by rw[h.len]; omega
      obtain⟨y,hx1,hx2,hx3⟩:=hrows (a+1-s0) (by omega) hj;rw[show s0+(a+1-s0)=a+1 by omega]at hx3;have hq2:=hx3.ld ho (k:=k+1) (by rw[qel]; exact hk1);have e1:=qa5 (i:=a) (by omega)
      have e2:IntKind.i64.wrap (((a+1:Nat):Int)-(s0:Int))=((a+1-s0:Nat):Int):=by
       rw[qap (by omega) (by omega)]; omega
      have e3:=qa5 (i:=k) (by omega);have ix2:=qdm ro (s1-s0+1) (a+1-s0) (by rw[<- h.len]; exact hj);have Ro:=fun l=>qbl ho (show ld1 (.ptr ro (a+1-s0)) S=_ from h.out.ld1 ho (by rw[List.getElem?_map,hx1]; rfl)) l;have ix3:=qdm y L.length (k+1) hk1;have Rx':=fun l=>qbl ho hq2 l;simp only[cT,oB,qaa,on_,R7,R8,binV_ii,intsV_add,e1,i0,R0,intsV_sub,e2,ix2,Ro,e3,ix3,Rx',pickV_bool,Bool.true_and];rw[qbp (by rfl)];exact⟨S,_,rfl,OkLog.of_rd rfl,Grew.refl _ _⟩
   . rw[qed (by omega),dF hlt]
     simp only[cF,oB,qas,qaa,pickV_bool,on_,Bool.false_and];rw[qbp (by rfl)];exact⟨S,_,rfl,OkLog.of_rd rfl,Grew.refl _ _⟩
 . rw[iN hk0,show decide ((L[k].kind:Int)=0)=false by rw[decide_eq_false_iff_not]; omega,cF,binV_ii,intsV_eql,oB,ifK_bool]
   by_cases hk6:L[k].kind=6
   . rw[iP hk6,show decide ((L[k].kind:Int)=6)=true by rw[decide_eq_true_eq]; omega,cT,R8,oB]
     dsimp only;rw[i1,oB,R1,oB];dsimp only
     rw[binV_ii,intsV_eql,oB,show decide ((a:Int)=(s1:Int))=decide (a=s1) by
      by_cases e:a=s1
      . rw[dT e,dT (by omega)]
      . rw[dF e,dF (by omega)]]
     exact⟨S,_,rfl,OkLog.of_rd rfl,Grew.refl _ _⟩
   . rw[iN hk6,show decide ((L[k].kind:Int)=6)=false by rw[decide_eq_false_iff_not]; omega,cF,R3,oB]
     dsimp only;rw[R8,oB];dsimp only;rw[R4,oB];dsimp only;rw[lnStr_sv,oB];dsimp only;obtain⟨lg,hlg⟩:∃lg,lg=(⟨p4,0,0+1,false⟩::⟨p8,0,0+1,false⟩::⟨p3,0,0+1,false⟩::⟨r,k*258+256,k*258+256+1,false⟩::⟨b,0,0+1,false⟩::⟨p3,0,0+1,false⟩::[]:List LE):=⟨_,rfl⟩
     rw[<- hlg];have hok:OkLog S.next lg:=by rw[hlg]; exact OkLog.of_rd rfl
     obtain⟨U,v,l',g1,g2,g3,g4⟩:=goes_on hK m h.rx hL hk a T.length lg;have onU:=g3.on.trans ho;have hgn:qch L[k] k a T.length=gon L k a T.length:=by unfold gon; rw[List.getElem?_eq_getElem hk]
     rw[hgn,g1,callP_ret];have hxU:=hx.grew (fun h=>h) g3;have h9U:=h9.grew hp9 (fun h=>h) g3;rcases g2 with⟨e1,rfl⟩|⟨x',rfl,r1,r2,r3'⟩
     . rw[e1,show lnS .nilslice (U.lg l')=some (.int .i64 0,U.lg l')from rfl,oB]
       dsimp only;rw[show qa3=qa3-1+1 by unfold qa3; omega,qku,binV_ii,intsV_lss,show decide ((0:Int)<0)=false from rfl,oB,ifK_bool,cF,fin29];exact⟨U,_,rfl,g4 hok,g3⟩
     . have hg2:(gon L k a T.length).length<=2:=by
        unfold gon;cases L[k]? with
        | none=>simp
        | some s=>
         simp only[qch]
         repeat' split
         all_goals simp
       obtain⟨lg',q1,q2⟩:=L29_spec (ev E0 K (m+1)) qa3 onU (x:=x) (x':=x') (p9:=p9) (l:=l) (ll:=gon L k a T.length) hxU (fun y hy=>by rw[hl]; exact(h.hw.gon hy).2) (by rw[hl]; exact h9U) r1 (by omega) _ 0 qa3 l' rfl (by omega) (by rw[List.drop_zero]; unfold qa3; omega);rw[lnS_sl,oB];dsimp only;rw[show((0:Nat):Int)=0 from rfl]at q1;exact⟨U,lg',q1,q2 _ (g4 hok),g3⟩
end
theorem pairs22 {N p x i:Nat} {L l:List LE} (hp:p<N) (h:OkLog N L):qat [[⟨p,0,0+1,false⟩],[],[⟨p,0,0+1,false⟩],[],[],[⟨x,i,i+1,false⟩],[],[],[],L,[],[],l] [(0,[2,5,9])]=true:=by
 have c1:qeu [⟨p,0,0+1,false⟩] [⟨p,0,0+1,false⟩]=false:=by
  unfold qeu;rw[qi7 rfl _ (fun f hf=>by rw[List.mem_singleton.1 hf])]; rfl
 have c2:qeu [⟨p,0,0+1,false⟩] [⟨x,i,i+1,false⟩]=false:=by
  unfold qeu;rw[qi7 rfl _ (fun f hf=>by rw[List.mem_singleton.1 hf])]; rfl
 have c3:qeu [⟨p,0,0+1,false⟩] L=false:=by
  unfold qeu;rw[clash1_new hp h]; rfl
 show(bif (bif qeu [⟨p,0,0+1,false⟩] [⟨p,0,0+1,false⟩]then true else bif qeu [⟨p,0,0+1,false⟩] [⟨x,i,i+1,false⟩]then true else bif qeu [⟨p,0,0+1,false⟩] L then true else false)then false else true)=true;rw[c1,c2,c3]; rfl
section
variable {gr:Nat} {S:St} {b r N1 p3 p4 p5 p7 ro:Nat} {L:List AS} {ts:List (Tr V)} {T:List UInt8} {s0 s1:Nat} {outL:List V}
theorem RowsAt.st {U:St} {j x:Nat} (h:RowsAt S N1 L T s0 s1 j outL) (hx:∀i,j<=i->i<outL.length->outL[i]?≠some (.slice x 0 L.length L.length)) (g:Grew (fun y=>y=x) S U):RowsAt U N1 L T s0 s1 j outL:=fun i h1 h2=>by
 obtain⟨y,a1,a2,a3⟩:=h i h1 h2;refine⟨y,a1,a2,a3.grew (fun e=>?_) g⟩;rw[e]at a1;exact hx i h1 h2 a1
theorem RowsAt.grew {W:Nat->Prop} {U:St} {j:Nat} (h:RowsAt S N1 L T s0 s1 j outL) (hw:∀x,x<S.next->N1<=x->¬W x) (g:Grew W S U):RowsAt U N1 L T s0 s1 j outL:=fun i h1 h2=>by
 obtain⟨y,a1,a2,a3⟩:=h i h1 h2;exact⟨y,a1,a2,a3.grew (hw y a3.1 a2) g⟩
theorem can_run {K:FuncId->Option KF} (hK:∀f,f≠9->K f=none) (m:Nat) (h:Rch gr S b r L ts N1 p3 p4 p5 p7 ro T s0 s1 outL) {a:Nat} (ha0:s0<=a) (ha1:a<=s1) {p8 p9 x:Nat} (h8:AgAt S p8 3 1 (Ev.one (.int .i64 (a:Int)))) {l:List Bool} (hl:l.length=L.length) (h9:AgAt S p9 65 1 (Ev.one (.slice x 0 L.length L.length))) (hp9:p9<S.next) (hx:BRl S x l) (hrows:RowsAt S N1 L T s0 s1 (a-s0+1) outL) {k:Nat} (hk:k<L.length) :
 ∃U L',qla E0 (ev E0 K (m+2)) (.fn (.func 29) [] [.ptr p3 0,.ptr p8 0,.ptr p5 0,.ptr p4 0,.ptr p7 0,.ptr p9 0]) [.int .i64 (k:Int)] (onS S)=some (.ret (.bool (canS L T s1 a ((qd7 L T s1 (s1-a)).headD []) l k)),U.lg L')/\OkLog S.next L'/\Grew (fun _=>False) S U:=by
 obtain⟨U,L',h1,h2,h3⟩:=can_spec hK m h ha0 ha1 h8 hl h9 hp9 hx hrows hk;refine⟨U,L',?_,h2,h3⟩;rw[qk8 (by kernel_rfl) (by kernel_rfl)];exact qax (c:=C29) (d:=B29) (by kernel_rfl) (by kernel_rfl) (qa7 C29 _ (by kernel_rfl)) (hK 29 (by decide)) h1
theorem L63_spec {K:FuncId->Option KF} (hK:∀f,f≠9->K f=none) (m N:Nat) (nk:Ac->St->Rs) (ek:Nat->Ac->St->Rs) {a:Nat} (ha0:s0<=a) (ha1:a<=s1) {p8 p9 x:Nat} (hx8:p8≠x) (hx9:p9≠x) (hxN:N1<=x) (hout:∀i,a-s0+1<=i->i<outL.length->outL[i]?≠some (.slice x 0 L.length L.length)) (v41:V) :
 ∀(j f:Nat) (l:List Bool) (S:St),Rch gr S b r L ts N1 p3 p4 p5 p7 ro T s0 s1 outL->AgAt S p8 3 1 (Ev.one (.int .i64 (a:Int)))->AgAt S p9 65 1 (Ev.one (.slice x 0 L.length L.length))->p8<S.next->p9<S.next->RowsAt S N1 L T s0 s1 (a-s0+1) outL->l.length=L.length->BRl S x l->j<=L.length->j<f->
 ∃U,L22_63 (ev E0 K (m+2)) N nk ek f (.ptr p3 0) (.ptr p4 0) (.ptr p5 0) (.ptr p7 0) (.ptr p8 0) (.ptr p9 0) (.fn (.func 29) [] [.ptr p3 0,.ptr p8 0,.ptr p5 0,.ptr p4 0,.ptr p7 0,.ptr p9 0]) (.int .i64 ((j:Int)-1)) v41 S
  = ek 4 (fr 68 [(3,.ptr p3 0),(4,.ptr p4 0),(5,.ptr p5 0),(7,.ptr p7 0),(8,.ptr p8 0),(9,.ptr p9 0),(10,.fn (.func 29) [] [.ptr p3 0,.ptr p8 0,.ptr p5 0,.ptr p4 0,.ptr p7 0,.ptr p9 0]),(41,v41)]) U/\BRl U x (swp (canS L T s1 a ((qd7 L T s1 (s1-a)).headD [])) j l)/\Grew (fun y=>y=x) S U
 | j,0,l,S,_,_,_,_,_,_,_,_,_,hj=>by omega
 | 0,f+1,l,S,h,h8,h9,hn8,hn9,hrows,hl,hx,hjn,hj=>by
  refine⟨S,?_,hx,Grew.refl _ _⟩;rw[L22_63_eq,binV_ii,intsV_geq,show decide ((0:Int)<=((0:Nat):Int)-1)=false by rw[decide_eq_false_iff_not]; omega,oB,ifK_bool,cF]
 | j+1,f+1,l,S,h,h8,h9,hn8,hn9,hrows,hl,hx,hjn,hj=>by
  have ho:=h.rx.on;have hL:=h.hL;have r9:=h9.ld1 ho big1 (i:=0) (v:=.slice x 0 L.length L.length) (by decide) rfl;have R9:=fun l=>qbl ho r9 l;have on_:∀(S:St) (l:List LE),onS (S.lg l)=S.lg []:=fun _ _=>rfl;have on0:onS S=S.lg []:=rfl;have Rq:=fun lg=>qbl ho (hx.ld ho (k:=j) (by omega)) lg;have ixx:=qdm x L.length j (by omega)
  have main:∀(q:Bool) (lg:List LE) (U:St),OkLog S.next lg->Grew (fun _=>False) S U->q=(bd l j||canS L T s1 a ((qd7 L T s1 (s1-a)).headD []) l j)->∃V,((ixP 1 (.slice x 0 L.length L.length) (.int .i64 (j:Int))).bind fun t77=>
(stP 1 t77 (.bool q) (onS (U.lg lg))).bind fun p78=>
qfq [(0,[2,5,9])] S [[⟨p9,0,0+1,false⟩],[],[⟨p9,0,0+1,false⟩],[],[],[⟨x,j,j+1,false⟩],[],[],[],lg,[],[],p78.2.log] p78.2 fun S79=>
(qa4 E0 .sub 3 false true (.int .i64 (j:Int)) (.int .i64 1)).bind fun t81=>
L22_63 (ev E0 K (m+2)) N nk ek f (.ptr p3 0) (.ptr p4 0) (.ptr p5 0) (.ptr p7 0) (.ptr p8 0) (.ptr p9 0) (.fn (.func 29) [] [.ptr p3 0,.ptr p8 0,.ptr p5 0,.ptr p4 0,.ptr p7 0,.ptr p9 0]) t81 v41 S79)=ek 4 (fr 68 [(3,.ptr p3 0),(4,.ptr p4 0),(5,.ptr p5 0),(7,.ptr p7 0),(8,.ptr p8 0),(9,.ptr p9 0),(10,.fn (.func 29) [] [.ptr p3 0,.ptr p8 0,.ptr p5 0,.ptr p4 0,.ptr p7 0,.ptr p9 0]),(41,v41)]) V/\BRl V x (swp (canS L T s1 a ((qd7 L T s1 (s1-a)).headD [])) (j+1) l)/\Grew (fun y=>y=x) S V:=fun q lg U hlg gU hq=>by
   have onU:=gU.on.trans ho;have hxU:=hx.grew (fun h=>h) gU;obtain⟨S1,a1,a2,a3,a4⟩:=hxU.st onU (k:=j) (by omega) q;have on1:=a3.on.trans onU;obtain⟨l1,b1⟩:=stP_lg onU a1;rw[ixx,oB,on_,b1,oB];dsimp only;rw[endP_of (pairs22 hn9 hlg)];obtain⟨u1,u2,u3⟩:=qiw ho l1 [[⟨p9,0,0+1,false⟩],[],[⟨p9,0,0+1,false⟩],[],[],[⟨x,j,j+1,false⟩],[],[],[],lg,[],[],(S1.lg l1).log] (s':=S1) on1;generalize qbf S (S1.lg l1) _=S2 at u1 u2 u3 ⊢;have g1:Grew (fun y=>y=x) S S1:=(gU.mono fun _ _ h=>h.elim).trans a3;have g2:Grew (fun y=>y=x) S S2:=⟨by rw[u2]; exact g1.next,u3.trans ho.symm,fun y hy hw=>by rw[u1]; exact g1.keep y hy hw⟩
   have hx2:BRl S2 x (l.set j q):=⟨by rw[u2]; exact a2.1,a2.2.same u1⟩
   obtain⟨V,d1,d2,d3⟩:=L63_spec hK m N nk ek ha0 ha1 hx8 hx9 hxN hout v41 j f (l.set j q) S2 (h.grew (fun y hy=>by omega) g2) (h8.grew hn8 hx8 g2) (h9.grew hn9 hx9 g2) (Nat.lt_of_lt_of_le hn8 g2.next) (Nat.lt_of_lt_of_le hn9 g2.next) (hrows.st hout g2) (by rw[List.length_set]; exact hl) hx2 (by omega) (by omega);refine⟨V,?_,by rw[swp,<- hq]; exact d2,g2.trans d3⟩;rw[binV_ii,intsV_sub,qap (by omega) (by omega),oB];exact d1
  obtain⟨U1,L1,c1,c2,c3⟩:=can_run hK m h ha0 ha1 h8 hl h9 hn9 hx hrows (k:=j) (by omega);have hsub:((j+1:Nat):Int)-1=(j:Int):=by omega
  rw[hsub,L22_63_eq,binV_ii,intsV_geq,show decide ((0:Int)<=(j:Int))=true by rw[decide_eq_true_eq]; omega,oB,ifK_bool,cT];rw[on0,R9,oB];dsimp only;rw[on_,R9,oB];dsimp only;rw[ixx,oB,on_,Rq,oB];dsimp only;rw[on_,qaq,oB];cases hq0:bd l j with
  | true=>
   simp only[Bool.not_true,cF,oB,qaq,qbh,pickV_bool,cT];have:=main true [] S (OkLog.nil _) (Grew.refl _ _) (by rw[hq0]; rfl);rw[ixx,oB]at this;exact this
  | false=>
   simp only[nF,cT,oB,qaq];rw[show S.lg []=onS S from rfl,c1,qbh,pickV_bool,cF,oB];have:=main _ L1 U1 c2 c3 (by rw[hq0,Bool.false_or]);rw[ixx,oB]at this;exact this
end
section
variable {S:St}
theorem make63 (ho:S.on=false) (n:Nat) (hn:n<=20000):∃T,qb5 E0 63 (.int .i64 (n:Int)) (.int .i64 (n:Int)) S=some (.slice S.next 0 n n,T)/\RowAt T S.next 65 1 ((List.replicate n V.nilslice).map Ev.one)/\Grew (fun _=>False) S T/\T.next=S.next+1:=by
 have hr:=qdv (s:=S) (e:=65) (z:=1) (n:=n) (v:=.nilslice) ho (by decide) (by unfold big; omega);refine⟨qg7 S 65 1 .nilslice n,?_,by rw[List.map_replicate]; exact hr,qd3 ho _ _,rfl⟩;unfold qb5;rw[show qbi E0 63=some (65,1,24) by kernel_rfl,oB,show qda (.int .i64 (n:Int))=some n from rfl,oB,oB];unfold qjd;rw[show Nat.ble n n=true from ble_true.2 (lR _),blt_true.2 (show n*(24+1+1)<qan by unfold qan; omega),Bool.and_self,cT,show qet E0 65=some .nilslice by kernel_rfl,oB];rfl
theorem box_ag2 (ho:S.on=false) (tr:Tr V):∃T,boxK 30 (.agg 2 tr) S=some (.ptr S.next 0,T)/\AgAt T S.next 30 2 tr/\Grew (fun _=>False) S T/\T.next=S.next+1:=by
 refine⟨qag S 30 2 [tr],rfl,⟨Tr.ofListFrom .nil [tr] 0,?_,by rw[Tr.get_ofList]; rfl⟩,qd3 ho _ _,rfl⟩;unfold qag;rw[qin,iP rfl]; rfl
theorem makeB (ho:S.on=false) (n:Nat) (hn:n<=20000):∃T,qb5 E0 65 (.int .i64 (n:Int)) (.int .i64 (n:Int)) S=some (.slice S.next 0 n n,T)/\BRl T S.next (List.replicate n false)/\Grew (fun _=>False) S T/\T.next=S.next+1:=by
 have hr:=qdv (s:=S) (e:=4) (z:=1) (n:=n) (v:=.bool false) ho (by decide) (by unfold big; omega);refine⟨qg7 S 4 1 (.bool false) n,?_,⟨Nat.lt_succ_self _,by rw[List.map_replicate]; exact hr⟩,qd3 ho _ _,rfl⟩;unfold qb5;rw[show qbi E0 65=some (4,1,1) by kernel_rfl,oB,show qda (.int .i64 (n:Int))=some n from rfl,oB,oB];unfold qjd;rw[show Nat.ble n n=true from ble_true.2 (lR _),blt_true.2 (show n*(1+1+1)<qan by unfold qan; omega),Bool.and_self,cT,show qet E0 4=some (.bool false) by kernel_rfl,oB];rfl
end
section
variable {gr:Nat} {S:St} {b r N1 p3 p4 p5 p7 ro:Nat} {L:List AS} {ts:List (Tr V)} {T:List UInt8} {s0 s1:Nat} {outL:List V}
theorem L51_spec {K:FuncId->Option KF} (hK:∀f,f≠9->K f=none) (m N:Nat) (hN:2000<N) (nk:Ac->St->Rs) (ek:Nat->Ac->St->Rs) {a:Nat} (ha0:s0<=a) (ha1:a<=s1) {p8 p9 x:Nat} (hx8:p8≠x) (hx9:p9≠x) (hxN:N1<=x) (hout:∀i,a-s0+1<=i->i<outL.length->outL[i]?≠some (.slice x 0 L.length L.length)) :
 ∀(c d f:Nat) (l:List Bool) (S:St),Rch gr S b r L ts N1 p3 p4 p5 p7 ro T s0 s1 outL->AgAt S p8 3 1 (Ev.one (.int .i64 (a:Int)))->AgAt S p9 65 1 (Ev.one (.slice x 0 L.length L.length))->p8<S.next->p9<S.next->RowsAt S N1 L T s0 s1 (a-s0+1) outL->l.length=L.length->BRl S x l->c+d=11->d<f->
 ∃U,L22_51 (ev E0 K (m+2)) N nk ek f (.ptr p3 0) (.ptr p4 0) (.ptr p5 0) (.ptr p7 0) (.ptr p8 0) (.ptr p9 0) (.fn (.func 29) [] [.ptr p3 0,.ptr p8 0,.ptr p5 0,.ptr p4 0,.ptr p7 0,.ptr p9 0]) (.int .i64 (c:Int)) S
  = ek 2 (fr 68 [(3,.ptr p3 0),(4,.ptr p4 0),(5,.ptr p5 0),(7,.ptr p7 0),(8,.ptr p8 0)]) U/\BRl U x (swps (canS L T s1 a ((qd7 L T s1 (s1-a)).headD [])) L.length d l)/\Grew (fun y=>y=x) S U
 | c,d,0,l,S,_,_,_,_,_,_,_,_,_,hf=>by omega
 | c,0,f+1,l,S,h,h8,h9,hn8,hn9,hrows,hl,hx,hc,hf=>by
  refine⟨S,?_,hx,Grew.refl _ _⟩;rw[L22_51_eq,binV_ii,intsV_lss,show decide ((c:Int)<11)=false by rw[decide_eq_false_iff_not]; omega,oB,ifK_bool,cF]
 | c,d+1,f+1,l,S,h,h8,h9,hn8,hn9,hrows,hl,hx,hc,hf=>by
  have ho:=h.rx.on;have hL:=h.hL;have r3:=Bx.ld1 ho h.b3 0 (by show 0<1; decide) big1;simp only[List.getElem_cons_zero]at r3;obtain⟨S1,a1,a2,a3⟩:=L63_spec hK m N (qkz (ev E0 K (m+2)) N (qkx (ev E0 K (m+2)) N nk ek f) ek) (exB 4 (qkz (ev E0 K (m+2)) N (qkx (ev E0 K (m+2)) N nk ek f) ek) (exB 3 (qkz (ev E0 K (m+2)) N (qkx (ev E0 K (m+2)) N nk ek f) ek) ek)) ha0 ha1 hx8 hx9 hxN hout (.int .i64 (c:Int)) L.length N l S h h8 h9 hn8 hn9 hrows hl hx (lR _) (by omega);obtain⟨U,b1,b2,b3⟩:=L51_spec hK m N hN nk ek ha0 ha1 hx8 hx9 hxN hout (c+1) d f _ S1 (h.grew (fun y hy=>by omega) a3) (h8.grew hn8 hx8 a3) (h9.grew hn9 hx9 a3) (Nat.lt_of_lt_of_le hn8 a3.next) (Nat.lt_of_lt_of_le hn9 a3.next) (hrows.st hout a3) (by rw[qmt]; exact hl) a2 (by omega) (by omega);refine⟨U,?_,by rw[swps]; exact b2,a3.trans b3⟩;rw[L22_51_eq,binV_ii,intsV_lss,show decide ((c:Int)<11)=true by rw[decide_eq_true_eq]; omega,oB,ifK_bool,cT,r3,oB];dsimp only;rw[qg8,oB,qcn,oB,Nat.zero_add,h.rx.l0,oB];dsimp only;rw[lnS_oslice,oB];dsimp only;rw[binV_ii,intsV_sub,qap (by omega) (by omega),oB,a1,exB_same,R22_53_eq,binV_ii,intsV_add,qa5 (by omega),oB,N22_51_eq,b1]
theorem L20r_spec {K:FuncId->Option KF} (hK:∀f,f≠9->K f=none) (m N:Nat) (hN:2000<N) (nk:Ac->St->Rs) (ek:Nat->Ac->St->Rs) :
 ∀(d f p8:Nat) (outL:List V) (S:St),Rch gr S b r L ts N1 p3 p4 p5 p7 ro T s0 s1 outL->AgAt S p8 3 1 (Ev.one (.int .i64 ((s0:Int)+(d:Int)-1)))->N1<=p8->p8<S.next->RowsAt S N1 L T s0 s1 d outL->d<=s1-s0+1->d<f->
 ∃U outL',L22_20 (ev E0 K (m+2)) N nk ek f (.ptr p3 0) (.ptr p4 0) (.ptr p5 0) (.ptr p7 0) (.ptr p8 0) S
  = ek 0 (fr 68 [(7,.ptr p7 0)]) U/\AgAt U p7 63 1 (Ev.one (.slice ro 0 (s1-s0+1) (s1-s0+1)))/\RowAt U ro 65 1 (outL'.map Ev.one)/\outL'.length=s1-s0+1/\RowsAt U N1 L T s0 s1 0 outL'/\Grew (fun y=>ro<=y) S U
 | d,0,p8,outL,S,_,_,_,_,_,_,hf=>by omega
 | 0,f+1,p8,outL,S,h,h8,h8N,hn8,hrows,hd,hf=>by
  have ho:=h.rx.on;refine⟨S,outL,?_,h.b7,h.out,h.len,hrows,Grew.refl _ _⟩;have r8:=h8.ld1 ho big1 (i:=0) (v:=.int .i64 ((s0:Int)+((0:Nat):Int)-1)) (by decide) rfl;have rs0:=h.b5.ld1 ho big2 (i:=0) (by decide) (tr2_0 s0 s1);rw[L22_20_eq,r8,oB];dsimp only;rw[show ixA 2 1 false 1 (.ptr p5 0) (.int .i64 0)=some (.ptr p5 0)from rfl,oB,rs0,oB];dsimp only;rw[binV_ii,intsV_geq,show decide ((s0:Int)<=(s0:Int)+((0:Nat):Int)-1)=false by rw[decide_eq_false_iff_not]; omega,oB,ifK_bool,cF]
 | d+1,f+1,p8,outL,S,h,h8,h8N,hn8,hrows,hd,hf=>by
  have ho:=h.rx.on;have hL:=h.hL;have hT:=h.hT;have hs:=h.hs;have hle:=h.le;have h7:=h.h7;have hN1:=h.hN;have hro:=h.h8;have hcast:(s0:Int)+((d+1:Nat):Int)-1=((s0+d:Nat):Int):=by omega
  rw[hcast]at h8;have r8:=h8.ld1 ho big1 (i:=0) (v:=.int .i64 ((s0+d:Nat):Int)) (by decide) rfl;have rs0:=h.b5.ld1 ho big2 (i:=0) (by decide) (tr2_0 s0 s1);have r3:=Bx.ld1 ho h.b3 0 (by show 0<1; decide) big1;simp only[List.getElem_cons_zero]at r3;have i0:ixA 2 1 false 1 (.ptr p5 0) (.int .i64 0)=some (.ptr p5 0):=rfl;obtain⟨S1,a1,a2,a3,a4⟩:=makeB ho L.length (by omega);have on1:=a3.on.trans ho;obtain⟨b1,b2,b3⟩:=qe2 on1 65 1 (Ev.one .nilslice);have on2:(nwP 65 1 (Ev.one .nilslice) S1).2.on=false:=qfs on1 _;obtain⟨S3,c1,c2,c3,c4⟩:=b1.st_one on2 (.slice S.next 0 L.length L.length) rfl rfl rfl;have on3:=c3.on.trans on2;have g3:Grew (fun _=>False) S S3:=(a3.trans b2).own (by omega) c3;have n3:S3.next=S.next+2:=by omega
  have x3:BRl S3 S.next (List.replicate L.length false):=(a2.grew (fun h=>h) b2).grew (by omega) c3
  have h3:=h.grew (fun _ _ h=>h) g3;have r7:=h3.b7.ld1 on3 big1 (i:=0) (v:=.slice ro 0 (s1-s0+1) (s1-s0+1)) (by decide) rfl;have h83:=h8.grew hn8 (fun h=>h) g3;have r83:=h83.ld1 on3 big1 (i:=0) (v:=.int .i64 ((s0+d:Nat):Int)) (by decide) rfl;have rs03:=h3.b5.ld1 on3 big2 (i:=0) (by decide) (tr2_0 s0 s1);have r93:=c2.ld1 on3 big1 (i:=0) (v:=.slice S.next 0 L.length L.length) (by decide) rfl;have hdl:d<outL.length:=by rw[h.len]; omega
  obtain⟨S4,d1,d2,d3,d4⟩:=h3.out.stK on3 (i:=d) (by rw[lM]; exact hdl) (Ev.one (.slice S.next 0 L.length L.length));rw[Nat.mul_one]at d1;have on4:=d3.on.trans on3
  have d1':stP 1 (.ptr ro d) (.slice S.next 0 L.length L.length) S3=some (.tuple [],S4):=by
   show vu (stK S3 ro d 1 (Ev.one (.slice S.next 0 L.length L.length)))=_;rw[d1]; rfl
  have hb7:p7≠ro:=fun e=>by
   obtain⟨c,q1,_⟩:=h.b7;obtain⟨c',q2,_⟩:=h.out.row;rw[e,q2]at q1;simp at q1
  have nro:∀{p e z:Nat} {c:Tr V},AgAt S p e z c->e≠65->p≠ro:=fun{p e z c} q hne e'=>by
   obtain⟨c,q1,_⟩:=q;obtain⟨c',q2,_⟩:=h.out.row;rw[e',q2]at q1;simp at q1;exact hne q1.1.symm
  have nbx:∀{p e:Nat} {l:List V},Bx S p e l->e≠65->p≠ro:=fun{p e l} q hne e'=>by
   obtain⟨c',q2,_⟩:=h.out.row;unfold Bx at q;rw[e',q2]at q;simp at q;exact hne q.1.symm
  obtain⟨ss,si,sf,sd,hbx⟩:=h.rx.bx;have hbro:b≠ro:=nbx hbx (by decide)
  have hrro:r≠ro:=fun e'=>by
   obtain⟨c,q1,_⟩:=h.rx.row.row;obtain⟨c',q2,_⟩:=h.out.row;rw[e',q2]at q1;simp at q1
  have h4:Rch gr S4 b r L ts N1 p3 p4 p5 p7 ro T s0 s1 (outL.set d (.slice S.next 0 L.length L.length)):=by
   refine⟨h3.rx.grew hbro hrro d3,h.hb,h.hr,h.h3,h.h4,h.h5,h.h7,h.h8,by omega,h.le,h.hs,h.hw,h.hL,h.hT,by rw[List.length_set]; exact h.len,h3.b3.grew (by have:=h.h3; have:=h.h4; have:=h.h5; omega) (nbx h.b3 (by decide)) d3,h3.b4.grew (by have:=h.h3; have:=h.h4; have:=h.h5; omega) (nbx h.b4 (by decide)) d3,h3.b5.grew (by have:=h.h3; have:=h.h4; have:=h.h5; omega) (nro h.b5 (by decide)) d3,h3.b7.grew (by omega) hb7 d3,by rw[List.map_set]; exact d2⟩
  have hr4:RowsAt S4 N1 L T s0 s1 (d+1) (outL.set d (.slice S.next 0 L.length L.length)):=fun i hi1 hi2=>by
   rw[List.length_set]at hi2;obtain⟨y,y1,y2,y3⟩:=hrows i (by omega) hi2;exact⟨y,by rw[List.getElem?_set_ne (by omega)]; exact y1,y2,(y3.grew (fun h=>h) g3).grew (by omega) d3⟩
  have hout:∀i,(s0+d)-s0+1<=i->i<(outL.set d (.slice S.next 0 L.length L.length)).length->(outL.set d (.slice S.next 0 L.length L.length))[i]?≠some (.slice S.next 0 L.length L.length):=fun i hi1 hi2 e=>by
   rw[List.length_set]at hi2;obtain⟨y,y1,y2,y3⟩:=hrows i (by omega) hi2;rw[List.getElem?_set_ne (by omega),y1]at e;simp only[oS,V.slice.injEq,and_true,true_and]at e;have:=y3.1;omega
  have h84:=h83.grew (by omega) (show ¬p8=ro by omega) d3;have h94:=c2.grew (by omega) (show ¬S1.next=ro by omega) d3;have x4:=x3.grew (show ¬S.next=ro by omega) d3;have hidx:s0+d-s0+1=d+1:=by omega
  obtain⟨S5,e1,e2,e3⟩:=L51_spec hK m N hN (qky (ev E0 K (m+2)) N (qkw (ev E0 K (m+2)) N nk ek f) ek) (exB 2 (qky (ev E0 K (m+2)) N (qkw (ev E0 K (m+2)) N nk ek f) ek) (exB 1 (qky (ev E0 K (m+2)) N (qkw (ev E0 K (m+2)) N nk ek f) ek) ek)) (a:=s0+d) (by omega) (by omega) (p8:=p8) (p9:=S1.next) (x:=S.next) (by omega) (by omega) (by omega) hout 0 11 N (List.replicate L.length false) S4 h4 h84 h94 (by omega) (by omega) (by rw[hidx]; exact hr4) (by simp) x4 rfl (by omega);have h5:=h4.grew (fun y hy=>by omega) e3
  have hr5':RowsAt S5 N1 L T s0 s1 (d+1) (outL.set d (.slice S.next 0 L.length L.length)):=by
   rw[hidx]at hout;exact hr4.st hout e3
  have hr5:RowsAt S5 N1 L T s0 s1 d (outL.set d (.slice S.next 0 L.length L.length)):=fun i hi1 hi2=>by
   by_cases hid:i=d
   . subst hid
     exact⟨S.next,by rw[List.getElem?_set_self hdl],by omega,e2⟩
   . exact hr5' i (by omega) hi2
  have on5:=h5.rx.on;have h85:=h84.grew (by omega) (show ¬p8=S.next by omega) e3;have r85:=h85.ld1 on5 big1 (i:=0) (v:=.int .i64 ((s0+d:Nat):Int)) (by decide) rfl;have n5:=e3.next
  obtain⟨f1,f2,f3⟩:=qe2 on5 3 1 (Ev.one (.int .i64 0));have on6:(nwP 3 1 (Ev.one (.int .i64 0)) S5).2.on=false:=qfs on5 _;obtain⟨S7,k1,k2,k3,k4⟩:=f1.st_one on6 (.int .i64 ((s0+d:Nat):Int)) rfl rfl rfl;have on7:=k3.on.trans on6;have r7':=k2.ld1 on7 big1 (i:=0) (v:=.int .i64 ((s0+d:Nat):Int)) (by decide) rfl;obtain⟨S8,l1,l2,l3,l4⟩:=k2.st_one on7 (.int .i64 ((s0:Int)+(d:Int)-1)) rfl rfl rfl;have g58:Grew (fun _=>False) S5 S8:=((f2.own (lR _) k3).own (lR _) l3)
  obtain⟨U,outL',q1,q2,q3,q4,q5,q6⟩:=L20r_spec hK m N hN nk ek d f S5.next (outL.set d (.slice S.next 0 L.length L.length)) S8 (h5.grew (fun _ _ h=>h) g58) l2 (by omega) (by omega) (hr5.grew (fun _ _ _ h=>h) g58) (by omega) (by omega)
  have gall:Grew (fun y=>ro<=y) S U:=((((g3.mono fun _ _ h=>h.elim).trans (d3.mono fun y _ hy=>by omega)).trans (e3.mono fun y _ hy=>by omega)).trans (g58.mono fun _ _ h=>h.elim)).trans q6;refine⟨U,outL',?_,q2,q3,q4,q5,gall⟩;rw[L22_20_eq,r8,oB];dsimp only;rw[i0,oB,rs0,oB];dsimp only;rw[binV_ii,intsV_geq,show decide ((s0:Int)<=((s0+d:Nat):Int))=true by rw[decide_eq_true_eq]; omega,oB,ifK_bool,cT,r3,oB];dsimp only;rw[qg8,oB,qcn,oB,Nat.zero_add,h.rx.l0,oB];dsimp only;rw[lnS_oslice,oB];dsimp only;rw[a1,oB,oB];dsimp only;rw[qde,c1,oB];dsimp only;rw[r7,oB];dsimp only;rw[r83,oB];dsimp only;rw[oB,rs03,oB];dsimp only;rw[binV_ii,intsV_sub,qap (by omega) (by omega),show((s0+d:Nat):Int)-(s0:Int)=(d:Int) by omega,oB,r93,oB];dsimp only;rw[qdm ro _ d (by omega),oB,d1',oB];dsimp only;rw[show((0:Nat):Int)=0 from rfl]at e1;rw[e1,exB_same,R22_25_eq,r85,oB];dsimp only;rw[oB];rw[qde,k1,oB];dsimp only;rw[r7',oB];dsimp only;rw[binV_ii,intsV_sub,qap (by omega) (by omega),show((s0+d:Nat):Int)-1=(s0:Int)+(d:Int)-1 by omega,oB,l1,oB];dsimp only;rw[N22_20_eq,q1]
theorem reach_run {K:FuncId->Option KF} (hK:∀f,f≠9->K f=none) (m:Nat) (hw:WF L) (hL:L.length<=1000) (hT:T.length<=1000) (hle:s0<=s1) (hs:s1<=T.length) (h:Rg gr S b r L ts) :
 ∃U ro outL,(ev E0 K (m+3)).f 22 [.ptr b 0,sv T,.agg 2 (tr2 s0 s1)] S=some (.ret (.slice ro 0 (s1-s0+1) (s1-s0+1)),U)/\RowAt U ro 65 1 (outL.map Ev.one)/\outL.length=s1-s0+1/\RowsAt U S.next L T s0 s1 0 outL/\S.next<=ro/\ro<U.next/\Grew (fun z=>S.next<=z) S U:=by
 have ho:=h.on;have hb:=h.hb;have hr:=h.hr;obtain⟨S1,a1,a2,a3,a4⟩:=box_one ho 22 (v:=.ptr b 0) ⟨rfl,rfl,rfl,rfl⟩;have on1:=a3.on.trans ho;obtain⟨S2,b1,b2,b3,b4⟩:=box_one on1 9 (oneV_sv T);have on2:=b3.on.trans on1;obtain⟨S3,c1,c2,c3,c4⟩:=box_ag2 on2 (tr2 s0 s1);have on3:=c3.on.trans on2;have q1:=c2.ld1 on3 big2 (i:=1) (v:=.int .i64 (s1:Int)) (by decide) rfl;have q0:=c2.ld1 on3 big2 (i:=0) (v:=.int .i64 (s0:Int)) (by decide) rfl;obtain⟨S4,d1,d2,d3,d4⟩:=make63 on3 (s1-s0+1) (by omega);have on4:=d3.on.trans on3;obtain⟨e1,e2,e3⟩:=qe2 on4 63 1 (Ev.one .nilslice);have on5:(nwP 63 1 (Ev.one .nilslice) S4).2.on=false:=qfs on4 _;obtain⟨S6,f1,f2,f3,f4⟩:=e1.st_one on5 (.slice S3.next 0 (s1-s0+1) (s1-s0+1)) rfl rfl rfl;have on6:=f3.on.trans on5;have g46:Grew (fun _=>False) S4 S6:=e2.own (lR _) f3;have c6:=(c2.grew (by omega) (fun h=>h) d3).grew (by omega) (fun h=>h) g46;have q16:=c6.ld1 on6 big2 (i:=1) (v:=.int .i64 (s1:Int)) (by decide) rfl;obtain⟨k1,k2,k3⟩:=qe2 on6 3 1 (Ev.one (.int .i64 0));have on7:(nwP 3 1 (Ev.one (.int .i64 0)) S6).2.on=false:=qfs on6 _;obtain⟨S8,l1,l2,l3,l4⟩:=k1.st_one on7 (.int .i64 (s1:Int)) rfl rfl rfl;have on8:=l3.on.trans on7;have g68:Grew (fun _=>False) S6 S8:=k2.own (lR _) l3;have n8:S8.next=S6.next+1:=by omega
 have g48:=g46.trans g68;have g38:=d3.trans g48;have g28:=c3.trans g38;have g18:=b3.trans g28;have g08:=a3.trans g18;have F:¬False:=fun h=>h
 have hR:Rch gr S8 b r L ts S6.next S.next S1.next S2.next S4.next S3.next T s0 s1 (List.replicate (s1-s0+1) V.nilslice):=
  ⟨h.grew F F g08,by omega,by omega,by omega,by omega,by omega,by omega,by omega,by omega,hle,hs,hw,hL,hT,by simp,a2.grew (by omega) F g18,b2.grew (by omega) F g28,c2.grew (by omega) F g38,f2.grew (by omega) F g68,d2.grew (by omega) F g48⟩
 obtain⟨U,outL,m1,m2,m3,m4,m5,m6⟩:=L20r_spec hK m qa3 (by unfold qa3; omega) (R22_13 (ev E0 K (m+2)) qa3 (qbg E0 (ev E0 K (m+2)) Try.f22) qav) (exB 0 (R22_13 (ev E0 K (m+2)) qa3 (qbg E0 (ev E0 K (m+2)) Try.f22) qav) qav) (s1-s0+1) qa3 S6.next (List.replicate (s1-s0+1) V.nilslice) S8 hR (by rw[show(s0:Int)+((s1-s0+1:Nat):Int)-1=(s1:Int) by omega]; exact l2) (lR _) (by omega) (fun i hi1 hi2=>by rw[List.length_replicate]at hi2; omega) (lR _) (by unfold qa3; omega)
 have gU:Grew (fun z=>S.next<=z) S U:=(g08.mono fun _ _ h=>h.elim).trans (m6.mono fun z _ hz=>by omega);have onU:=gU.on.trans ho;have nU:=m6.next
 refine⟨U,S3.next,outL,qax (c:=C22) (d:=B22) (by kernel_rfl) (by kernel_rfl) (qa7 C22 _ (by kernel_rfl)) (hK 22 (by decide)) (?_:F22 (ev E0 K (m+2)) qa3 (.ptr b 0) (sv T) (.agg 2 (tr2 s0 s1)) S=_),m3,m4,fun i hi1 hi2=>?_,by omega,by omega,gU⟩
 . rw[F22_eq,a1,oB]
   dsimp only;rw[b1,oB];dsimp only;rw[c1,oB];dsimp only;rw[show ∀p,ixA 2 1 false 1 (.ptr p 0) (.int .i64 1)=some (.ptr p 1)from fun _=>rfl,oB,q1,oB];dsimp only;rw[show ∀p,ixA 2 1 false 1 (.ptr p 0) (.int .i64 0)=some (.ptr p 0)from fun _=>rfl,oB,q0,oB];dsimp only;rw[binV_ii,intsV_sub,qap (by omega) (by omega),oB,binV_ii,intsV_add,qap (by omega) (by omega),show(s1:Int)-(s0:Int)+1=((s1-s0+1:Nat):Int) by omega,oB,d1,oB,oB];dsimp only;rw[qde,f1,oB];dsimp only;rw[oB,q16,oB,oB];dsimp only;rw[qde,l1,oB];dsimp only;rw[m1,exB_same,R22_13_eq,m2.ld1 onU big1 (i:=0) (v:=.slice S3.next 0 (s1-s0+1) (s1-s0+1)) (by decide) rfl,oB]
 . obtain⟨y,y1,y2,y3⟩:=m5 i hi1 hi2
   exact⟨y,y1,by omega,y3⟩
end
end Go.Proofs.Ytachpdpmoihjmaa.W
