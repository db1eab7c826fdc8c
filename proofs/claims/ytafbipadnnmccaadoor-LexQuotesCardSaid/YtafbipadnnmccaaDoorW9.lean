/-
  WHAT THE FUNCTIONS COME TO: each is read by the evaluator,printed,and told as a function of data,part 9 of 13 (no condition).
-/
import Derived.Test.YtafbipadnnmccaaDoorW8
noncomputable section
namespace Go.Proofs.YtafbipadnnmccaaDoor.W
open Go.Proofs.YtafbipadnnmccaaDoor.Ev Go.RowKit
def sufD (t u:Bs):Bool:=decide (u.length<=t.length)&&(t.drop (t.length-u.length)==u)
theorem suf2 (t:Bs):sufD t [60,60]=(t.drop (t.length-2)==[60,60]):=by
 unfold sufD;cases h:(t.drop (t.length-2)==[60,60])with
 | false=>
  rw[Bool.and_false]
 | true=>
  have:=congrArg List.length (beq_iff_eq.1 h);rw[List.length_drop]at this;simp only[List.length_cons,List.length_nil]at this;rw[dT (show([60,60]:Bs).length<=t.length by simp only[List.length_cons,List.length_nil]; omega),Bool.true_and]
def docQ (toks:List Tok):Bool:=match toks.getLast? with
 | some t=>t.kind==1&&(t.text.drop (t.text.length-2)==[60,60])
 | none=>false
def wrdD (s:Bs) (i:Nat) (toks:List Tok) (waits:List (Nat×Bs)):Except Flt (Nat×List Tok×List (Nat×Bs)):=
 match qar (qcl s) s 0 0 i [] []with
 | .error e=>.error e
 | .ok (l,j)=>
  if docQ toks then
   if l.any fun p=>p.kind != 0&&p.kind != 1 then .error (19,i)
   else .ok (j,toks++[⟨0,[],l,false,i⟩,⟨3,[],[],l.any fun p=>p.kind==1,i⟩],waits++[(toks.length+1,(l.map Part.text).flatten)])
  else .ok (j,toks++[⟨0,[],l,false,i⟩],waits)
theorem pairs_word (b n0 n1:Nat) (l l':List LE) (h:b≠n0):qag [[],[],[],[],[⟨b,2,3,false⟩],[⟨n1,0,0+5,false⟩],[⟨n0,0,big,true⟩],l,[],[],l'] [(4,[5,6])]=true:=by
 have h1:=qc1 b 2 3 n1 0 (0+5) false (.inl rfl);have h3:=qc1 b 2 3 n0 0 big true (.inr h);show(bif (bif qbi [⟨b,2,3,false⟩] [⟨n1,0,0+5,false⟩]then true else bif qbi [⟨b,2,3,false⟩] [⟨n0,0,big,true⟩]then true else false)then false else true)=true;rw[h1,h3];rfl
theorem pairs_wait (b n0:Nat) (l l':List LE) (h:b≠n0):qag [[],[],[],[],[⟨b,3,4,false⟩],[],[],[],[⟨b,2,3,false⟩],[],[],[],[⟨n0,0,big,true⟩],l,[],[],l'] [(4,[8,9,12])]=true:=by
 have h1:=qc1 b 3 4 b 2 3 false (.inl rfl);have h3:=qc1 b 3 4 n0 0 big true (.inr h);show(bif (bif qbi [⟨b,3,4,false⟩] [⟨b,2,3,false⟩]then true else bif qbi [⟨b,3,4,false⟩] []then true else bif qbi [⟨b,3,4,false⟩] [⟨n0,0,big,true⟩]then true else false)then false else true)=true;rw[h1,h3];rfl
theorem build_wdn (n:Nat):qab E0 39 [(0,(.int .i64 0)),(2,.nilslice),(4,.int .i64 (n:Int))]=some (.agg 5 (qew ⟨0,[],[],false,n⟩ .nilslice)):=by kernel_rfl
theorem build_wdo (r o k z n:Nat):qab E0 39 [(0,(.int .i64 0)),(2,.oslice r o k z),(4,.int .i64 (n:Int))]=some (.agg 5 (qew ⟨0,[],[],false,n⟩ (.oslice r o k z))):=by kernel_rfl
theorem build_wds (r o k z n:Nat):qab E0 39 [(0,(.int .i64 0)),(2,.slice r o k z),(4,.int .i64 (n:Int))]=some (.agg 5 (qew ⟨0,[],[],false,n⟩ (.slice r o k z))):=by kernel_rfl
theorem build_hr (n:Nat):qab E0 39 [(0,(.int .i64 3)),(4,.int .i64 (n:Int))]=some (.agg 5 (qew ⟨3,[],[],false,n⟩ .nilslice)):=by kernel_rfl
theorem build_wt (n:Nat) (t:Bs):qab E0 89 [(0,.int .i64 (n:Int)),(1,sv t)]=some (.agg 2 (qmw (n,t))):=by kernel_rfl
theorem rowT_parts (k:Nat) (t:Bs) (l m:List Part) (q:Bool) (n:Nat) (v:V):qew ⟨k,t,l,q,n⟩ v=qew ⟨k,t,m,q,n⟩ v:=rfl
theorem setT_quoted (k:Nat) (t:Bs) (q q':Bool) (n:Nat) (v:V):(qew ⟨k,t,[],q,n⟩ v).set (.bool q') 3=qew ⟨k,t,[],q',n⟩ v:=by kernel_rfl
theorem getT_parts (x:Tok) (v:V):(qew x v).get 2=some v:=by kernel_rfl
theorem getT_kind (x:Tok) (v:V):(qew x v).get 0=some (.int .i64 (x.kind:Int)):=by kernel_rfl
theorem getT_text (x:Tok) (v:V):(qew x v).get 1=some (sv x.text):=by kernel_rfl
theorem qm4 (k:Nat) (t o:Bs) (q:Bool) (v:V):(qdo k t o q v).get 0=some (.int .i64 (k:Int)):=by kernel_rfl
section
variable {K:FuncId->Option KF} {S U T:St} {N b i:Nat} {s:Bs} {toks:List Tok} {waits:List (Nat×Bs)} {vT vW:V}
theorem build_wd {v:V} {rows:List (Tr V)} (h:RV S v 49 6 rows) (l:List Part) (n:Nat):qab E0 39 [(0,(.int .i64 0)),(2,v),(4,.int .i64 (n:Int))]=some (.agg 5 (qew ⟨0,[],l,false,n⟩ v)):=by
 rw[rowT_parts 0 [] l [] false n v];rcases h with⟨_,rfl⟩|⟨r,_,_,_,rfl|rfl⟩
 . exact build_wdn n
 . exact build_wdo ..
 . exact build_wds ..
theorem suf_run (hK:RefL K) (m:Nat) (t u:Bs) (S:St) (ht:t.length<9223372036854770000):(ev E0 K (m+2)).f 13 [sv t,sv u] S=some (.ret (.bool (sufD t u)),S):=by
 have h35:(ev E0 K (m+1)).f 35 [sv t,sv u] S=some (.ret (.bool (sufD t u)),S):=rv35 hK (by
  show F35 (ev E0 K m) qa3 (sv t) (sv u) S=_;rw[F35_eq,lnStr_sv,oB];dsimp only;rw[lnStr_sv,oB];dsimp only;rw[geqN,oB];unfold sufD;by_cases h:u.length<=t.length
  . rw[dT h]
    simp only[qae,oB,cT,lnStr_sv];rw[binV_ii,intsV_sub,show((t.length:Int)-(u.length:Int))=((t.length-u.length:Nat):Int) by omega,qdi (by omega) (by omega),oB,qb9 und9 t (qcw .i64 (by omega)) (lR _),oB,List.take_of_length_le (by rw[List.length_drop]; omega)];dsimp only;rw[eqStr,oB,pickV_bool,cT,oB,Bool.true_and]
  . rw[dF h]
    rfl)
 exact rv13 hK (by
  show F13 (ev E0 K (m+1)) qa3 (sv t) (sv u) S=_
  rw[F13_eq,h35,callP_ret])
theorem LS.pushW (h:LS S N b s i toks waits vT vW) (w:Nat×Bs) (hl:waits.length<50000) :
 ∃(y v':V) (T1 T2 T3:St),(∀l,bsP 89 2 1 zW [(0,.agg 2 (qmw w))] (S.lg l)=some (y,T1.lg (⟨S.next,0,big,true⟩::l)))/\(∀l,∃l',apP 89 2 24 vW y (T1.lg l)=some (v',T2.lg l'))/\(∃l',stP 1 (.ptr b 3) v' (T2.lg [])=some (.tuple [],T3.lg l'))/\
  LS T3 N b s i toks (waits++[w]) vT v'/\Grew (fun x=>x=b\/qah vW=some x) S T3:=by
 obtain⟨y,T1,a1,a2,a3,a4,a5⟩:=qj5 h.on 89 2 zW (qmw w) (by omega) (by omega);have h1:=h.fresh a4;obtain⟨rT,r1,r2⟩:=h1.tk;obtain⟨v',T2,b1,b2,b3,b4,_⟩:=h1.wt.cat h1.on (by omega) (a2.pv h1.on) (B:=24) (by rw[lM,List.length_singleton]; omega) (by omega);have nx1:=a4.next
 have nx2:=b3.next
 have hhi:=h.hi;have hbN:=h.bN;have on2:=b3.on.trans h1.on;have l2:Lx T2 b s i vT vW:=h1.lx.grew (by omega) (fun hw=>by have:=h1.wb _ hw; omega) b3;obtain⟨T3,c1,c2,c3,c4⟩:=l2.putW on2 v' (qka b2);have nx3:=c3.next
 have hvl:∀r,qah vT=some r->r<T1.next:=fun r hr=>r1.blk_lt hr
 refine⟨y,v',T1,T2,T3,bs_lg h.on a1,lg_of (lg_apP 89 2 24 vW y) b1,stP_lg on2 c1,⟨c3.on.trans on2,hbN,by omega,c2,⟨rT,(r1.grew (fun r hr hw=>(h1.tb r hr).2 hw) b3).grew (fun r hr hx=>by have:=(h1.tb r hr).1; omega) c3,?_⟩,?_,?_,?_⟩,?_⟩
 . refine((r2.grew b3 fun x hx hw=>hx.2.2.2 hw).grew c3 fun x hx he=>by omega).mono fun x hx=>⟨hx.1,by omega,hx.2.2.1,fun hv=>?_⟩
   rcases b4 _ hv with h'|h'
   . exact hx.2.2.2 h'
   . omega
 . rw[List.map_append]
   exact b2.grew (fun r hr hx=>by
    rcases b4 r hr with h'|h'
    . have:=h1.wb r h'; omega
    . omega) c3
 . intro r hr
   refine⟨(h1.tb r hr).1,fun hv=>?_⟩;rcases b4 r hv with h'|h'
   . exact(h1.tb r hr).2 h'
   . have:=hvl r hr; omega
 . intro r hr
   rcases b4 r hr with h'|h'
   . exact h1.wb r h'
   . omega
 . exact((a4.mono fun _ _ h=>h.elim).trans (b3.mono fun x _ hx=>.inr hx)).trans (c3.mono fun x _ hx=>.inl hx)
theorem tok_region (h:LS S N b s i toks waits vT vW) {B:Nat} {t:Tok} {X:Tr V} (hB:AgAt S B 39 5 X) (ht:TkAt S (fun x=>N<=x/\x<S.next/\qah vT≠some x/\qah vW≠some x) t X) (hl:toks.length<50000) :
 ∃T v',(∀k:St->Rs,((qa1 (.ptr b 0)).bind fun t48=>(faP 2 false 1 t48).bind fun t49=>(ld1 t49 (onS S)).bind fun p49=>
  (ldA 5 (.ptr B 0) (onS p49.2)).bind fun p50=>(bsP 39 5 1 zT [(0,p50.1)] (onS p50.2)).bind fun p51=>(apP 39 5 64 p49.1 p51.1 (onS p51.2)).bind fun p52=>
  (qa1 (.ptr b 0)).bind fun t53=>(faP 2 false 1 t53).bind fun t54=>(stP 1 t54 p52.1 (onS p52.2)).bind fun p55=>
  qh7 [(4,[5,6])] S [[],[],[],[],p49.2.log,p50.2.log,p51.2.log,p52.2.log,[],[],p55.2.log] p55.2 k)=k T)/\LS T N b s i (toks++[t]) waits v' vW/\Grew (fun x=>x=b\/qah vT=some x) S T:=by
 obtain⟨y,v',T1,T2,T3,c1,c2,c3,c4,c5,c8⟩:=h.push ht hl;obtain⟨l2,c2'⟩:=c2 [];obtain⟨l3,c3'⟩:=c3;have hne:b≠S.next:=by have:=h.hi; have:=h.bN; omega
 obtain⟨T4,e1,e2,e3,e4⟩:=qdn h.on T3 l3 [[],[],[],[],(S.lg [⟨b,2,3,false⟩]).log,(S.lg [⟨B,0,0+5,false⟩]).log,(T1.lg [⟨S.next,0,big,true⟩]).log,(T2.lg l2).log,[],[],(T3.lg l3).log];refine⟨T4,v',fun k=>?_,c4.same e2 e3 e4,⟨by rw[e3]; exact c8.next,e4.trans h.on.symm,fun x hx hw=>by rw[e2]; exact c8.keep x hx hw⟩⟩;rw[h.lx.t2o h.on];dsimp only;rw[show onS (S.lg [(⟨b,2,3,false⟩:LE)])=S.lg []from rfl,hB.ldOn (by unfold big; decide),oB];dsimp only;rw[show onS (S.lg [(⟨B,0,0+5,false⟩:LE)])=S.lg []from rfl,c1,oB];dsimp only;rw[show onS (T1.lg [(⟨S.next,0,big,true⟩:LE)])=T1.lg []from rfl,c2',oB];dsimp only;rw[st2k,show onS (T2.lg l2)=T2.lg []from rfl,c3',oB];dsimp only;rw[qfm (show qag [[],[],[],[],(S.lg [⟨b,2,3,false⟩]).log,(S.lg [⟨B,0,0+5,false⟩]).log,(T1.lg [⟨S.next,0,big,true⟩]).log,(T2.lg l2).log,[],[],(T3.lg l3).log] [(4,[5,6])]=true from pairs_word b S.next B l2 l3 hne),e1]
theorem neI (k c:Nat):qa5 E0 .neq 3 false true (.int .i64 (k:Int)) (.int .i64 (c:Int))=some (.bool (!decide (k=c))):=by
 rw[binV_ii,intsV_neq]
 congr 2
 rw[Bool.eq_iff_iff];simp;omega
theorem eqI (k c:Nat):qa5 E0 .eql 3 false true (.int .i64 (k:Int)) (.int .i64 (c:Int))=some (.bool (decide (k=c))):=by
 rw[binV_ii,intsV_eql]
 congr 2
 simp;omega
theorem word_loop (hK:RefL K) (d:Nat) {w:V} {rows:List (Tr V)} {ps:List Part} {Q:Nat->Prop} {B frm:Nat} (hlen:ps.length<=5000) (nk:Ac->St->Rs) (ek:Nat->Ac->St->Rs) :
 ∀(l:List Part) (p q:Nat) (acc:Bs) (qt:Bool) (S':St) (rl:List (Tr V)),S'.on=false->RV S' w 49 6 rows->PrAt S' Q l rl->rows.drop p=rl->AgAt S' B 39 5 (qew ⟨3,[],[],qt,frm⟩ .nilslice)->B<S'.next->qah w≠some B->¬Q B->(∀x,Q x->x<S'.next)->l.length<q->acc.length+(l.map fun p=>p.text.length).sum<4611686018427387000->p+l.length<=5000->
 ((l.any fun p=>p.kind != 0&&p.kind != 1)=true->Bad (fun x=>x=B) S' (qe2 (ev E0 K (d+1)) qa3 nk ek q (.ptr b 0) (.int .i64 (frm:Int)) (.ptr B 0) (sv acc) w (.int .i64 (rows.length:Int)) (.int .i64 (p:Int)) S') 19 frm)/\
 ((l.any fun p=>p.kind != 0&&p.kind != 1)=false->∃U,qe2 (ev E0 K (d+1)) qa3 nk ek q (.ptr b 0) (.int .i64 (frm:Int)) (.ptr B 0) (sv acc) w (.int .i64 (rows.length:Int)) (.int .i64 (p:Int)) S'=ek 0 (fr 120 [(0,.ptr b 0),(7,.ptr B 0),(8,sv (acc++(l.map Part.text).flatten))]) U/\AgAt U B 39 5 (qew ⟨3,[],[],qt||l.any fun p=>p.kind==1,frm⟩ .nilslice)/\Grew (fun x=>x=B) S' U)
 | l,p,0,acc,qt,S',rl,ho,hw,hps,hp,hB,hBn,hBw,hBQ,hQ,hq,ht,hpl=>absurd hq (Nat.not_lt_zero _)
 | [],p,q+1,acc,qt,S',rl,ho,hw,hps,hp,hB,hBn,hBw,hBQ,hQ,hq,ht,hpl=>by
  simp only[PrAt]at hps;subst hps;refine⟨fun h=>by(cases h),fun _=>⟨S',?_,by simpa using hB,Grew.refl _ _⟩⟩;rw[L22_101_eq,qk5,oB,dF (by have:=qh6 hp; omega),ifK_bool,cF];simp
 | x::l,p,q+1,acc,qt,S',rl,ho,hw,hps,hp,hB,hBn,hBw,hBQ,hQ,hq,ht,hpl=>by
  simp only[PrAt]at hps;obtain⟨c,rest,rfl,hc,hrest⟩:=hps;obtain⟨hlt,hc1,hr,_⟩:=qjg hp;obtain⟨kd,tx,op,qd,wd⟩:=x;simp only[PtAt]at hc;obtain⟨v,rows2,rfl,_⟩:=hc;rw[List.length_cons]at hq hpl;have ht:acc.length+(tx.length+(l.map fun p=>p.text.length).sum)<4611686018427387000:=ht;have hbig5:5<big:=by unfold big; decide
  generalize hR:qe2 (ev E0 K (d+1)) qa3 nk ek (q+1) (.ptr b 0) (.int .i64 (frm:Int)) (.ptr B 0) (sv acc) w (.int .i64 (rows.length:Int)) (.int .i64 (p:Int)) S'=R;obtain⟨r,h1,h2,h3,h4⟩:=hw.at hlt;rw[L22_101_eq,qk5,oB,dT hlt,ifK_bool,cT,h2,oB,rv_ldA ho h3 (by rw[List.getElem?_eq_getElem hlt,hc1]),oB,oB,qbs,zP_eq]at hR;have hE:=hR.symm;dsimp only at hE;obtain⟨n1,n2,n3⟩:=qbp ho 49 6 zP;have on1:=n2.on.trans ho;obtain⟨S2,m1,m2,m3,m4⟩:=n1.stA on1 qjb (qdo kd tx op qd v);have on2:=m3.on.trans on1;have g2:Grew (fun _=>False) S' S2:=⟨by have:=n2.next; omega,m3.on.trans n2.on,fun x hx _=>(m3.keep x (by have:=n2.next; omega) (by omega)).trans (n2.keep x hx (fun h=>h))⟩
  have hB2:=hB.grew hBn (fun h=>h) g2;have nx2:=g2.next
  rw[m1,oB]at hE;dsimp only at hE;rw[fap0,oB,m2.ld1 on2 qjb (by decide) (qm4 ..),oB]at hE;dsimp only at hE;rw[show(V.int .i64 0)=.int .i64 ((0:Nat):Int)from rfl,neI,oB,show(V.int .i64 1)=.int .i64 ((1:Nat):Int)from rfl]at hE
  have hE2:R=ifK (.bool (!decide (kd=0)&&!decide (kd=1))) (callP ((ev E0 K (d+1)).f 25 [.int .i64 19,.int .i64 (frm:Int)] S2) fun t116 S116=>
   (faP 1 false 1 (.ptr S'.next 0)).bind fun t118=>
   (ld1 t118 S116).bind fun p119=>
   (qa5 E0 .add 9 false false (sv acc) p119.1).bind fun t120=>
   (faP 3 false 1 (.ptr B 0)).bind fun t122=>
   (ld1 t122 p119.2).bind fun p123=>
   (qa2 false p123.1).bind fun g125=>(bif g125 then faP 0 false 1 (.ptr S'.next 0)else some (.tuple [])).bind fun t125=>
   (qa2 false p123.1).bind fun g126=>(bif g126 then ld1 t125 p123.2 else some (.tuple [],p123.2)).bind fun p126=>
   (qa2 false p123.1).bind fun g127=>(bif g127 then qa5 E0 .eql 3 false true p126.1 (.int .i64 ((1:Nat):Int))else some (.tuple [])).bind fun t127=>
   (qao p123.1 (some (.bool true)) (some t127)).bind fun t128=>
   (faP 3 false 1 (.ptr B 0)).bind fun t129=>
   (stP 1 t129 t128 p126.2).bind fun p130=>
   (qa5 E0 .add 3 false true (.int .i64 (p:Int)) (.int .i64 ((1:Nat):Int))).bind fun t131=>
   qe2 (ev E0 K (d+1)) qa3 nk ek q (.ptr b 0) (.int .i64 (frm:Int)) (.ptr B 0) t120 w (.int .i64 (rows.length:Int)) t131 p130.2) (
   (faP 1 false 1 (.ptr S'.next 0)).bind fun t134=>
   (ld1 t134 S2).bind fun p135=>
   (qa5 E0 .add 9 false false (sv acc) p135.1).bind fun t136=>
   (faP 3 false 1 (.ptr B 0)).bind fun t138=>
   (ld1 t138 p135.2).bind fun p139=>
   (qa2 false p139.1).bind fun g141=>(bif g141 then faP 0 false 1 (.ptr S'.next 0)else some (.tuple [])).bind fun t141=>
   (qa2 false p139.1).bind fun g142=>(bif g142 then ld1 t141 p139.2 else some (.tuple [],p139.2)).bind fun p142=>
   (qa2 false p139.1).bind fun g143=>(bif g143 then qa5 E0 .eql 3 false true p142.1 (.int .i64 ((1:Nat):Int))else some (.tuple [])).bind fun t143=>
   (qao p139.1 (some (.bool true)) (some t143)).bind fun t144=>
   (faP 3 false 1 (.ptr B 0)).bind fun t145=>
   (stP 1 t145 t144 p142.2).bind fun p146=>
   (qa5 E0 .add 3 false true (.int .i64 (p:Int)) (.int .i64 ((1:Nat):Int))).bind fun t147=>
   qe2 (ev E0 K (d+1)) qa3 nk ek q (.ptr b 0) (.int .i64 (frm:Int)) (.ptr B 0) t136 w (.int .i64 (rows.length:Int)) t147 p146.2):=by
   rw[hE];have hk:=m2.ld1 on2 qjb (by decide) (qm4 kd tx op qd v);by_cases hk0:kd=0
   . rw[dT hk0]
     simp only[Bool.not_true,g_t,b_s,c_f,p_b,Bool.false_and,f_0]
   . rw[dF hk0]
     simp only[nF,g_t,b_s,c_t,f_0,hk,neI,p_b,Bool.true_and]
  rw[ifK_bool]at hE2
  have ekd:((Part.mk kd tx op qd wd).kind != 0&&(Part.mk kd tx op qd wd).kind != 1)=(!decide (kd=0)&&!decide (kd=1)):=by
   show(!(kd==0)&&!(kd==1))=_;by_cases h0:kd=0<;>by_cases h1:kd=1<;>simp[h0,h1]
  rw[List.any_cons,ekd];cases hbad:(!decide (kd=0)&&!decide (kd=1))with
  | true=>
   rw[hbad,cT]at hE2;refine⟨fun _=>?_,fun h=>by(rw[Bool.true_or]at h; cases h)⟩;rw[hE2];exact Bad.after (g2.mono fun x _ hx=>hx.elim) (bad0 ((qc4 hK d on2 19 frm).callP _))
  | false=>
   rw[hbad,cF,fap1,oB,m2.ld1 on2 qjb (by decide) (get_text ..),oB]at hE2;dsimp only at hE2;rw[qbf _ _ (by omega),oB,show faP 3 false 1 (.ptr B 0)=some (.ptr B 3)from rfl,oB,hB2.ld1 on2 hbig5 (by decide) (qm5 ..),oB]at hE2;dsimp only at hE2;obtain⟨S3,s1,s2,s3,s4⟩:=hB2.st1 on2 hbig5 (by decide) (by decide:3<5) (.bool (qt||decide (kd=1))) rfl rfl rfl;rw[setT_quoted]at s2
   have hE3:R=(qe2 (ev E0 K (d+1)) qa3 nk ek q (.ptr b 0) (.int .i64 (frm:Int)) (.ptr B 0) (sv (acc++tx)) w (.int .i64 (rows.length:Int)) (.int .i64 ((p+1:Nat):Int)) S3):=by
    rw[hE2];have hk:=m2.ld1 on2 qjb (by decide) (qm4 kd tx op qd v);cases qt with
    | true=>
     rw[Bool.true_or]at s1;simp only[g_f,b_s,Bool.not_true,c_f,p_b,c_t,s1];rw[addC 1 (by omega),b_s]
    | false=>
     rw[Bool.false_or]at s1;simp only[g_f,b_s,nF,c_t,f_0,hk,eqI,p_b,c_f];rw[s1,b_s];dsimp only;rw[addC 1 (by omega),b_s]
   have g3:Grew (fun x=>x=B) S' S3:=(g2.mono fun x _ hx=>hx.elim).trans s3;have on3:=s3.on.trans on2;have nx3:=g3.next
   obtain⟨i1,i2⟩:=word_loop hK d (w:=w) (rows:=rows) (ps:=ps) (Q:=Q) (B:=B) (frm:=frm) hlen nk ek l (p+1) q (acc++tx) (qt||decide (kd=1)) S3 rest on3 (hw.grew (fun r hr he=>hBw (by rw[hr,he])) g3) (hrest.grew g3 fun x hx he=>hBQ (he▸hx)) hr s2 (by omega) hBw hBQ (fun x hx=>by have:=hQ x hx; omega) (by omega) (by rw[lAq]; omega) (by omega);rw[<- hE3]at i1 i2;rw[Bool.false_or];refine⟨fun h=>Bad.after g3 (i1 h),fun h=>?_⟩;obtain⟨U,u1,u2,u3⟩:=i2 h;refine⟨U,?_,?_,g3.trans u3⟩
   . rw[u1,List.map_cons,List.flatten_cons,List.append_assoc]; rfl
   . rw[List.any_cons]
     have:((Part.mk kd tx op qd wd).kind==1)=decide (kd=1):=by
      show(kd==1)=_;by_cases h1:kd=1<;>simp[h1]
     rw[this,<- Bool.or_assoc];exact u2
end
def WdRest (self:EV) (N:Nat) (x0 frm q:V) (S:St):Rs:=
callP (self.f 49 [x0,(.int .i64 0),(.int .i64 0)] S) fun t40 S40=>
(qab E0 39 [(0,(.int .i64 0)),(2,t40),(4,frm)]).bind fun t42=>
(some (nwP 39 5 (Tr.ofListFrom .nil [(.int .i64 0),(sv []),.nilslice,(.bool false),(.int .i64 0)] 0) S40)).bind fun p43=>
(stP 5 p43.1 t42 p43.2).bind fun p44=>
(qa1 x0).bind fun t47=>
(faP 2 false 1 t47).bind fun t48=>
(ld1 t48 (onS p44.2)).bind fun p49=>
(ldA 5 p43.1 (onS p49.2)).bind fun p50=>
(bsP 39 5 1 (Tr.ofListFrom .nil [(.int .i64 0),(sv []),.nilslice,(.bool false),(.int .i64 0)] 0) [(0,p50.1)] (onS p50.2)).bind fun p51=>
(apP 39 5 64 p49.1 p51.1 (onS p51.2)).bind fun p52=>
(qa1 x0).bind fun t53=>
(faP 2 false 1 t53).bind fun t54=>
(stP 1 t54 p52.1 (onS p52.2)).bind fun p55=>
qh7 [(4,[5,6])] p44.2 [[],[],[],[],p49.2.log,p50.2.log,p51.2.log,p52.2.log,[],[],p55.2.log] p55.2 fun S56=>
(unV .not q).bind fun t58=>
ifK t58 (
some (.ret (.bool true),S56)) (
(qab E0 39 [(0,(.int .i64 3)),(4,frm)]).bind fun t61=>
(some (nwP 39 5 (Tr.ofListFrom .nil [(.int .i64 0),(sv []),.nilslice,(.bool false),(.int .i64 0)] 0) S56)).bind fun p62=>
(stP 5 p62.1 t61 p62.2).bind fun p63=>
(faP 2 false 1 p43.1).bind fun t97=>
(ld1 t97 p63.2).bind fun p98=>
(lnS p98.1 p98.2).bind fun p99=>
qe2 self N (qlc self N (qbu E0 self Tryd.f22) qav) (exB 0 (qlc self N (qbu E0 self Tryd.f22) qav) qav) N x0 frm p62.1 (sv []) p98.1 p99.1 (.int .i64 0) p99.2)
section
variable {K:FuncId->Option KF} {S U T:St} {N b i:Nat} {s:Bs} {toks:List Tok} {waits:List (Nat×Bs)} {vT vW:V}
theorem word_head (hK:RefL K) (m:Nat) (h:LS S N b s i toks waits vT vW) (hl:toks.length<50000) (htx:∀x∈toks,x.text.length<9223372036854770000):F22 (ev E0 K (m+2)) qa3 (.ptr b 0) S=WdRest (ev E0 K (m+2)) qa3 (.ptr b 0) (.int .i64 (i:Int)) (.bool (docQ toks)) S:=by
 generalize hR:F22 (ev E0 K (m+2)) qa3 (.ptr b 0) S=R;obtain⟨rT,r1,r2⟩:=h.tk;have e1:=r2.1;rw[F22_eq,h.lx.r1 h.on]at hR;dsimp only at hR;rw[h.lx.t2r h.on]at hR;dsimp only at hR;rw[r1.len,oB,e1]at hR;dsimp only at hR;rw[gtr0,oB]at hR;have hE:=hR.symm;rw[hE];unfold docQ
 have ht2:ld1 (.ptr b 2) S=some (vT,S):=by
  have:=h.lx.t2r h.on (fun p=>some (.ret p.1,p.2));rw[nilK,oB,show faP 2 false 1 (.ptr b 0)=some (.ptr b 2)from rfl,oB]at this;cases hq:ld1 (.ptr b 2) S with
  | none=>rw[hq]at this; cases this
  | some p=>
   rw[hq]at this;simp only[oB,oS,pM,En.ret.injEq]at this;obtain⟨h1,h2⟩:=this;rw[<- h1,<- h2]
 have hf2:faP 2 false 1 (.ptr b 0)=some (.ptr b 2):=rfl;rcases Nat.eq_zero_or_pos toks.length with h0|hpos
 . have:toks=[]:=List.eq_nil_of_length_eq_zero h0
   subst this;rw[show decide (0<([]:List Tok).length)=false from rfl];simp only[g_t,b_s,c_f,g_no,p_b,callP_ret];rfl
 . have hlt:toks.length-1<toks.length:=by omega
   obtain⟨r,v,rows,a1,a2,a3,a4,a5,a6,a7⟩:=h.tok (List.getElem?_eq_getElem hlt);have hlast:toks.getLast?=some toks[toks.length-1]:=by rw[List.getLast?_eq_getElem?,List.getElem?_eq_getElem hlt]
   have hmem:toks[toks.length-1]∈toks:=List.getElem_mem hlt;rw[hlast];generalize toks[toks.length-1]=x at *;have b0:=a6 0 _ (by omega) (getT_kind x v);have b1:=a6 1 _ (by omega) (getT_text x v);have hsub:qa5 E0 .sub 3 false true (.int .i64 (toks.length:Int)) (.int .i64 1)=some (.int .i64 ((toks.length-1:Nat):Int)):=subC 1 (by omega) (by omega);have hf0:faP 0 false 1 (.ptr r ((toks.length-1)*5))=some (.ptr r ((toks.length-1)*5+0)):=rfl;have hf1:faP 1 false 1 (.ptr r ((toks.length-1)*5))=some (.ptr r ((toks.length-1)*5+1)):=rfl;have hk1:qa5 E0 .eql 3 false true (.int .i64 (x.kind:Int)) (.int .i64 1)=some (.bool (decide (x.kind=1))):=eqI x.kind 1;have hsf:=suf_run hK m x.text [60,60] S (htx x hmem);rw[suf2]at hsf;have hkb:(x.kind==1)=decide (x.kind=1):=by by_cases h1:x.kind=1<;>simp[h1]
   dsimp only;rw[dT hpos,hkb];simp only[g_t,b_s,c_t,n_k,hf2,ht2,hsub,a2,hf0,b0,hk1,p_b];cases decide (x.kind=1)with
   | false=>
    simp only[g_t,b_s,c_f,g_no,p_b,callP_ret,Bool.false_and];rfl
   | true=>
    simp only[g_t,b_s,c_t,n_k,hf2,ht2,hsub,a2,hf1,b1,p_b,hsf,callP_ret,Bool.true_and];rfl
end
end Go.Proofs.YtafbipadnnmccaaDoor.W
namespace Go.Proofs.YtafbipadnnmccaaDoor.W
open Go.Proofs.YtafbipadnnmccaaDoor.Ev
def Shrt (s:Bs) (l:List Part):Prop:=∀p∈l,p.text.length<=s.length
theorem shrt_nil (s:Bs):Shrt s []:=fun p h=>by cases h
theorem Shrt.app {s:Bs} {l m:List Part} (h:Shrt s l) (k:Shrt s m):Shrt s (l++m):=fun p hp=>by
 rcases List.mem_append.1 hp with hp|hp
 . exact h p hp
 . exact k p hp
theorem Shrt.one {s:Bs} {p:Part} (h:p.text.length<=s.length):Shrt s [p]:=fun q hq=>by
 rw[List.mem_singleton]at hq;subst hq;exact h
theorem Shrt.flu {s:Bs} {w:Nat} {out:List Part} {text:Bs} (h:Shrt s out) (ht:text.length<=s.length):Shrt s (qkw w out text):=by
 unfold qkw;split
 . exact h
 . exact h.app (Shrt.one ht)
theorem qdx (s:Bs) (i n:Nat):((s.drop i).take n).length<=s.length:=by
 rw[List.length_take,List.length_drop]; omega
theorem pars_txt:∀n,(∀s w deep i out text l j,qar n s w deep i out text=.ok (l,j)->i<=s.length->text.length<=i->Shrt s out->Shrt s l)/\(∀s w deep i p j,dolD n s w deep i=.ok (some (p,j))->p.text.length<=s.length)
 | 0=>⟨fun s w deep i out text l j h=>by(unfold qar at h; cases h),fun s w deep i p j h=>by(unfold dolD at h; cases h)⟩
 | n+1=>by
  obtain⟨hP,hD⟩:=pars_txt n;obtain⟨lP,lD⟩:=qet n;refine⟨fun s w deep i out text l j h hi ht ho=>?_,fun s w deep i p j h=>?_⟩
  . have hf:Shrt s (qkw w out text):=ho.flu (by omega)
    unfold qar at h;split at h
    . rename_i hlt
      split at h
      . rename_i ha
        have:=qbg ha (by simp);exact hP _ _ _ _ _ _ _ _ h (by simpa using this) (by omega) ho
      . split at h
        . split at h
          . cases h
          . split at h
            . have e:(text++(if(List.contains [36,96,92] (byt s (i+1))||byt s (i+1)==34&&w != 2)=true then []else [92])++[byt s (i+1)]).length<=text.length+2:=by
               simp only[lAq,List.length_singleton];split<;>simp
              exact hP _ _ _ _ _ _ _ _ h (by omega) (by omega) ho
            . exact hP _ _ _ _ _ _ _ _ h (by omega) (by simp) (hf.app (Shrt.one (by show 1<=_; omega)))
        . split at h
          . split at h
            . cases h
            . exact hP _ _ _ _ _ _ _ _ h (by omega) (by simp only[lAq,List.length_singleton]; omega) ho
            . rename_i p k hk
              have h1:=lD _ _ _ _ _ _ hk;exact hP _ _ _ _ _ _ _ _ h (by omega) (by simp) (hf.app (Shrt.one (hD _ _ _ _ _ _ hk)))
          . split at h
            . cases h
            . split at h
              . split at h
                . cases h
                . rename_i k hk
                  have h1:=qfo hk;exact hP _ _ _ _ _ _ _ _ h (by omega) (by simp) (hf.app (Shrt.one (qdx ..)))
              . split at h
                . split at h
                  . cases h
                  . rename_i l' k hk
                    split at h
                    . rename_i ha
                      have h2:=qbg ha (by simp);refine hP _ _ _ _ _ _ _ _ h (by simpa using h2) (by simp) (hf.app ?_);split
                      . exact Shrt.one (Nat.zero_le _)
                      . exact hP _ _ _ _ _ _ _ _ hk (by omega) (by simp) (shrt_nil s)
                    . cases h
                . exact hP _ _ _ _ _ _ _ _ h (by omega) (by simp only[lAq,List.length_singleton]; omega) ho
    . cases h
      exact hf
  . unfold dolD at h
    split at h
    . cases h
    . split at h
      . split at h
        . cases h
        . cases h
          exact qdx ..
      . split at h
        . split at h
          . cases h
          . split at h
            . cases h
              exact qdx ..
            . dsimp only at h
              split at h
              . cases h
              . split at h
                . cases h
                  exact qdx ..
                . split at h
                  . cases h
                  . split at h
                    . cases h
                    . split at h
                      . cases h
                        exact qdx ..
                      . cases h
        . dsimp only at h
          split at h
          . cases h
          . cases h
            exact qdx ..
theorem sum_le {s:Bs}:∀{l:List Part},Shrt s l->(l.map fun p=>p.text.length).sum<=l.length*s.length
 | [],_=>by simp
 | p::l,h=>by
  rw[List.map_cons,List.sum_cons,List.length_cons,Nat.add_mul,Nat.one_mul];have h1:=h p (List.mem_cons_self ..);have h2:=sum_le (l:=l) fun q hq=>h q (mO _ hq);omega
open Go.RowKit
section
variable {K:FuncId->Option KF} {S U T:St} {N b i:Nat} {s:Bs} {toks:List Tok} {waits:List (Nat×Bs)} {vT vW:V}
theorem wait_region (h:LS S N b s i toks waits vT vW) (e:Bs) (hl:waits.length<50000) (ht:toks.length<50000) :
 ∃T v',(∀k:St->Rs,((qa1 (.ptr b 0)).bind fun t68=>(faP 3 false 1 t68).bind fun t69=>(ld1 t69 (onS S)).bind fun p70=>
  (qa1 (.ptr b 0)).bind fun t72=>(faP 2 false 1 t72).bind fun t73=>(ld1 t73 (onS p70.2)).bind fun p74=>
  (lnS p74.1 (onS p74.2)).bind fun p75=>(qab E0 89 [(0,p75.1),(1,sv e)]).bind fun t77=>
  (bsP 89 2 1 zW [(0,t77)] (onS p75.2)).bind fun p78=>(apP 89 2 24 p70.1 p78.1 (onS p78.2)).bind fun p79=>
  (qa1 (.ptr b 0)).bind fun t80=>(faP 3 false 1 t80).bind fun t81=>(stP 1 t81 p79.1 (onS p79.2)).bind fun p82=>
  qh7 [(4,[8,9,12])] S [[],[],[],[],p70.2.log,[],[],[],p74.2.log,p75.2.log,[],[],p78.2.log,p79.2.log,[],[],p82.2.log] p82.2 k)=k T)/\
  LS T N b s i toks (waits++[(toks.length,e)]) vT v'/\Grew (fun x=>x=b\/qah vW=some x) S T:=by
 obtain⟨y,v',T1,T2,T3,c1,c2,c3,c4,c5⟩:=h.pushW (toks.length,e) hl;obtain⟨l2,c2'⟩:=c2 [];obtain⟨l3,c3'⟩:=c3;obtain⟨rT,r1,r2⟩:=h.tk;have hne:b≠S.next:=by have:=h.hi; have:=h.bN; omega
 obtain⟨T4,e1,e2,e3,e4⟩:=qdn h.on T3 l3 [[],[],[],[],(S.lg [⟨b,3,4,false⟩]).log,[],[],[],(S.lg [⟨b,2,3,false⟩]).log,(onS (S.lg [⟨b,2,3,false⟩])).log,[],[],(T1.lg [⟨S.next,0,big,true⟩]).log,(T2.lg l2).log,[],[],(T3.lg l3).log];refine⟨T4,v',fun k=>?_,c4.same e2 e3 e4,⟨by rw[e3]; exact c5.next,e4.trans h.on.symm,fun x hx hw=>by rw[e2]; exact c5.keep x hx hw⟩⟩;rw[h.lx.w3o h.on];dsimp only;rw[h.lx.t2 h.on];dsimp only;rw[r1.len,oB,r2.1];dsimp only;rw[build_wt,oB,show onS (onS (S.lg [(⟨b,2,3,false⟩:LE)]))=S.lg []from rfl,c1,oB];dsimp only;rw[show onS (T1.lg [(⟨S.next,0,big,true⟩:LE)])=T1.lg []from rfl,c2',oB];dsimp only;rw[st3k,show onS (T2.lg l2)=T2.lg []from rfl,c3',oB];dsimp only;rw[qfm (show qag [[],[],[],[],(S.lg [⟨b,3,4,false⟩]).log,[],[],[],(S.lg [⟨b,2,3,false⟩]).log,(onS (S.lg [⟨b,2,3,false⟩])).log,[],[],(T1.lg [⟨S.next,0,big,true⟩]).log,(T2.lg l2).log,[],[],(T3.lg l3).log] [(4,[8,9,12])]=true from pairs_wait b S.next l2 l3 hne),e1]
theorem box5 (ho:S.on=false) (X:Tr V):∃T,stP 5 (.ptr S.next 0) (.agg 5 X) (nwP 39 5 zT S).2=some (.tuple [],T)/\AgAt T S.next 39 5 X/\Grew (fun _=>False) S T/\T.next=S.next+1:=by
 obtain⟨n1,n2,n3⟩:=qbp ho 39 5 zT;obtain⟨T,m1,m2,m3,m4⟩:=n1.stA (n2.on.trans ho) (by unfold big; decide) X;exact⟨T,m1,m2,⟨by omega,m3.on.trans n2.on,fun x hx _=>(m3.keep x (by omega) (by omega)).trans (n2.keep x hx (fun h=>h))⟩,by omega⟩
theorem word_run (hK:RefL K) (d:Nat) (h:LS S N b s i toks waits vT vW) (hs:s.length<=5000) (hi:i<s.length) (hl:toks.length<40000) (hwl:waits.length<40000) (htx:∀x∈toks,x.text.length<9223372036854770000) (hd:18*s.length+600<=d):RdR (some (wrdD s i toks waits)) S N b s i toks waits vT vW ((ev E0 K (d+3)).f 22 [.ptr b 0] S):=by
 have hF:∀r,F22 (ev E0 K (d+2)) qa3 (.ptr b 0) S=some r->(ev E0 K (d+3)).f 22 [.ptr b 0] S=some r:=fun r e=>rv22 hK e;generalize hR:F22 (ev E0 K (d+2)) qa3 (.ptr b 0) S=R at hF;rw[word_head hK d h (by omega) htx,WdRest,zT_eq]at hR;have hE:=hR.symm;have hbN:=h.bN;have hhi:=h.hi;have hp:=parts_run hK (qcl s) (d+2) S b i s vT vW 0 0 h.on (by omega) h.lx hs (by omega) (by omega) (by unfold qcl; omega) (by unfold qcl; omega) (by unfold qcl; omega);rw[show(.int .i64 0:V)=.int .i64 ((0:Nat):Int)from rfl]at hE;unfold wrdD;cases hq:qar (qcl s) s 0 0 i [] []with
 | error e=>
  rw[hq]at hp;dsimp only
  have hb:Bad (fun x=>x=b\/N<=x) S R e.1 e.2:=by
   rw[hE];exact(Bad.callP hp _).mono fun x hx=>.inl hx
  obtain⟨U,x,y1,y2⟩:=hb;exact⟨U,x,hF _ y1,y2⟩
 | ok q=>
  obtain⟨l,j⟩:=q;rw[hq]at hp;obtain⟨U1,v,a1,a2,a3,rows,a4,a5,a6⟩:=hp;dsimp only at a2 a5;obtain⟨hj1,hj2,hj3⟩:=(qet _).1 _ _ _ _ _ _ _ _ hq (by omega);have htl:=(pars_txt _).1 _ _ _ _ _ _ _ _ hq (by omega) (by simp) (shrt_nil s);simp only[List.length_nil,Nat.zero_add]at hj3;have nx1:=a3.next
  have L1:=h.move (i':=j) a3 (fun x hx=>.inl (by omega)) a2;have on1:=L1.on;have hvl:∀r,qah v=some r->r<U1.next:=fun r hr=>a4.blk_lt hr
  have hvT:∀r,qah vT=some r->r<S.next:=by
   obtain⟨rT,r1,_⟩:=h.tk;exact fun r hr=>r1.blk_lt hr
  have hvW:∀r,qah vW=some r->r<S.next:=fun r hr=>h.wt.blk_lt hr
  obtain⟨U2,b1,b2,b3,b4⟩:=box5 on1 (qew ⟨0,[],l,false,i⟩ v);have L2:=L1.fresh b3
  have hQ2:TkAt U2 (fun x=>N<=x/\x<U2.next/\qah vT≠some x/\qah vW≠some x) ⟨0,[],l,false,i⟩ (qew ⟨0,[],l,false,i⟩ v):=by
   refine⟨v,rows,rfl,a4.grew (fun r hr hw=>hw) b3,(a5.grew b3 fun x hx hw=>hw).mono fun x hx=>⟨by omega,by omega,fun hv=>by have:=hvT _ hv; omega,fun hv=>by have:=hvW _ hv; omega⟩,fun r hr=>?_⟩;have:=a6 r hr;have:=hvl r hr;exact⟨by omega,by omega,fun hv=>by have:=hvT _ hv; omega,fun hv=>by have:=hvW _ hv; omega⟩
  obtain⟨T,vT2,c1,c2,c3⟩:=tok_region L2 b2 hQ2 (by omega);rw[a1,callP_ret,show qab E0 39 [(0,(.int .i64 ((0:Nat):Int))),(2,v),(4,.int .i64 (i:Int))]=some (.agg 5 (qew ⟨0,[],l,false,i⟩ v))from build_wd a4 l i,oB,oB,qbs,b1,oB]at hE;dsimp only at hE;rw[c1,qhi,oB,ifK_bool]at hE
  have g2:Grew (fun x=>x=b\/N<=x) S T:=((a3.mono fun x _ hx=>.inl hx).trans (b3.mono fun x _ hx=>hx.elim)).trans (c3.mono fun x _ hx=>by
   rcases hx with hx|hx
   . exact .inl hx
   . exact .inr (L2.tb x hx).1)
  dsimp only;cases hdq:docQ toks with
  | false=>
   rw[hdq,nF,cT]at hE;rw[iN (by simp)];exact⟨T,vT2,vW,hF _ hE,c2,g2⟩
  | true=>
   rw[hdq,Bool.not_true,cF]at hE;rw[iP rfl];have nxT:=c3.next
   obtain⟨U3,d1,d2,d3,d4⟩:=box5 c2.on (qew ⟨3,[],[],false,i⟩ .nilslice)
   have hvn:∀r,r=b\/qah vT=some r->r<U1.next:=fun r hr=>by
    rcases hr with rfl|hr
    . omega
    . have:=hvT r hr; omega
   have hB1:AgAt U3 U1.next 39 5 (qew ⟨0,[],l,false,i⟩ v):=(b2.grew (by omega) (fun hw=>by have:=hvn _ hw; omega) c3).grew (by omega) (fun h=>h) d3
   have gUT:∀r,qah v=some r->¬(r=b\/qah vT=some r):=fun r hr hw=>by
    have:=a6 r hr;rcases hw with rfl|hw
    . omega
    . have:=hvT r hw; omega
   have hv3:RV U3 v 49 6 rows:=((a4.grew (fun r hr hw=>hw) b3).grew gUT c3).grew (fun r hr hw=>hw) d3
   have hp3:PrAt U3 (fun x=>S.next<=x/\x<U1.next) l rows:=((a5.grew b3 fun x hx hw=>hw).grew c3 fun x hx hw=>by
    rcases hw with hw|hw
    . omega
    . have:=hvT x hw; omega).grew d3 fun x hx hw=>hw
   rw[show qab E0 39 [(0,(.int .i64 3)),(4,.int .i64 (i:Int))]=some (.agg 5 (qew ⟨3,[],[],false,i⟩ .nilslice))from build_hr i,oB,oB,qbs,d1,oB]at hE;dsimp only at hE;have on3:=d3.on.trans c2.on;rw[show faP 2 false 1 (.ptr U1.next 0)=some (.ptr U1.next 2)from rfl,oB,hB1.ld1 on3 (by unfold big; decide) (by decide) (getT_parts ..),oB]at hE;dsimp only at hE;rw[hv3.len,oB]at hE;dsimp only at hE;have hsum:=sum_le htl;have hmul:l.length*s.length<=5000*5000:=Nat.mul_le_mul (by omega) hs;obtain⟨w1,w2⟩:=word_loop (b:=b) hK (d+1) (w:=v) (rows:=rows) (ps:=l) (Q:=fun x=>S.next<=x/\x<U1.next) (B:=T.next) (frm:=i) (by omega) (qlc (ev E0 K (d+2)) qa3 (qbu E0 (ev E0 K (d+2)) Tryd.f22) qav) (exB 0 (qlc (ev E0 K (d+2)) qa3 (qbu E0 (ev E0 K (d+2)) Tryd.f22) qav) qav) l 0 qa3 [] false U3 rows on3 hv3 hp3 rfl d2 (by omega) (fun hv=>by have:=hvl _ hv; omega) (fun hq=>by omega) (fun x hx=>by omega) (by unfold qa3; omega) (by simp only[List.length_nil]; omega) (by omega);rw[<- hE]at w1 w2;have g3:Grew (fun x=>x=b\/N<=x) S U3:=g2.trans (d3.mono fun x _ hx=>hx.elim);cases hbad:(l.any fun p=>p.kind != 0&&p.kind != 1)with
   | true=>
    rw[iP rfl];obtain⟨U,x,y1,y2⟩:=Bad.after g3 ((w1 hbad).mono fun x hx=>.inr (by have:=c2.hi; omega));exact⟨U,x,hF _ y1,y2⟩
   | false=>
    rw[iN (by simp)];obtain⟨U4,u1,u2,u3⟩:=w2 hbad;rw[List.nil_append,Bool.false_or]at *;generalize hend:(l.map Part.text).flatten=en at *;have gT4:Grew (fun x=>T.next<=x) T U4:=(d3.mono fun x _ hx=>hx.elim).trans (u3.mono fun x _ hx=>by omega);have nx4:=gT4.next
    have L4:=c2.move gT4 (fun x hx=>.inr hx) (c2.lx.grew (by have:=c2.hi; omega) (by have:=c2.hi; omega) gT4);have hlen1:(toks++[(⟨0,[],l,false,i⟩:Tok)]).length=toks.length+1:=by rw[lAq]; rfl
    obtain⟨T5,vW2,x1,x2,x3⟩:=wait_region L4 en (by omega) (by rw[hlen1]; omega);rw[hlen1]at x2;have nx5:=x3.next
    have hB2:AgAt T5 T.next 39 5 (qew ⟨3,[],[],l.any fun p=>p.kind==1,i⟩ .nilslice):=u2.grew (by have:=u3.next; omega) (fun hw=>by
     have:=c2.hi;rcases hw with hw|hw
     . omega
     . have:=c2.wt.blk_lt hw; omega) x3
    obtain⟨T6,vT3,z1,z2,z3⟩:=tok_region x2 hB2 (tk_leaf 3 [] (l.any fun p=>p.kind==1) i) (by rw[hlen1]; omega);rw[exB_same,R22_65_eq,zT_eq,zW_eq,x1,z1]at u1;refine⟨T6,vT3,vW2,hF _ u1,?_,?_⟩
    . dsimp only
      rw[List.append_assoc]at z2;exact z2
    . refine(((g3.trans (u3.mono fun x _ hx=>.inr (by have:=c2.hi; omega))).trans (x3.mono fun x _ hx=>?_)).trans (z3.mono fun x _ hx=>?_))
      . rcases hx with hx|hx
        . exact .inl hx
        . exact .inr (c2.wb x hx)
      . rcases hx with hx|hx
        . exact .inl hx
        . exact .inr (x2.tb x hx).1
end
end Go.Proofs.YtafbipadnnmccaaDoor.W
namespace Go.Proofs.YtafbipadnnmccaaDoor.W
open Go.Proofs.YtafbipadnnmccaaDoor.Ev
def qju (s:Bs) (i:Nat) (toks:List Tok) (waits:List (Nat×Bs)):Except Flt (Nat×List Tok×List (Nat×Bs)):=
 match linD s i toks waits with
 | some r=>r
 | none=>match remD s i toks waits with
  | some r=>r
  | none=>match mrkD s i toks waits with
   | some r=>r
   | none=>wrdD s i toks waits
theorem qf7 (n:Nat) (s:Bs) (i0:Nat) (toks:List Tok) (waits:List (Nat×Bs)):qm9 (n+1) s i0 toks waits =
 if qgz (s.length+1) s i0<s.length then match qju s (qgz (s.length+1) s i0) toks waits with
  | .error e=>.error e
  | .ok q=>qm9 n s q.1 q.2.1 q.2.2
 else if waits=[]then .ok toks else .error (19,s.length):=by
 rw[qm9];dsimp only;generalize qgz (s.length+1) s i0=i;by_cases hlt:i<s.length
 . rw[iP hlt,iP hlt]
   unfold qju linD remD mrkD wrdD;rw[qc0 hlt,qc0 hlt,qc0 hlt];by_cases h10:byt s i=10
   . rw[iP h10,iP (dT h10)]
     dsimp only;cases qez s waits (i+1) (toks++[⟨2,[],[],false,i⟩])with
     | error e=>rfl
     | ok q=>rfl
   . rw[iN h10,iN (show ¬(decide (byt s i=10)=true) by simpa using h10)]
     dsimp only;by_cases h35:byt s i=35
     . rw[iP h35,iP (dT h35)]
     . rw[iN h35,iN (show ¬(decide (byt s i=35)=true) by simpa using h35)]
       dsimp only;by_cases hm:qfq s i≠0
       . rw[iP hm,iP hm]
       . rw[iN hm,iN hm]
         by_cases h38:byt s i=38
         . rw[iP h38,iP (dT h38)]
         . rw[iN h38,iN (show ¬(decide (byt s i=38)=true) by simpa using h38)]
           dsimp only;cases qar (qcl s) s 0 0 i [] []with
           | error e=>rfl
           | ok q=>
            obtain⟨l,j⟩:=q;dsimp only
            change (if docQ toks=true then(if(l.any fun p=>p.kind != 0&&p.kind != 1)=true then .error (19,i)else qm9 n s j (toks++[⟨0,[],l,false,i⟩,⟨3,[],[],l.any fun p=>p.kind==1,i⟩]) (waits++[(toks.length+1,(l.map Part.text).flatten)]))else qm9 n s j (toks++[⟨0,[],l,false,i⟩]) waits)=_
            cases docQ toks with
            | false=>rfl
            | true=>
             rw[iP rfl,iP rfl];split
             . rfl
             . rfl
 . rw[iN hlt,iN hlt]
structure Inv (s:Bs) (i:Nat) (toks:List Tok) (waits:List (Nat×Bs)):Prop where
 t:toks.length<=2*i
 w:waits.length<=i
 ix:∀w∈waits,w.1<toks.length
 tx:∀x∈toks,x.text.length<=s.length
theorem doc1D_tx {s:Bs} {w:Nat×Bs} {i j:Nat} {toks tk:List Tok} (h:qhz s w i toks=.ok (tk,j)) (ht:∀x∈toks,x.text.length<=s.length):∀x∈tk,x.text.length<=s.length:=by
 unfold qhz at h;split at h
 . cases h
 . dsimp only at h
   split at h
   . cases h
     intro x hx;rcases List.mem_or_eq_of_mem_set hx with hx|rfl
     . exact ht x hx
     . exact qdx ..
   . split at h
     . cases h
     . cases h
       intro x hx;rcases List.mem_or_eq_of_mem_set hx with hx|rfl
       . exact ht x hx
       . exact qdx ..
theorem docsD_tx:∀{s:Bs} {ws:List (Nat×Bs)} {i j:Nat} {toks tk:List Tok},qez s ws i toks=.ok (tk,j)->(∀x∈toks,x.text.length<=s.length)->∀x∈tk,x.text.length<=s.length
 | s,[],i,j,toks,tk,h,ht=>by
  unfold qez at h;cases h;exact ht
 | s,w::ws,i,j,toks,tk,h,ht=>by
  rw[qf0]at h;split at h
  . cases h
  . rename_i t j' hq
    exact docsD_tx h (doc1D_tx hq ht)
theorem pars_prog {n:Nat} {s:Bs} {w deep i:Nat} {out:List Part} {text:Bs} {l:List Part} {j:Nat} (h:qar n s w deep i out text=.ok (l,j)) (hi:i<s.length) (he:endsD w (byt s i)=false):i<j:=by
 cases n with
 | zero=>unfold qar at h; cases h
 | succ n=>
  unfold qar at h;obtain⟨lP,lD⟩:=qet n;rw[iP ⟨hi,he⟩]at h;split at h
  . rename_i ha
    have:=qbg ha (by simp);have:=lP _ _ _ _ _ _ _ _ h (by simpa using this);omega
  . split at h
    . split at h
      . cases h
      . split at h
        . have:=lP _ _ _ _ _ _ _ _ h (by omega); omega
        . have:=lP _ _ _ _ _ _ _ _ h (by omega); omega
    . split at h
      . split at h
        . cases h
        . have:=lP _ _ _ _ _ _ _ _ h (by omega); omega
        . rename_i p k hk
          have h1:=lD _ _ _ _ _ _ hk;have:=lP _ _ _ _ _ _ _ _ h (by omega); omega
      . split at h
        . cases h
        . split at h
          . split at h
            . cases h
            . rename_i k hk
              have h1:=qfo hk;have:=lP _ _ _ _ _ _ _ _ h (by omega); omega
          . split at h
            . split at h
              . cases h
              . rename_i l' k hk
                have h1:=lP _ _ _ _ _ _ _ _ hk (by omega);split at h
                . rename_i ha
                  have h2:=qbg ha (by simp);have:=lP _ _ _ _ _ _ _ _ h (by simpa using h2); omega
                . cases h
            . have:=lP _ _ _ _ _ _ _ _ h (by omega); omega
theorem mark_none {s:Bs} {i:Nat} (hi:i<s.length) (h:qfq s i=0):∀c∈([59,124,40,41,60,62]:Bs),byt s i≠c:=by
 rw[qhb]at h
 have hd:digM s i=false:=by
  cases hd:digM s i with
  | false=>rfl
  | true=>
   rw[hd]at h;exfalso;cases hf:marT.find? (fun o=>atD s (i+1) o)with
   | none=>exact digM_mark hd hf
   | some o=>
    simp only[↓reduceIte,hf]at h;have h2:1+o.length=0:=h;have h3:0<1+o.length:=by omega
    rw[h2]at h3;exact Nat.lt_irrefl _ h3
 rw[hd]at h;simp only[Bool.false_eq_true,↓reduceIte,Nat.add_zero,Nat.zero_add]at h;cases hf:marT.find? (fun o=>atD s i o)with
 | some o=>
  rw[hf]at h;have:=(find_mar hf).2;dsimp only at h;omega
 | none=>
  intro c hc heq;have hall:=List.find?_eq_none.1 hf;have h1:atD s i [c]=true:=by rw[qc0 hi,dT heq]
  have h2:[c]∈marT:=by
   revert hc;simp only[List.mem_cons,List.not_mem_nil,or_false];rintro (rfl|rfl|rfl|rfl|rfl|rfl)<;>decide
  exact hall [c] h2 h1
theorem mrkD_inv {s:Bs} {i:Nat} {toks:List Tok} {waits:List (Nat×Bs)} {q:Nat×List Tok×List (Nat×Bs)} (hI:Inv s i toks waits) (hi:i<s.length) (h:mrkD s i toks waits=some (.ok q)):i<q.1/\q.1<=s.length/\Inv s q.1 q.2.1 q.2.2:=by
 unfold mrkD at h;split at h
 . rename_i hm
   cases h;dsimp only
   have hle:i+qfq s i<=s.length:=by
    rw[qhb];cases ho:marT.find? (fun o=>atD s (i+if digM s i then 1 else 0) o)with
    | none=>dsimp only; omega
    | some o=>
     have h5:=(find_mar ho).1;dsimp only;rw[<- Nat.add_assoc];exact h5
   refine⟨by omega,hle,⟨by rw[lAq,List.length_singleton]; have:=hI.t; omega,by have:=hI.w; omega,fun w hw=>by rw[lAq]; have:=hI.ix w hw; omega,fun x hx=>?_⟩⟩;rcases List.mem_append.1 hx with hx|hx
   . exact hI.tx x hx
   . rw[List.mem_singleton]at hx
     subst hx;exact qdx ..
 . split at h
   . cases h
   . cases h
theorem linD_inv {s:Bs} {i:Nat} {toks:List Tok} {waits:List (Nat×Bs)} {q:Nat×List Tok×List (Nat×Bs)} (hI:Inv s i toks waits) (hi:i<s.length) (h:linD s i toks waits=some (.ok q)):i<q.1/\q.1<=s.length/\Inv s q.1 q.2.1 q.2.2:=by
 unfold linD at h;split at h
 . split at h
   . cases h
   . rename_i q' hq
     obtain⟨tk,j⟩:=q';cases h;obtain⟨e1,e2,e3⟩:=docsD_len hq (by omega)
     have e4:=docsD_tx hq (fun x hx=>by
      rcases List.mem_append.1 hx with hx|hx
      . exact hI.tx x hx
      . rw[List.mem_singleton]at hx
        subst hx
        exact Nat.zero_le _)
     rw[lAq,List.length_singleton]at e1;have:=hI.t;exact⟨by omega,e3,⟨by dsimp only; omega,Nat.zero_le _,fun w hw=>(by cases hw),e4⟩⟩
 . cases h
theorem remD_inv {s:Bs} {i:Nat} {toks:List Tok} {waits:List (Nat×Bs)} {q:Nat×List Tok×List (Nat×Bs)} (hI:Inv s i toks waits) (hi:i<s.length) (h:remD s i toks waits=some (.ok q)):i<q.1/\q.1<=s.length/\Inv s q.1 q.2.1 q.2.2:=by
 unfold remD at h;split at h
 . rename_i ha
   cases h;dsimp only;rw[nlD_idx (by omega)];have hle:=nlD_le (s.drop i);rw[List.length_drop]at hle
   have hpos:0<nlD (s.drop i):=by
    rw[qc0 hi]at ha;have hb:=of_decide_eq_true ha;rw[List.drop_eq_getElem_cons hi,qfj hi,hb];unfold nlD;rw[List.findIdx?_cons];simp only[show((35:UInt8)==10)=false from rfl,Bool.false_eq_true,↓reduceIte];cases List.findIdx? (fun x=>x==10) (s.drop (i+1))with
    | none=>simp
    | some k=>simp
   have:=hI.t;have:=hI.w;exact⟨by omega,by omega,⟨by omega,by omega,hI.ix,hI.tx⟩⟩
 . cases h
theorem stepD_inv {s:Bs} {i:Nat} {toks:List Tok} {waits:List (Nat×Bs)} {q:Nat×List Tok×List (Nat×Bs)} (hI:Inv s i toks waits) (hi:i<s.length) (h32:byt s i≠32) (h9:byt s i≠9) (h:qju s i toks waits=.ok q):i<q.1/\q.1<=s.length/\Inv s q.1 q.2.1 q.2.2:=by
 unfold qju at h;cases hl:linD s i toks waits with
 | some r=>
  rw[hl]at h;dsimp only at h;subst h;exact linD_inv hI hi hl
 | none=>
  rw[hl]at h;dsimp only at h;cases hr:remD s i toks waits with
  | some r=>
   rw[hr]at h;dsimp only at h;subst h;exact remD_inv hI hi hr
  | none=>
   rw[hr]at h;dsimp only at h;cases hm:mrkD s i toks waits with
   | some r=>
    rw[hm]at h;dsimp only at h;subst h;exact mrkD_inv hI hi hm
   | none=>
    rw[hm]at h;dsimp only at h
    have h10:byt s i≠10:=fun h=>by
     unfold linD at hl;rw[qc0 hi,dT h,iP rfl]at hl;cases hl
    have hmk:qfq s i=0/\byt s i≠38:=by
     unfold mrkD at hm;split at hm
     . cases hm
     . rename_i hn
       refine⟨by omega,fun h=>?_⟩;rw[qc0 hi,dT h,iP rfl]at hm;cases hm
    have hall:=mark_none hi hmk.1
    have he:endsD 0 (byt s i)=false:=by
     show [32,9,10,59,38,124,40,41,60,62].contains (byt s i)=false;have a1:=hall 59 (by simp);have a2:=hall 124 (by simp);have a3:=hall 40 (by simp);have a4:=hall 41 (by simp);have a5:=hall 60 (by simp);have a6:=hall 62 (by simp);simp only[List.contains_cons,List.contains_nil,Bool.or_false,beq_eq_false_iff_ne.2 h32,beq_eq_false_iff_ne.2 h9,beq_eq_false_iff_ne.2 h10,beq_eq_false_iff_ne.2 a1,beq_eq_false_iff_ne.2 a2,beq_eq_false_iff_ne.2 a3,beq_eq_false_iff_ne.2 a4,beq_eq_false_iff_ne.2 a5,beq_eq_false_iff_ne.2 a6,beq_eq_false_iff_ne.2 hmk.2,Bool.or_self]
    unfold wrdD at h;split at h
    . cases h
    . rename_i l j hq
      have hj:=pars_prog hq hi he;obtain⟨_,hj2,_⟩:=(qet _).1 _ _ _ _ _ _ _ _ hq (by omega);have:=hI.t;have:=hI.w;split at h
      . split at h
        . cases h
        . cases h
          dsimp only;refine⟨hj,hj2,⟨by simp only[lAq,List.length_cons,List.length_nil]; omega,by rw[lAq,List.length_singleton]; omega,fun w hw=>?_,fun x hx=>?_⟩⟩
          . simp only[lAq,List.length_cons,List.length_nil]
            rcases List.mem_append.1 hw with hw|hw
            . have:=hI.ix w hw; omega
            . rw[List.mem_singleton]at hw
              subst hw;dsimp only;omega
          . rcases List.mem_append.1 hx with hx|hx
            . exact hI.tx x hx
            . simp only[List.mem_cons,List.not_mem_nil,or_false]at hx
              rcases hx with rfl|rfl<;>exact Nat.zero_le _
      . cases h
        dsimp only;refine⟨hj,hj2,⟨by rw[lAq,List.length_singleton]; omega,by omega,fun w hw=>by rw[lAq]; have:=hI.ix w hw; omega,fun x hx=>?_⟩⟩;rcases List.mem_append.1 hx with hx|hx
        . exact hI.tx x hx
        . rw[List.mem_singleton]at hx
          subst hx;exact Nat.zero_le _
theorem qj9:∀(n:Nat) (s:Bs) (i:Nat),i<=s.length->s.length+1<=n+i->i<=qgz n s i/\qgz n s i<=s.length/\(qgz n s i<s.length->byt s (qgz n s i)≠32/\byt s (qgz n s i)≠9)
 | 0,s,i,hi,hn=>by omega
 | n+1,s,i,hi,hn=>by
  unfold qgz;split
  . rename_i h
    have:=qj9 n s (i+1) (by omega) (by omega);exact⟨by omega,this.2⟩
  . split
    . rename_i h9
      have hlt:i<s.length:=by
       rcases Nat.lt_or_ge i s.length with h|h
       . exact h
       . unfold byt at h9
         rw[List.getD_eq_getElem?_getD,List.getElem?_eq_none h]at h9;cases h9
      have:=qj9 n s (i+1) (by omega) (by omega);exact⟨by omega,this.2⟩
    . split
      . rename_i ha
        have hle:=qbg ha (by simp);simp only[List.length_cons,List.length_nil]at hle;have:=qj9 n s (i+2) (by omega) (by omega);exact⟨by omega,this.2⟩
      . rename_i h32 h9 _
        exact⟨lR _,hi,fun hlt=>⟨fun h=>h32 ⟨h,hlt⟩,h9⟩⟩
open Go.RowKit
theorem pf_r {E:Env} {self:EV} {fn:Func} {a:Ac} {v:V} {s:St} {k:V->St->Rs}:qhl E self fn a (some (.ret v,s)) k=k v s:=Eq.trans rfl rfl
theorem iface_neq (x:Nat):qa5 E0 .neq 20 false true (.iface 51 (.ptr x 0)) .niliface=some (.bool true):=by kernel_rfl
theorem nil_neq:qa5 E0 .neq 20 false true .niliface .niliface=some (.bool false):=by kernel_rfl
theorem iface_is (x:Nat):qlg E0 51 true (.iface 51 (.ptr x 0))=some (.tuple [.ptr x 0,.bool true]):=by kernel_rfl
theorem ex0 (a:V) (l:List V):qac (.tuple (a::l)) 0=some a:=rfl
theorem ex1 (a b:V) (l:List V):qac (.tuple (a::b::l)) 1=some b:=rfl
section
variable {K:FuncId->Option KF} {S U T:St} {N b i M:Nat} {s:Bs} {toks:List Tok} {waits:List (Nat×Bs)} {vT vW:V}
theorem lv8 {self:EV} {a:Ac} {pd pe:Nat} (h2:evO E0 a (.tmp 2)=some (.ptr pd 0)) (h3:evO E0 a (.tmp 3)=some (.ptr pe 0)) (ho:S.on=false) {u v:V} (hp0:AgAt S pd 22 1 (Ev.one u)) (hp1:AgAt S pe 24 1 (Ev.one v)) :
 lvK E0 self Tryd.f8 a [] .ret S=some (.ret (.tuple [u,v]),S):=by
 have h:lvK E0 self Tryd.f8 a [] .ret S=(evO E0 a (.tmp 2)).bind fun v=>(ldRes E0 22 v S).bind fun p=>(evO E0 a (.tmp 3)).bind fun w=>(ldRes E0 24 w p.2).bind fun q=>some (.ret (.tuple [p.1,q.1]),q.2):=by kernel_rfl
 rw[h,h2,oB,show ldRes E0 22 (.ptr pd 0) S=ldr1 (.ptr pd 0) S by kernel_rfl,hp0.ldr_one ho,oB,h3,oB];dsimp only;rw[show ldRes E0 24 (.ptr pe 0) S=ldr1 (.ptr pe 0) S by kernel_rfl,hp1.ldr_one ho,oB]
theorem fin8 {self:EV} {a:Ac} {pd pe:Nat} (hd:a.defers=[ad 18 [] [.ptr pd 0,.ptr pe 0]]) (h2:evO E0 a (.tmp 2)=some (.ptr pd 0)) (h3:evO E0 a (.tmp 3)=some (.ptr pe 0)) (ho:S.on=false) {u v:V} (hp0:AgAt S pd 22 1 (Ev.one u)) (hp1:AgAt S pe 24 1 (Ev.one v)) :
 finR E0 self Tryd.f8 a S=some (.ret (.tuple [u,v]),S):=by
 rw[finR_defer hd];refine qmb (ALe.refl a) ?_;rw[E18r,nil_neq,oB,ifK_bool,cF];exact lv8 h2 h3 ho hp0 hp1
theorem pan8 {self:EV} {a:Ac} {pd pe x:Nat} (hd:a.defers=[ad 18 [] [.ptr pd 0,.ptr pe 0]]) (h2:evO E0 a (.tmp 2)=some (.ptr pd 0)) (h3:evO E0 a (.tmp 3)=some (.ptr pe 0)) (ho:S.on=false) {u v:V} (hp0:AgAt S pd 22 1 (Ev.one u)) (hp1:AgAt S pe 24 1 (Ev.one v)) (h0n:pd<S.next) (h1n:pe<S.next) (h01:pd≠pe) :
 ∃U,qbk E0 self Tryd.f8 a a.defers (.pan (.iface 51 (.ptr x 0))) S=some (.ret (.tuple [.nilslice,.iface 51 (.ptr x 0)]),U)/\Grew (fun x=>x=pd\/x=pe) S U/\U.next=S.next:=by
 obtain⟨S3,c1,c2,c3,c4⟩:=hp0.st_one ho .nilslice rfl rfl rfl;have on3:=c3.on.trans ho;have hp13:=hp1.grew h1n (fun e=>h01 e.symm) c3;obtain⟨S4,d1,d2,d3,d4⟩:=hp13.st_one on3 (.iface 51 (.ptr x 0)) rfl rfl rfl;have on4:=d3.on.trans on3;have hp04:=c2.grew (by omega) h01 d3;refine⟨S4,?_,(c3.mono fun x _ h=>.inl h).trans (d3.mono fun x _ h=>.inr h),by omega⟩;rw[hd];refine qmb (ALe.refl a) ?_;rw[E18p,iface_neq,oB,ifK_bool,cT,iface_is,oB,ex0,ex1,oB,oB,qhi,oB,Bool.not_true,ifK_bool,cF,c1,oB];dsimp only;rw[d1,oB];exact lv8 h2 h3 on4 hp04 d2
def fnRow (M:Nat):List V:=[.fn (.func 19) [.ptr (M+2) 0] [],.fn (.func 20) [.ptr (M+2) 0] [],.fn (.func 21) [.ptr (M+2) 0] [],.fn (.func 22) [.ptr (M+2) 0] []]
structure Env8 (S:St) (M:Nat):Prop where
 d:AgAt S M 22 1 (Ev.one .nilslice)
 e:AgAt S (M+1) 24 1 (Ev.one .niliface)
 r:RowAt S (M+3) 34 1 ((fnRow M).map Ev.one)
theorem Env8.grew {W:Nat->Prop} (h:Env8 S M) (hM:M+4<=S.next) (g:Grew W S U) (hW:∀x,W x->x=M+2\/M+4<=x):Env8 U M:=
 ⟨h.d.grew (by omega) (fun hw=>by have:=hW _ hw; omega) g,h.e.grew (by omega) (fun hw=>by have:=hW _ hw; omega) g,h.r.grew (by omega) (fun hw=>by have:=hW _ hw; omega) g⟩
def ds8 (M:Nat):List AD:=[ad 18 [] [.ptr M 0,.ptr (M+1) 0]]
abbrev LexR (o:Except Flt (List Tok)) (S:St) (M:Nat) (r:Rs):Prop:=match o with
 | .ok t=>∃U v rT,r=some (.ret (.tuple [v,.niliface]),U)/\RV U v 39 5 rT/\TksAt U (fun x=>M<=x/\x<U.next) t rT/\(∀r,qah v=some r->M<=r)/\Grew (fun x=>M<=x) S U
 | .error e=>∃U x,r=some (.ret (.tuple [.nilslice,.iface 51 (.ptr x 0)]),U)/\AgAt U x 52 2 (qk3 e.1 e.2)/\M<=x/\x<U.next/\Grew (fun x=>M<=x) S U
theorem LexR.after {o:Except Flt (List Tok)} {r:Rs} (g:Grew (fun x=>M<=x) S T) (h:LexR o T M r):LexR o S M r:=by
 cases o with
 | ok t=>
  obtain⟨U,v,rT,h1,h2,h3,h4,h5⟩:=h;exact⟨U,v,rT,h1,h2,h3,h4,g.trans h5⟩
 | error e=>
  obtain⟨U,x,h1,h2,h3,h4,h5⟩:=h;exact⟨U,x,h1,h2,h3,h4,g.trans h5⟩
theorem bad_lex {self:EV} {a:Ac} {r:Rs} {k:V->St->Rs} {c n:Nat} (hd:a.defers=ds8 M) (h2:evO E0 a (.tmp 2)=some (.ptr M 0)) (h3:evO E0 a (.tmp 3)=some (.ptr (M+1) 0)) (ho:S.on=false) (hM:M+4<=S.next) (hE:Env8 S M) (h:Bad (fun x=>x=M+2\/M+4<=x) S r c n):LexR (.error (c,n)) S M (qhl E0 self Tryd.f8 a r k):=by
 obtain⟨U,x,rfl,b2,b3,b4,b5⟩:=h;have nx:=b5.next
 have e1:=hE.grew hM b5 (fun x hx=>hx);obtain⟨U2,c1,c2,c3⟩:=pan8 (self:=self) (a:=a) (x:=x) hd h2 h3 (b5.on.trans ho) e1.d e1.e (by omega) (by omega) (by omega);exact⟨U2,x,by rw[callPF_pan]; exact c1,b2.grew b4 (by omega) c2,by omega,by omega,(b5.mono fun x _ hx=>by omega).trans (c2.mono fun x _ hx=>by omega)⟩
theorem ski_run (hK:RefL K) (m:Nat) (hs:s.length<=5000) (nk:Ac->St->Rs) (ek:Nat->Ac->St->Rs) (ds:List AD) (v0 v2 v3 v5:V) :
 ∀(n i q:Nat) (S:St),LS S N b s i toks waits vT vW->i<=s.length->s.length+1<=n+i->n<q->
 ∃U,L8_67 (ev E0 K (m+4)) qa3 nk ek q ds v0 v2 v3 (.ptr b 0) v5 S=ek 2 (frD 62 [(0,v0),(2,v2),(3,v3),(4,.ptr b 0),(5,v5)] ds) U/\LS U N b s (qgz n s i) toks waits vT vW/\Grew (fun x=>x=b) S U
 | n,i,0,S,h,hi,hn,hq=>absurd hq (Nat.not_lt_zero _)
 | 0,i,q+1,S,h,hi,hn,hq=>by omega
 | n+1,i,q+1,S,h,hi,hn,hq=>by
  have hbN:=h.bN;generalize hR:L8_67 (ev E0 K (m+4)) qa3 nk ek (q+1) ds v0 v2 v3 (.ptr b 0) v5 S=R;rw[L8_67_eq]at hR;have hE:=hR.symm
  have go:∀(c:Nat) (U:St),Lx U b s (i+c) vT vW->Grew (fun x=>x=b) S U->i+c<=s.length->0<c->R=L8_67 (ev E0 K (m+4)) qa3 nk ek q ds v0 v2 v3 (.ptr b 0) v5 U->qgz (n+1) s i=qgz n s (i+c)->
   ∃U,R=ek 2 (frD 62 [(0,v0),(2,v2),(3,v3),(4,.ptr b 0),(5,v5)] ds) U/\LS U N b s (qgz (n+1) s i) toks waits vT vW/\Grew (fun x=>x=b) S U:=fun c U l g hc h0 hr hsk=>by
   obtain⟨U2,u1,u2,u3⟩:=ski_run hK m hs nk ek ds v0 v2 v3 v5 n (i+c) q U (h.move g (fun x hx=>.inl (by omega)) l) hc (by omega) (by omega);exact⟨U2,hr.trans u1,by rw[hsk]; exact u2,g.trans u3⟩
  cases h1:atD s i [32]with
  | true=>
   have hle:=qbg h1 (by simp);simp only[List.length_singleton]at hle;obtain⟨U,k1,k2,k3,k4⟩:=qb3 hK m h.on h.lx hi (t:=[32]) (by simp; omega) h1;rw[qc0 (by omega)]at h1;have hb:=of_decide_eq_true h1;rw[k1,qch]at hE;simp only[g_f,Bool.not_true,b_s,c_f,pf_r,p_b,c_t,i_b]at hE;exact go 1 U k2 k3 hle (by omega) hE (by rw[qgz,iP ⟨hb,by omega⟩])
  | false=>
   rw[qbc hK m h.on h.lx hi (t:=[32]) h1,qch]at hE;simp only[g_f,nF,b_s,c_t]at hE
   have n32:¬(byt s i=32/\i<s.length):=fun hh=>by
    rw[qc0 hh.2,dT hh.1]at h1;cases h1
   cases h2:atD s i [9]with
   | true=>
    have hle:=qbg h2 (by simp);simp only[List.length_singleton]at hle;obtain⟨U,k1,k2,k3,k4⟩:=qb3 hK m h.on h.lx hi (t:=[9]) (by simp; omega) h2;rw[qc0 (by omega)]at h2;have hb:=of_decide_eq_true h2;rw[k1,qch]at hE;simp only[p_b,c_f,b_s,g_f,Bool.not_true,pf_r,c_t,i_b]at hE;exact go 1 U k2 k3 hle (by omega) hE (by rw[qgz,iN n32,iP hb])
   | false=>
    rw[qbc hK m h.on h.lx hi (t:=[9]) h2,qch]at hE;simp only[p_b,c_f,b_s,g_f,nF,c_t]at hE
    have n9:¬byt s i=9:=fun hh=>by
     have hlt:i<s.length:=by
      rcases Nat.lt_or_ge i s.length with h|h
      . exact h
      . unfold byt at hh
        rw[List.getD_eq_getElem?_getD,List.getElem?_eq_none h]at hh;cases hh
     rw[qc0 hlt,dT hh]at h2;cases h2
    cases h3:atD s i [92,10]with
    | true=>
     have hle:=qbg h3 (by simp);simp only[List.length_cons,List.length_nil]at hle;obtain⟨U,k1,k2,k3,k4⟩:=qb3 hK m h.on h.lx hi (t:=[92,10]) (by simp; omega) h3;rw[k1,qch]at hE;simp only[p_b,c_f,b_s,i_b,c_t]at hE;exact go 2 U k2 k3 hle (by omega) hE (by rw[qgz,iN n32,iN n9,iP h3])
    | false=>
     rw[qbc hK m h.on h.lx hi (t:=[92,10]) h3,qch]at hE;simp only[p_b,c_f,b_s,i_b]at hE;refine⟨S,hE,?_,Grew.refl _ _⟩;rw[qgz,iN n32,iN n9,iN (by simp[h3])];exact h
end
end Go.Proofs.YtafbipadnnmccaaDoor.W
end
