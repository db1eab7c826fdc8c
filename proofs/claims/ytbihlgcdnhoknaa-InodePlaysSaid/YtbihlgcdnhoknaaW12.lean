/-
  WHAT THE FUNCTIONS COME TO: each is read by the evaluator,printed,and told as a function of data,part 12 of 14 (no condition).
-/
import Derived.Test.YtbihlgcdnhoknaaW11
namespace Go.Proofs.Ytbihlgcdnhoknaa.W
open Go.Proofs.Ytbihlgcdnhoknaa.Ev Go.RowKit
set_option maxRecDepth 100000
section
variable {S U:St} {rb:Nat} {vL vE:V} {R:RT}
def qhz (R:RT) (i:Int):Nat->Int->Option Int
 | 0,_=>none
 | n+1,j=>if j=1 then some 0 else if j=i then some 2 else qhz R i n (R.up j)
theorem rd44 {n:Nat} {args:List V} {s:St} {r:En×St} (e:qb6 E0 (ev E0 KD n) qa4 Try.f44 B44 args s=some r):(ev E0 KD (n+1)).f 44 args s=some r:=qaa (c:=C44) (d:=B44) (by kernel_rfl) (by kernel_rfl) (qa5 C44 _ (by kernel_rfl)) rfl e
theorem L44_step {m N:Nat} (nk:Ac->St->Rs) (ek:Nat->Ac->St->Rs) (h:RAt S rb vL vE R) (hf:Fw R) (t:Int) (v4 v12:V) (i j:Int) (q:Nat):qnx (ev E0 KD (m+2)) N nk ek (q+1) (.ptr rb 0) (.int .i64 t) v4 v12 (.int .i64 i) (.int .i64 j) S =
 if j=1 then ek 0 (fr 79 [(0,.ptr rb 0),(3,.int .i64 t),(4,v4),(12,v12),(13,.int .i64 i)]) S else if j=i then some (.ret (.int .i64 2),S)else qnx (ev E0 KD (m+2)) N nk ek q (.ptr rb 0) (.int .i64 t) v4 v12 (.int .i64 i) (.int .i64 (R.up j)) S:=by
 rw[L44_69_eq,qna,oB,ifK_bool];by_cases h1:j=1
 . rw[dT h1,Bool.not_true,cF,iP h1]
 . rw[dF h1,nF,cT,iN h1,qbl,oB,ifK_bool]
   by_cases h2:j=i
   . rw[dT h2,cT,iP h2]
   . rw[dF h2,cF,iN h2,upV_run h hf m j,callP_ret]
theorem L44_spec {m N:Nat} (nk:Ac->St->Rs) (ek:Nat->Ac->St->Rs) (h:RAt S rb vL vE R) (hf:Fw R) (t:Int) (v4 v12:V) (i:Int) {e:Int} (n:Nat):∀(j:Int) (q:Nat),qhz R i n j=some e->n<=q->
 qnx (ev E0 KD (m+2)) N nk ek q (.ptr rb 0) (.int .i64 t) v4 v12 (.int .i64 i) (.int .i64 j) S=if e=0 then ek 0 (fr 79 [(0,.ptr rb 0),(3,.int .i64 t),(4,v4),(12,v12),(13,.int .i64 i)]) S else some (.ret (.int .i64 e),S):=by
 induction n with
 | zero=>intro j q hap; cases hap
 | succ n ih=>
  intro j q hap hq;cases q with
  | zero=>omega
  | succ q=>
   rw[L44_step nk ek h hf];unfold qhz at hap;by_cases h1:j=1
   . rw[iP h1]at hap
     cases hap;rw[iP h1,iP rfl]
   . rw[iN h1]at hap
     rw[iN h1];by_cases h2:j=i
     . rw[iP h2]at hap
       cases hap;rw[iP h2,iN (by decide)]
     . rw[iN h2]at hap
       rw[iN h2];exact ih _ q hap (by omega)
def RT.moveE (R:RT) (f:Int) (a:Bs) (t:Int) (c:Bs) (e:Int):Int:=if R.dirE f=0 then(if R.placeE t c=0 then(match R.find f a with|none=>5|some _=>if f=t/\a=c then 0 else if(R.find t c).isSome then 6 else e)else R.placeE t c)else R.dirE f
def RT.moved (R:RT) (f:Int) (a:Bs) (t:Int) (c:Bs) (i:Int):RT:={R with E:=(R.less f a).E++[⟨t,c,i⟩]}
def RT.move (R:RT) (f:Int) (a:Bs) (t:Int) (c:Bs) (e:Int):RT:=if R.moveE f a t c e=0/\¬(f=t/\a=c)then(match R.find f a with|none=>R|some i=>R.moved f a t c i)else R
theorem R44_48_run {m N:Nat} (nk:Ac->St->Rs) (ek:Nat->Ac->St->Rs) (h:RAt S rb vL vE R) (hf:Fw R) (t:Int) (c:Bs) (i:Int) {k:Nat} (hk:k<R.E.length):∃U vE',qo2 (ev E0 KD (m+1)) N nk ek (fr 79 [(0,.ptr rb 0),(3,.int .i64 t),(4,sv c),(12,.int .i64 (k:Int)),(13,.int .i64 i)]) S=some (.ret (.int .i64 0),U)/\RAft S U rb vL vE vL vE' {R with E:=R.E.eraseIdx k++[⟨t,c,i⟩]}:=by
 obtain⟨U1,v1,c1,c2⟩:=drop_run h hf m hk;have h1:=c2.at';obtain⟨y,T1,v',T2,U,a1,a2,a3,a4,_⟩:=h1.pushE ⟨hf.l,Nat.le_trans (List.length_eraseIdx_le ..) hf.e⟩ ⟨t,c,i⟩ (Tr.ofListFrom .nil [(.int .i64 0),(sv []),(.int .i64 0)] 0);refine⟨U,v',?_,c2.trans a4⟩;rw[R44_48_eq,c1,callP_ret,qc5,oB,qax,oB,Nat.zero_add,h1.ldE,oB];dsimp only;rw[build98,oB,a1,oB];dsimp only;rw[a2,oB,oB,qax,oB,Nat.zero_add];dsimp only;rw[a3,oB]
theorem rmove_run (h:RAt S rb vL vE R) (hf:Fw R) (m:Nat) (f:Int) (a:Bs) (t:Int) (c:Bs) (hc:c.length<9223372036854775808) {e:Int} {n:Nat} (hn:n<=qa4)
 (hap:∀i,R.find f a=some i->R.dirE f=0->R.placeE t c=0->¬(f=t/\a=c)->R.find t c=none->qhz R i n t=some e) :
 ∃U vE',(ev E0 KD (m+4)).f 44 [.ptr rb 0,.int .i64 f,sv a,.int .i64 t,sv c] S=some (.ret (.int .i64 (R.moveE f a t c e)),U)/\RAft S U rb vL vE vL vE' (R.move f a t c e):=by
 have stop:∀{x:Int},R.moveE f a t c e=x->(x≠0\/(f=t/\a=c))->F44 (ev E0 KD (m+3)) qa4 (.ptr rb 0) (.int .i64 f) (sv a) (.int .i64 t) (sv c) S=some (.ret (.int .i64 x),S)->∃U vE',(ev E0 KD (m+4)).f 44 [.ptr rb 0,.int .i64 f,sv a,.int .i64 t,sv c] S=some (.ret (.int .i64 (R.moveE f a t c e)),U)/\RAft S U rb vL vE vL vE' (R.move f a t c e):=fun{x} he h0 hF=>by
  refine⟨S,vE,by rw[he]; exact rd44 hF,?_⟩;unfold RT.move;rw[iN (fun q=>h0.elim (fun z=>z (he.symm.trans q.1)) q.2)];exact RAft.none h (Grew.refl _ _)
 by_cases h1:R.dirE f=0
 . have h72:=qkv h hf (m+1) f
   rw[h1]at h72;by_cases h2:R.placeE t c=0
   . have h67:=qed h hf m t c hc
     rw[h2]at h67;cases hg:R.find f a with
     | none=>
      refine stop (x:=5) (by unfold RT.moveE; rw[iP h1,iP h2,hg]) (.inl (by decide)) ?_;rw[F44_eq,h72,callP_ret,qbl,dT rfl,oB,ifK_bool,cT,h67,callP_ret,qna,dT rfl,oB,Bool.not_true,ifK_bool,cF,qcb h hf.e,callP_ret,qfq hg,qjc,dT (by omega),oB,ifK_bool,cT]
     | some i=>
      obtain⟨k,hk,k1,k2,_⟩:=qfr hg;obtain⟨x,q1,q2⟩:=h.ent hk;have f2:=q2 2 (.int .i64 i) (by rw[<- k2]; rfl);have hM:R.moveE f a t c e=if f=t/\a=c then 0 else if(R.find t c).isSome then 6 else e:=by unfold RT.moveE; rw[iP h1,iP h2,hg]
      by_cases hs:f=t/\a=c
      . rw[iP hs]at hM
        refine stop hM (.inr hs) ?_;rw[F44_eq,h72,callP_ret,qbl,dT rfl,oB,ifK_bool,cT,h67,callP_ret,qna,dT rfl,oB,Bool.not_true,ifK_bool,cF,qcb h hf.e,callP_ret,k1,qjc,dF (by omega),oB,ifK_bool,cF,qbl,dT hs.1,oB];simp only[gTT,oB,cT];rw[eqStr,hs.2,beq_self_eq_true,oB,pickV_bool,cT,oB,ifK_bool,cT]
      . rw[iN hs]at hM
        have head:∀Q,(qah ((ev E0 KD (m+3)).f 69 [.ptr rb 0,.int .i64 t,sv c] S) fun t36 S36=>
         (qa6 E0 .geq 3 false true t36 (.int .i64 0)).bind fun t37=>
         ifK t37 (
         some (.ret (.int .i64 6),S36)) (
         (qa2 (.ptr rb 0)).bind fun t40=>
         (faP 3 false 1 t40).bind fun t41=>
         (ld1 t41 S36).bind fun p42=>
         (ixP 3 p42.1 (.int .i64 (k:Int))).bind fun t44=>
         (faP 2 false 1 t44).bind fun t45=>
         (ld1 t45 p42.2).bind fun p46=>
         qnx (ev E0 KD (m+3)) qa4 (qo2 (ev E0 KD (m+3)) qa4 (fun a s=>qbo [10] a fun a=>(qc0 E0 (ev E0 KD (m+3)) Try.f44) a s) qbd) (exB 0 (qo2 (ev E0 KD (m+3)) qa4 (fun a s=>qbo [10] a fun a=>(qc0 E0 (ev E0 KD (m+3)) Try.f44) a s) qbd) qbd) qa4 (.ptr rb 0) (.int .i64 t) (sv c) (.int .i64 (k:Int)) p46.1 (.int .i64 t) p46.2))=Q->F44 (ev E0 KD (m+3)) qa4 (.ptr rb 0) (.int .i64 f) (sv a) (.int .i64 t) (sv c) S=Q:=fun Q hQ=>by
         rw[F44_eq,h72,callP_ret,qbl,dT rfl,oB,ifK_bool,cT,h67,callP_ret,qna,dT rfl,oB,Bool.not_true,ifK_bool,cF,qcb h hf.e,callP_ret,k1,qjc,dF (by omega),oB,ifK_bool,cF,qbl,oB];by_cases hft:f=t
         . have hac:¬a=c:=fun e=>hs ⟨hft,e⟩
           rw[dT hft];simp only[gTT,oB,cT];rw[eqStr,beq_false_of_ne hac,oB,pickV_bool,cT,oB,ifK_bool,cF];exact hQ
         . rw[dF hft]
           simp only[gTF,oB,cF,pickV_bool,ifK_bool];exact hQ
        cases hg2:R.find t c with
        | some j=>
         obtain⟨k',hk',k1',_⟩:=qfr hg2;rw[hg2]at hM;refine stop (x:=6) hM (.inl (by decide)) (head _ ?_);rw[qcb h hf.e,callP_ret,k1',geqI,dT (by omega),oB,ifK_bool,cT]
        | none=>
         rw[hg2,Option.isSome_none,iN Bool.false_ne_true]at hM;have hap':=hap i hg h1 h2 hs hg2
         have go:∀Q,(if e=0 then qo2 (ev E0 KD (m+3)) qa4 (fun a s=>qbo [10] a fun a=>(qc0 E0 (ev E0 KD (m+3)) Try.f44) a s) qbd (fr 79 [(0,.ptr rb 0),(3,.int .i64 t),(4,sv c),(12,.int .i64 (k:Int)),(13,.int .i64 i)]) S else some (.ret (.int .i64 e),S))=Q->F44 (ev E0 KD (m+3)) qa4 (.ptr rb 0) (.int .i64 f) (sv a) (.int .i64 t) (sv c) S=Q:=fun Q hQ=>head _ (by
          rw[qcb h hf.e,callP_ret,qfq hg2,geqI,dF (by omega),oB,ifK_bool,cF,qc5,oB,qax,oB,Nat.zero_add,h.ldE,oB];dsimp only;rw[q1,oB,qax,oB,f2,oB];dsimp only;refine(L44_spec (m:=m+1) _ _ h hf t (sv c) (.int .i64 (k:Int)) i n t qa4 hap' hn).trans ?_;rw[exB_same]
          exact hQ)
         by_cases he:e=0
         . obtain⟨U,vE',u1,u2⟩:=R44_48_run (m:=m+2) (N:=qa4) (fun a s=>qbo [10] a fun a=>(qc0 E0 (ev E0 KD (m+3)) Try.f44) a s) qbd h hf t c i hk
           refine⟨U,vE',?_,?_⟩
           . rw[hM,he]
             exact rd44 (go _ (by rw[iP he]; exact u1))
           . unfold RT.move
             rw[iP ⟨hM.trans he,hs⟩,hg];have:R.moved f a t c i={R with E:=R.E.eraseIdx k++[⟨t,c,i⟩]}:=by unfold RT.moved RT.less; rw[k1]; rfl
             show RAft S U rb vL vE vL vE' (R.moved f a t c i);rw[this]; exact u2
         . exact stop hM (.inl he) (go _ (by rw[iN he]))
   . refine stop (x:=R.placeE t c) (by unfold RT.moveE; rw[iP h1,iN h2]) (.inl h2) ?_
     rw[F44_eq,h72,callP_ret,qbl,dT rfl,oB,ifK_bool,cT,qed h hf m t c hc,callP_ret,qna,dF h2,oB,nF,ifK_bool,cT]
 . refine stop (x:=R.dirE f) (by unfold RT.moveE; rw[iN h1]) (.inl h1) ?_
   rw[F44_eq,qkv h hf (m+1) f,callP_ret,qbl,dF h1,oB,ifK_bool,cF,qna,dF h1,oB,nF,ifK_bool,cT]
def okQ (qi qb:Int):Bool:=decide (1<=qi)&&decide (qi<=1048576)&&decide (0<=qb)&&decide (qb<=1073741824)
theorem qpw (ho:S.on=false) {b:Nat} {qi qb:Int} (hb:Bx S b 26 [.int .i64 qi,.int .i64 qb]):∃v,∀K:V×St->V->Rs,
 ((faP 0 false 1 (V.ptr b 0)).bind fun t2=>
   (ld1 t2 S).bind fun p3=>
   (qa6 E0 .lss 3 false true p3.1 (.int .i64 1)).bind fun t4=>
   (qa3 false t4).bind fun g6=>(bif g6 then faP 0 false 1 (V.ptr b 0)else some (.tuple [])).bind fun t6=>
   (qa3 false t4).bind fun g7=>(bif g7 then ld1 t6 p3.2 else some (.tuple [],p3.2)).bind fun p7=>
   (qa3 false t4).bind fun g8=>(bif g8 then qa6 E0 .gtr 3 false true p7.1 (.int .i64 1048576)else some (.tuple [])).bind fun t8=>
   (qaw t4 (some (.bool true)) (some t8)).bind fun t9=>
   (qa3 false t9).bind fun g11=>(bif g11 then faP 1 false 1 (V.ptr b 0)else some (.tuple [])).bind fun t11=>
   (qa3 false t9).bind fun g12=>(bif g12 then ld1 t11 p7.2 else some (.tuple [],p7.2)).bind fun p12=>
   (qa3 false t9).bind fun g13=>(bif g13 then qa6 E0 .lss 3 false true p12.1 (.int .i64 0)else some (.tuple [])).bind fun t13=>
   (qaw t9 (some (.bool true)) (some t13)).bind fun t14=>
   (qa3 false t14).bind fun g16=>(bif g16 then faP 1 false 1 (V.ptr b 0)else some (.tuple [])).bind fun t16=>
   (qa3 false t14).bind fun g17=>(bif g17 then ld1 t16 p12.2 else some (.tuple [],p12.2)).bind fun p17=>
   (qa3 false t14).bind fun g18=>(bif g18 then qa6 E0 .gtr 3 false true p17.1 (.int .i64 1073741824)else some (.tuple [])).bind fun t18=>
   (qaw t14 (some (.bool true)) (some t18)).bind fun t19=>
   K p17 t19)=K (v,S) (.bool (!okQ qi qb)):=by
 have l0:ld1 (.ptr b 0) S=some (.int .i64 qi,S):=Bx6.ld ho hb qcp (i:=0) rfl;have l1:ld1 (.ptr b 1) S=some (.int .i64 qb,S):=Bx6.ld ho hb qcp (i:=1) rfl;unfold okQ;simp only[qax,oB,Nat.zero_add,l0,qjc];by_cases h1:qi<1
 . rw[dT h1,show decide (1<=qi)=false from dF (by omega)]
   exact⟨.tuple [],fun K=>by simp only[gFT,oB,cF,pickV_bool,cT,Bool.false_and,nF]⟩
 rw[dF h1,show decide (1<=qi)=true from dT (by omega)];simp only[gFF,oB,cT,Bool.true_and,qax,Nat.zero_add,l0,qm3,pickV_bool,cF];by_cases h2:1048576<qi
 . rw[dT h2,show decide (qi<=1048576)=false from dF (by omega)]
   exact⟨.tuple [],fun K=>by simp only[gFT,oB,cF,pickV_bool,cT,Bool.false_and,nF]⟩
 rw[dF h2,show decide (qi<=1048576)=true from dT (by omega)];simp only[gFF,oB,cT,Bool.true_and,qax,Nat.zero_add,l1,qjc,pickV_bool,cF];by_cases h3:qb<0
 . rw[dT h3,show decide (0<=qb)=false from dF (by omega)]
   exact⟨.tuple [],fun K=>by simp only[gFT,oB,cF,pickV_bool,cT,Bool.false_and,nF]⟩
 rw[dF h3,show decide (0<=qb)=true from dT (by omega)];simp only[gFF,oB,cT,Bool.true_and,l1,qm3,pickV_bool,cF];by_cases h4:1073741824<qb
 . rw[dT h4,show decide (qb<=1073741824)=false from dF (by omega)]
   exact⟨.int .i64 qb,fun K=>rfl⟩
 . rw[dF h4,show decide (qb<=1073741824)=true from dT (by omega)]
   exact⟨.int .i64 qb,fun K=>rfl⟩
theorem rd20 {n:Nat} {args:List V} {s:St} {r:En×St} (e:qb6 E0 (ev E0 KD n) qa4 Try.f20 B20 args s=some r):(ev E0 KD (n+1)).f 20 args s=some r:=qaa (c:=C20) (d:=B20) (by kernel_rfl) (by kernel_rfl) (qa5 C20 _ (by kernel_rfl)) rfl e
theorem build35s:qb9 E0 35 [(0,(.int .i64 2)),(1,(.int .i64 493))]=some (qbz (RIno.mk 2 493 []).cells):=by kernel_rfl
theorem build86 (a c:Int) (x:Nat):qb9 E0 86 [(0,qbz [.int .i64 a,.int .i64 c]),(1,.slice x 0 1 1)]=some (qbz [.int .i64 a,.int .i64 c,.slice x 0 1 1,.nilslice]):=by kernel_rfl
def RT.new (qi qb:Int):RT:=⟨qi,qb,[⟨2,493,[]⟩],[]⟩
theorem new_bad (ho:S.on=false) (m:Nat) (qi qb:Int) (hq:okQ qi qb=false):∃U,(ev E0 KD (m+1)).f 7 [qbz [.int .i64 qi,.int .i64 qb]] S=some (.ret .nilptr,U)/\Grew (fun _=>False) S U:=by
 obtain⟨A,a1,a2,a3,a4⟩:=qex ho 26 [.int .i64 qi,.int .i64 qb];refine⟨A,rd7 ?_,a3⟩;show F7 (ev E0 KD m) qa4 (qbz [.int .i64 qi,.int .i64 qb]) S=_;rw[F7_eq,a1,oB];dsimp only;obtain⟨v,hv⟩:=qpw (a3.on.trans ho) a2;refine(hv _).trans ?_;rw[hq,nF,ifK_bool,cT]
theorem rnew_bad (ho:S.on=false) (m:Nat) (qi qb:Int) (hq:okQ qi qb=false):∃U,(ev E0 KD (m+1)).f 20 [qbz [.int .i64 qi,.int .i64 qb]] S=some (.ret .nilptr,U)/\Grew (fun _=>False) S U:=by
 obtain⟨A,a1,a2,a3,a4⟩:=qex ho 26 [.int .i64 qi,.int .i64 qb];refine⟨A,rd20 ?_,a3⟩;show F20 (ev E0 KD m) qa4 (qbz [.int .i64 qi,.int .i64 qb]) S=_;rw[F20_eq,a1,oB];dsimp only;obtain⟨v,hv⟩:=qpw (a3.on.trans ho) a2;refine(hv _).trans ?_;rw[hq,nF,ifK_bool,cT]
theorem rnew_run (ho:S.on=false) (m:Nat) (qi qb:Int) (hq:okQ qi qb=true):∃U rb vL,(ev E0 KD (m+1)).f 20 [qbz [.int .i64 qi,.int .i64 qb]] S=some (.ret (.ptr rb 0),U)/\RAt U rb vL .nilslice (RT.new qi qb)/\Grew (fun _=>False) S U/\∀x,ROwn rb vL .nilslice x->S.next<=x:=by
 obtain⟨A,a1,a2,a3,a4⟩:=qex ho 26 [.int .i64 qi,.int .i64 qb];have onA:=a3.on.trans ho;have lA:Ev.ldA 2 (.ptr S.next 0) A=some (qbz [.int .i64 qi,.int .i64 qb],A):=Bx.ldA onA a2 rfl qcp
 have hrow:RowAt (nw A (.cells 35 4 1 false ((Tr.tab 1 1 fun _=>(Tr.ofListFrom .nil [(V.int .i64 0),(.int .i64 0),(sv []),(.int .i64 0)] 0)).set (Tr.ofListFrom .nil (RIno.mk 2 493 []).cells 0) 0))) A.next 35 4 [(RIno.mk 2 493 []).tree]:=by
  refine qje onA (by omega) rfl (by unfold big; omega) fun i t h=>?_;rw[Tr.get_set];cases i with
  | zero=>rw[iP rfl]; exact h
  | succ i=>simp at h
 have hg:Grew (fun _=>False) A (nw A (.cells 35 4 1 false ((Tr.tab 1 1 fun _=>(Tr.ofListFrom .nil [(V.int .i64 0),(.int .i64 0),(sv []),(.int .i64 0)] 0)).set (Tr.ofListFrom .nil (RIno.mk 2 493 []).cells 0) 0))):=qcq onA _ _
 have hbs:bsP 35 4 1 (Tr.ofListFrom .nil [(.int .i64 0),(.int .i64 0),(sv []),(.int .i64 0)] 0) [(0,qbz (RIno.mk 2 493 []).cells)] A=some (.slice A.next 0 1 1,nw A (.cells 35 4 1 false ((Tr.tab 1 1 fun _=>(Tr.ofListFrom .nil [(V.int .i64 0),(.int .i64 0),(sv []),(.int .i64 0)] 0)).set (Tr.ofListFrom .nil (RIno.mk 2 493 []).cells 0) 0))):=by
  unfold bsP qjl qjl;simp only[qbz,V.size,qai,V.cells,RIno.cells,List.length_cons,List.length_nil,Nat.zero_add,Nat.reduceAdd,Nat.beq_refl,nF,Bool.and_true,show Nat.blt 0 1=true from rfl,cT,Tr.setC_eq,oB]
 have hnB:(nw A (.cells 35 4 1 false ((Tr.tab 1 1 fun _=>(Tr.ofListFrom .nil [(V.int .i64 0),(.int .i64 0),(sv []),(.int .i64 0)] 0)).set (Tr.ofListFrom .nil (RIno.mk 2 493 []).cells 0) 0))).next=A.next+1:=rfl
 generalize (nw A (.cells 35 4 1 false ((Tr.tab 1 1 fun _=>(Tr.ofListFrom .nil [(V.int .i64 0),(.int .i64 0),(sv []),(.int .i64 0)] 0)).set (Tr.ofListFrom .nil (RIno.mk 2 493 []).cells 0) 0)))=B at hrow hg hbs hnB;have onB:=hg.on.trans onA;obtain⟨C,c1,c2,c3,c4⟩:=qex onB 86 [.int .i64 qi,.int .i64 qb,.slice A.next 0 1 1,.nilslice];refine⟨C,B.next,.slice A.next 0 1 1,rd20 ?_,⟨c3.on.trans onB,c2,.inr ⟨A.next,hrow.grew (by omega) (fun h=>h) c3,by omega,by show 0<1; omega,.inr rfl⟩,.inl ⟨rfl,rfl⟩,by omega⟩,(a3.trans hg).trans c3,fun x hx=>?_⟩
 . show F20 (ev E0 KD m) qa4 (qbz [.int .i64 qi,.int .i64 qb]) S=_
   rw[F20_eq,a1,oB];dsimp only;obtain⟨v,hv⟩:=qpw onA a2;refine(hv _).trans ?_;rw[hq,Bool.not_true,ifK_bool,cF];dsimp only;rw[lA,oB];dsimp only;rw[build35s,oB,hbs,oB];dsimp only;rw[build86,oB,c1,oB]
 . have:=a3.next
   rcases hx with q|q|q
   . omega
   . cases q; omega
   . cases q
end
section
variable {S U:St} {b r:Nat} {T:Tab}
theorem rd46 {n:Nat} {args:List V} {s:St} {r:En×St} (e:qb6 E0 (ev E0 KD n) qa4 Try.f46 B46 args s=some r):(ev E0 KD (n+1)).f 46 args s=some r:=qaa (c:=C46) (d:=B46) (by kernel_rfl) (by kernel_rfl) (qa5 C46 _ (by kernel_rfl)) rfl e
theorem rd74 {n:Nat} {args:List V} {s:St} {r:En×St} (e:qb6 E0 (ev E0 KD n) qa4 Try.f74 B74 args s=some r):(ev E0 KD (n+1)).f 74 args s=some r:=qaa (c:=C74) (d:=B74) (by kernel_rfl) (by kernel_rfl) (qa5 C74 _ (by kernel_rfl)) rfl e
theorem rd75 {n:Nat} {args:List V} {s:St} {r:En×St} (e:qb6 E0 (ev E0 KD n) qa4 Try.f75 B75 args s=some r):(ev E0 KD (n+1)).f 75 args s=some r:=qaa (c:=C75) (d:=B75) (by kernel_rfl) (by kernel_rfl) (qa5 C75 _ (by kernel_rfl)) rfl e
theorem rd54 {n:Nat} {args:List V} {s:St} {r:En×St} (e:qb6 E0 (ev E0 KD n) qa4 Try.f54 B54 args s=some r):(ev E0 KD (n+1)).f 54 args s=some r:=qaa (c:=C54) (d:=B54) (by kernel_rfl) (by kernel_rfl) (qa5 C54 _ (by kernel_rfl)) rfl e
theorem rd55 {n:Nat} {args:List V} {s:St} {r:En×St} (e:qb6 E0 (ev E0 KD n) qa4 Try.f55 B55 args s=some r):(ev E0 KD (n+1)).f 55 args s=some r:=qaa (c:=C55) (d:=B55) (by kernel_rfl) (by kernel_rfl) (qa5 C55 _ (by kernel_rfl)) rfl e
theorem root_run (m:Nat) (b:Nat) (S:St):(ev E0 KD (m+1)).f 55 [.ptr b 0] S=some (.ret (.int .i64 1),S):=rd55 (by
 show F55 (ev E0 KD m) qa4 (.ptr b 0) S=_
 rw[F55_eq,eq23p,oB,ifK_bool,cF])
theorem cells_02 (a b c d e f:V):qfo (Tr.ofListFrom .nil [Tr.ofListFrom .nil [a,b,c,d,e,f] 0] 0) 6 0 2 0 .nil=Tr.ofListFrom .nil [a,b] 0:=by kernel_rfl
theorem TabAt.quota2 (h:TabAt S b r T):Ev.ldA 2 (.ptr b 0) S=some (qbz [.int .i64 T.qi,.int .i64 T.qb],S):=by
 have hb:=h.tb;unfold Bx at hb;have hl:(T.cells r).length=6:=rfl;rw[hl]at hb;show((ldK S b 0 2).bind fun q=>some (V.agg 2 q.1,q.2))=_;unfold ldK;rw[hb];simp only[show Nat.ble (0+2) (6*1)=true from rfl,show Nat.blt (6*1) big=true from by unfold big; decide,Bool.and_self,cT];unfold qf3;rw[show Nat.beq 2 6=false from rfl];simp only[Bool.false_and,cF,oB,qb3 h.on];unfold Tab.cells;rw[cells_02]; rfl
theorem qpv (h:TabAt S b r T) (m:Nat):∃U,(ev E0 KD (m+1)).f 54 [.ptr b 0] S=some (.ret (qbz [.int .i64 T.qi,.int .i64 T.qb]),U)/\TabAt U b r T/\Grew (fun _=>False) S U:=by
 have h1:=h.grewF (ag_new h.on 26 2 (Tr.ofListFrom .nil [(.int .i64 0),(.int .i64 0)] 0)).2.1;obtain⟨U,s1,s2,s3,s4⟩:=qf2 h.on 26 2 (Tr.ofListFrom .nil [(.int .i64 0),(.int .i64 0)] 0) [.int .i64 T.qi,.int .i64 T.qb] rfl (by decide) big2;have h2:=h.grewF s3;refine⟨U,rd54 ?_,h2,s3⟩;show F54 (ev E0 KD m) qa4 (.ptr b 0) S=_;rw[F54_eq,oB,eq23p,oB,ifK_bool,cF,qc5,oB,qax,oB,Nat.zero_add,h1.quota2,oB];dsimp only;rw[qdz,s1,oB];dsimp only;rw[show Ev.ldrA 2 (.ptr S.next 0) U=some (qbz [.int .i64 T.qi,.int .i64 T.qb],U)from s2.ldA h2.on rfl big2,oB]
theorem set6_1 (a b c d e f v:V):(Tr.ofListFrom .nil [a,b,c,d,e,f] 0).set v 1=Tr.ofListFrom .nil [a,v,c,d,e,f] 0:=by kernel_rfl
theorem ino_set1 (n:Ino) (d:Int):(Tr.ofListFrom .nil n.cells 0).set (.int .i64 d) 1=Tr.ofListFrom .nil {n with mode:=d}.cells 0:=set6_1 ..
theorem TabAt.setMode (h:TabAt S b r T) {i:Int} {p:Nod} (hp:T.get i=some p) (mode:Int):∃U,stP 1 (.ptr p.box 1) (.int .i64 mode) S=some (.tuple [],U)/\TabAt U b r (T.upd i fun n=>{n with mode:=mode})/\Grew (fun x=>x=p.box) S U/\U.next=S.next:=by
 have hb:=h.nd p (qar hp).1;exact⟨_,qoe h.on hb rfl (m:={p.ino with mode:=mode}.cells) rfl (i:=1) (by decide) (ino_set1 _ _) rfl rfl rfl,h.putN hp (fun n=>{n with mode:=mode}) rfl rfl,qan _ _,rfl⟩
def eMode (mode:Int):Int:=if 0<=mode/\mode<=511 then 0 else 2
def qmp (T:Tab) (i:Int):Int:=if(T.get i).isSome then 0 else 5
def qmo (T:Tab) (i mode:Int):Int:=qcf [0,eMode mode,qmp T i]
theorem mode_asks (ho:S.on=false) (m:Nat) {x:Nat} {mode:Int} (hx:Cap S x 3 (.int .i64 mode)):Asks S (m+2) (.fn (.func 74) [] [.ptr x 0]) (eMode mode):=fun U g=>by
 have on1:=g.on.trans ho;refine⟨U,?_,Grew.refl _ _⟩;rw[qct (qci (by decide)) (by kernel_rfl)];refine rd74 ?_;show F74 (ev E0 KD (m+1)) qa4 (.ptr x 0) U=_;have hl:=(hx.grew g).ld on1;rw[F74_eq,hl,oB];dsimp only;rw[geqI,oB];by_cases h1:0<=mode
 . rw[dT h1]
   simp only[gTT,oB,cT];rw[hl,oB];dsimp only;rw[leqI,oB,pickV_bool,cT,oB,qby,callP_ret];by_cases h2:mode<=511
   . rw[dT h2,show eMode mode=0 from iP ⟨h1,h2⟩]; rfl
   . rw[dF h2,show eMode mode=2 from iN (fun q=>h2 q.2)]; rfl
 . rw[dF h1]
   simp only[gTF,oB,cF,pickV_bool];rw[qby,callP_ret,show eMode mode=2 from iN (fun q=>h1 q.1)]; rfl
theorem ne62p (b:Nat):qa6 E0 .neq 62 false true (.ptr b 0) .nilptr=some (.bool true):=by kernel_rfl
theorem ne62n:qa6 E0 .neq 62 false true .nilptr .nilptr=some (.bool false):=by kernel_rfl
theorem known_asks (h:TabAt S b r T) (m:Nat) {x y:Nat} {d:Int} (hx:Cap S x 23 (.ptr b 0)) (hy:Cap S y 3 (.int .i64 d)):Asks S (m+2) (.fn (.func 75) [] [.ptr x 0,.ptr y 0]) (qmp T d):=fun U g=>by
 have h1:=h.grewF g;refine⟨U,?_,Grew.refl _ _⟩;rw[qct (qci (by decide)) (by kernel_rfl)];refine rd75 ?_;show F75 (ev E0 KD (m+1)) qa4 (.ptr x 0) (.ptr y 0) U=_;rw[F75_eq,(hx.grew g).ld h1.on,oB];dsimp only;rw[(hy.grew g).ld h1.on,oB];dsimp only;rw[qhp h1 m d,callP_ret];unfold qmp;cases hg:T.get d with
 | none=>
  unfold qjw;rw[ne62n,oB,qby,callP_ret]; rfl
 | some p=>
  unfold qjw;dsimp only;rw[ne62p,oB,qby,callP_ret]; rfl
theorem chmod_run (h:TabAt S b r T) (m:Nat) (i mode:Int):∃U,(ev E0 KD (m+5)).f 46 [.ptr b 0,.int .i64 i,.int .i64 mode] S=some (.ret (.int .i64 (qmo T i mode)),U)/\TabAt U b r (if qmo T i mode=0 then T.upd i fun n=>{n with mode:=mode}else T)/\Grew (Own b r T) S U:=by
 obtain⟨S1,S2,S3,s1,s2,s3,c1,c2,c3,g3,n3⟩:=qff h.on 23 3 3 (oneP b 0) (qb4 .i64 i) (qb4 .i64 mode);have h3:=h.grewF g3
 have all:AsksAll S3 (m+3) [.fn (.func 27) [.ptr b 0] [],.fn (.func 74) [] [.ptr (S.next+2) 0],.fn (.func 75) [] [.ptr S.next 0,.ptr (S.next+1) 0]] (qmo T i mode):=
  qae (qcc (m+1) b) (qae (mode_asks h3.on (m+1) c3) (qae (known_asks h3 (m+1) c1 c2) qf7))
 obtain⟨R,U,q1,q2,q3,q4⟩:=asked h3.on (m+3) _ (fun v hv=>by
  simp only[List.mem_cons,List.not_mem_nil,or_false]at hv
  rcases hv with rfl|rfl|rfl<;>exact oneF _ _ _) (by show 3<1000000; decide) all
 have hU:=h3.grewF q3;have d1:=c1.grew q3;have d2:=c2.grew q3;have d3:=c3.grew q3
 have head:∀Q,(ifK (.bool (!(qmo T i mode==0))) (
  some (.ret (.int .i64 (qmo T i mode)),U)) (
  (ld1 (.ptr S.next 0) (onS U)).bind fun p19=>
  (qa2 p19.1).bind fun t20=>
  (faP 4 false 1 t20).bind fun t21=>
  (ld1 t21 (onS p19.2)).bind fun p22=>
  (ld1 (.ptr (S.next+1) 0) (onS p22.2)).bind fun p23=>
  (qal E0 66 p22.1 p23.1 false (onS p23.2)).bind fun p24=>
  (ld1 (.ptr (S.next+2) 0) (onS p24.2)).bind fun p25=>
  (qa2 p24.1).bind fun t26=>
  (faP 0 true 4 t26).bind fun t27=>
  (faP 1 false 1 t27).bind fun t28=>
  (stP 1 t28 p25.1 (onS p25.2)).bind fun p29=>
  qgx [(0,[4,6]),(3,[4,6]),(4,[6]),(5,[6])] U [p19.2.log,[],[],p22.2.log,p23.2.log,p24.2.log,p25.2.log,[],[],[],p29.2.log] p29.2 fun S30=>
  some (.ret (.int .i64 0),S30)))=Q->F46 (ev E0 KD (m+4)) qa4 (.ptr b 0) (.int .i64 i) (.int .i64 mode) S=Q:=fun Q hQ=>by
  rw[F46_eq,s1,oB];dsimp only;rw[s2,oB];dsimp only;rw[s3,oB];dsimp only;rw[c1.ld h3.on,oB];dsimp only;rw[show bsP 72 1 3 (Ev.one .nilfn) [(0,(.fn (.func 27) [.ptr b 0] [])),(1,(.fn (.func 74) [] [.ptr (S.next+2) 0])),(2,(.fn (.func 75) [] [.ptr S.next 0,.ptr (S.next+1) 0]))] S3=_ from q1 none,oB];dsimp only;rw[show(ev E0 KD (m+4)).f 26 _ (stt R (Option.map _ none))=_ from q2,callP_ret,neq27,oB];exact hQ
 by_cases he:qmo T i mode=0
 . have hk:qmp T i=0:=qck he _ (by simp)
   cases hp:T.get i with
   | none=>unfold qmp at hk; rw[hp]at hk; cases hk
   | some p=>
    obtain⟨D,u1,u2,u3,u4⟩:=hU.setMode hp mode;obtain⟨lB,u1'⟩:=stP_lg hU.on u1;have ht2:=u2.same (U:=atS D U) rfl rfl rfl;refine⟨atS D U,rd46 (head _ ?_),by rw[iP he]; exact ht2,?_⟩
    . rw[he]
      simp only[beq_self_eq_true,Bool.not_true,ifK_bool,cF];rw[d1.ldL hU.on,oB];dsimp only;rw[qc5,oB,qax,oB,qa1,Nat.zero_add,hU.ldL (v:=.map r) rfl,oB];dsimp only;rw[qa1,d2.ldL hU.on,oB];dsimp only;rw[qa1,qft hU,oB,hp];simp only[qjw];rw[qa1,d3.ldL hU.on,oB];simp only[qc5,qax,oB,Nat.zero_add,qa1];rw[show stP 1 (.ptr p.box 1) (.int .i64 mode) (onS U)=_ from u1',oB];dsimp only;rw[qd6 (by rfl),qfb hU.on]
    . exact(((g3.trans q3).mono fun _ _ h=>h.elim)).trans ((qdm u3 hU.on).mono fun x _ hx=>hx▸qpl hp)
 . refine⟨U,rd46 (head _ ?_),by rw[iN he]; exact hU,(g3.trans q3).mono fun _ _ h=>h.elim⟩
   rw[beq_false_of_ne he]; rfl
end
def qb7 (d:Int):List REnt->List (Bs×Int)
 | []=>[]
 | e::l=>if e.dir=d then(e.name,e.ino)::qb7 d l else qb7 d l
theorem qkz (d:Int):∀(l m:List REnt),qb7 d (l++m)=qb7 d l++qb7 d m
 | [],m=>rfl
 | e::l,m=>by
  show(if e.dir=d then(e.name,e.ino)::qb7 d (l++m)else qb7 d (l++m))=(if e.dir=d then(e.name,e.ino)::qb7 d l else qb7 d l)++qb7 d m;rw[qkz d l m];split<;>rfl
theorem qow (d:Int) (e:REnt):qb7 d [e]=if e.dir=d then [(e.name,e.ino)]else []:=rfl
theorem entsR_mem {d:Int} {x:Bs×Int}:∀{l:List REnt},x∈qb7 d l↔∃e∈l,e.dir=d/\e.name=x.1/\e.ino=x.2
 | []=>by simp[qb7]
 | e::l=>by
  unfold qb7;by_cases h:e.dir=d
  . rw[iP h,List.mem_cons,entsR_mem (l:=l)]
    constructor
    . rintro (rfl|⟨e',h1,h2⟩)
      . exact⟨e,List.mem_cons_self ..,h,rfl,rfl⟩
      . exact⟨e',mO _ h1,h2⟩
    . rintro ⟨e',h1,h2,h3,h4⟩
      rcases List.mem_cons.1 h1 with rfl|h1
      . exact .inl (Prod.ext h3.symm h4.symm)
      . exact .inr ⟨e',h1,h2,h3,h4⟩
  . rw[iN h,entsR_mem (l:=l)]
    constructor
    . rintro ⟨e',h1,h2⟩
      exact⟨e',mO _ h1,h2⟩
    . rintro ⟨e',h1,h2,h3⟩
      rcases List.mem_cons.1 h1 with rfl|h1
      . exact absurd h2 h
      . exact⟨e',h1,h2,h3⟩
theorem entsR_le (d:Int):∀l:List REnt,(qb7 d l).length<=l.length
 | []=>lR _
 | e::l=>by
  unfold qb7;have:=entsR_le d l;rw[List.length_cons];split
  . rw[List.length_cons]; omega
  . omega
theorem isEnt_iff {d:Int} {a:Bs} {e:REnt}:qh1 d a e=true↔e.dir=d/\e.name=a:=by
 unfold qh1;rw[bA,decide_eq_true_eq,beq_iff_eq]
theorem lk_ents (d:Int) (a:Bs):∀l:List REnt,lkS a (qb7 d l)=(l.find? (qh1 d a)).map (·.ino)
 | []=>rfl
 | e::l=>by
  rw[List.find?_cons];unfold qb7;by_cases h:e.dir=d
  . rw[iP h]
    unfold lkS;by_cases h2:a=e.name
    . rw[iP h2,show qh1 d a e=true from isEnt_iff.2 ⟨h,h2.symm⟩]; rfl
    . rw[iN h2,show qh1 d a e=false from by rw[<- Bool.not_eq_true,isEnt_iff]; exact fun q=>h2 q.2.symm]
      exact lk_ents d a l
  . rw[iN h,show qh1 d a e=false from by rw[<- Bool.not_eq_true,isEnt_iff]; exact fun q=>h q.1]
    exact lk_ents d a l
def idxE (d:Int) (a:Bs):List REnt->Nat
 | []=>0
 | e::l=>if qh1 d a e then 0 else idxE d a l+1
theorem findR_idx (d:Int) (a:Bs):∀(l:List REnt) (i:Nat),0<=qg6 d a l i->qg6 d a l i=((i+idxE d a l:Nat):Int)
 | [],i,h=>by unfold qg6 at h; omega
 | e::l,i,h=>by
  unfold qg6 at h ⊢;unfold idxE;cases hb:qh1 d a e with
  | true=>rw[iP rfl,iP rfl]; rfl
  | false=>
   rw[hb,iN Bool.false_ne_true]at h;rw[iN Bool.false_ne_true,iN Bool.false_ne_true,findR_idx d a l (i+1) h]
   congr 1; omega
theorem less_E {R:RT} {d i:Int} {a:Bs} (h:R.find d a=some i):(R.less d a).E=R.E.eraseIdx (idxE d a R.E):=by
 obtain⟨k,hk,k1,_⟩:=qfr h;have:=findR_idx d a R.E 0 (by omega);show R.E.eraseIdx (qg6 d a R.E 0).toNat=_;rw[this,Nat.zero_add]; rfl
theorem erase_ents (d:Int) (a:Bs):∀{l:List REnt} {e0:REnt},l.find? (qh1 d a)=some e0->
 qb7 d (l.eraseIdx (idxE d a l))=qa9 a (qb7 d l)/\(∀x,x≠d->qb7 x (l.eraseIdx (idxE d a l))=qb7 x l)/\(∀x,cntE x l=cntE x (l.eraseIdx (idxE d a l))+if e0.ino=x then 1 else 0)/\(l.eraseIdx (idxE d a l)).length+1=l.length
 | [],_,h=>by cases h
 | e::l,e0,h=>by
  rw[List.find?_cons]at h;unfold idxE;cases hb:qh1 d a e with
  | true=>
   rw[hb]at h;cases h;obtain⟨h1,h2⟩:=isEnt_iff.1 hb;rw[iP rfl,List.eraseIdx_cons_zero];refine⟨?_,fun x hx=>?_,fun x=>?_,rfl⟩
   . show _=qa9 a (if e.dir=d then(e.name,e.ino)::qb7 d l else qb7 d l)
     rw[iP h1];unfold qa9;rw[iP h2.symm]
   . show _=if e.dir=x then(e.name,e.ino)::qb7 x l else qb7 x l
     rw[iN (fun q=>hx (q.symm.trans h1))]
   . rw[qgu]; omega
  | false=>
   rw[hb]at h;obtain⟨h1,h2,h3,h4⟩:=erase_ents d a h;rw[iN Bool.false_ne_true,List.eraseIdx_cons_succ]
   have hn:¬(e.dir=d/\e.name=a):=fun q=>by
    rw[<- isEnt_iff,hb]at q; cases q
   refine⟨?_,fun x hx=>?_,fun x=>?_,by rw[List.length_cons,List.length_cons,h4]⟩
   . show(if e.dir=d then(e.name,e.ino)::qb7 d (l.eraseIdx (idxE d a l))else qb7 d (l.eraseIdx (idxE d a l)))=qa9 a (if e.dir=d then(e.name,e.ino)::qb7 d l else qb7 d l)
     rw[h1];by_cases hd:e.dir=d
     . rw[iP hd,iP hd]
       conv=>rhs; unfold qa9
       rw[iN (fun q=>hn ⟨hd,q.symm⟩)]
     . rw[iN hd,iN hd]
   . show(if e.dir=x then(e.name,e.ino)::qb7 x (l.eraseIdx (idxE d a l))else qb7 x (l.eraseIdx (idxE d a l)))=if e.dir=x then(e.name,e.ino)::qb7 x l else qb7 x l
     rw[h2 x hx]
   . rw[qgu,qgu,h3 x]; omega
theorem cntE_app (x:Int) (l:List REnt) (e:REnt):cntE x (l++[e])=cntE x l+if e.ino=x then 1 else 0:=by
 unfold cntE;rw[List.filter_append,lAq];by_cases h:e.ino=x
 . rw[iP h,List.filter_cons_of_pos (by simpa using h)]; rfl
 . rw[iN h,List.filter_cons_of_neg (by simpa using h)]; rfl
theorem qpb (d:Int):∀(l:List REnt) (out:List Bs),out.Pairwise (·<·)->(out++(qb7 d l).map (·.1)).Nodup->(qmt d l out).Pairwise (·<·)/\(qmt d l out).Perm (out++(qb7 d l).map (·.1))
 | [],out,h1,_=>⟨h1,by unfold qmt qb7; rw[List.map_nil,List.append_nil]⟩
 | e::l,out,h1,h2=>by
  unfold qmt;unfold qb7 at h2 ⊢;by_cases hd:e.dir=d
  . rw[iP hd]at h2 ⊢
    rw[iP hd];rw[List.map_cons]at h2 ⊢;have hp:(insB e.name out++(qb7 d l).map (·.1)).Perm (out++e.name::(qb7 d l).map (·.1)):=((qid e.name out).append_right _).trans List.perm_middle.symm;have hni:e.name∉out:=fun hm=>(List.nodup_append.1 h2).2.2 _ hm _ (List.mem_cons_self ..) rfl;obtain⟨k1,k2⟩:=qpb d l (insB e.name out) (insB_pw h1 hni) (hp.nodup_iff.2 h2);exact⟨k1,k2.trans hp⟩
  . rw[iN hd]at h2 ⊢
    rw[iN hd];exact qpb d l out h1 h2
theorem names_sort {R:RT} {d:Int} (hn:((qb7 d R.E).map (·.1)).Nodup):R.namesR d=qkh ((qb7 d R.E).map (·.1)):=by
 obtain⟨h1,h2⟩:=qpb d R.E [] .nil (by rw[List.nil_append]; exact hn);rw[List.nil_append]at h2;exact List.Perm.eq_of_pairwise (fun a b _ _ h1 h2=>absurd h2 (List.lt_asymm h1)) h1 (sortB_pw hn) (h2.trans (qfk _).symm)
def one1 (x:RIno):Int:=if 0<x.kind then 1 else 0
def one2 (x:RIno):Int:=if 0<x.kind then(x.data.length:Int)else 0
def sum1 (f:RIno->Int):List RIno->Int
 | []=>0
 | x::l=>f x+sum1 f l
theorem usedR_sum:∀(l:List RIno) (q:Int×Int),qiw l q=(q.1+sum1 one1 l,q.2+sum1 one2 l)
 | [],q=>by unfold qiw sum1; simp
 | x::l,q=>by
  unfold qiw;rw[usedR_sum l,show sum1 one1 (x::l)=one1 x+sum1 one1 l from rfl,show sum1 one2 (x::l)=one2 x+sum1 one2 l from rfl];by_cases h:0<x.kind
  . rw[iP h,show one1 x=1 from iP h,show one2 x=(x.data.length:Int)from iP h,pM]
    exact⟨by dsimp only; omega,by dsimp only; omega⟩
  . rw[iN h,show one1 x=0 from iN h,show one2 x=0 from iN h,pM]
    exact⟨by omega,by omega⟩
theorem qnu (R:RT):R.used=(sum1 one1 R.L,sum1 one2 R.L):=by
 unfold RT.used;rw[usedR_sum,pM];exact⟨by dsimp only; omega,by dsimp only; omega⟩
theorem sum1_app (f:RIno->Int) (x:RIno):∀l,sum1 f (l++[x])=sum1 f l+f x
 | []=>by show f x+0=0+f x; omega
 | y::l=>by
  show f y+sum1 f (l++[x])=f y+sum1 f l+f x;rw[sum1_app f x l]; omega
theorem sum1_set (f:RIno->Int) (x:RIno):∀(l:List RIno) (i:Nat) (h:i<l.length),sum1 f (l.set i x)=sum1 f l-f l[i]+f x
 | y::l,0,_=>by
  show f x+sum1 f l=f y+sum1 f l-f y+f x;omega
 | y::l,i+1,h=>by
  have hi:i<l.length:=by simpa using h
  show f y+sum1 f (l.set i x)=f y+sum1 f l-f (l[i]'hi)+f x;rw[sum1_set f x l i hi]; omega
structure Rel (T:Tab) (R:RT):Prop where
 q:T.qi=R.qi/\T.qb=R.qb
 last:T.last=(R.L.length:Int)
 nod:∀i p,T.get i=some p->1<=i/\(∃x,R.L[(i-1).toNat]?=some x/\x.kind=p.ino.kind/\x.mode=p.ino.mode/\x.data=p.ino.data)/\p.ino.ents=qb7 i R.E/\p.ino.links=R.linksR i/\1<=p.ino.kind/\p.ino.kind<=3
 non:∀i,T.get i=none->R.kind i=0/\qb7 i R.E=[]
 used:T.ui=R.used.1/\T.ub=R.used.2
 nam:∀e∈R.E,e.name.length<=56
section
variable {T:Tab} {R:RT} {B:Nat}
theorem Rel.kind (h:Rel T R) {i:Int} {p:Nod} (hp:T.get i=some p):R.kind i=p.ino.kind:=by
 obtain⟨h1,⟨x,x1,x2,_⟩,_⟩:=h.nod i p hp;unfold RT.kind;rw[iP h1,x1];exact x2
theorem Rel.ents (h:Rel T R) (i:Int):(match T.get i with|some p=>p.ino.ents|none=>[])=qb7 i R.E:=by
 cases hg:T.get i with
 | some p=>exact(h.nod i p hg).2.2.1
 | none=>exact(h.non i hg).2.symm
theorem Rel.find (h:Rel T R) (d:Int) (a:Bs):T.find d a=R.find d a:=by
 unfold Tab.find RT.find;rw[<- lk_ents];cases hg:T.get d with
 | some p=>rw[<- (h.nod d p hg).2.2.1]; rfl
 | none=>rw[(h.non d hg).2]; rfl
theorem Rel.dir (h:Rel T R) (d:Int):qf9 T d=R.dirE d:=by
 unfold qf9 RT.dirE;cases hg:T.get d with
 | none=>rw[(h.non d hg).1]; rfl
 | some p=>
  dsimp only;obtain⟨_,_,_,_,k1,_⟩:=h.nod d p hg;rw[h.kind hg,iN (show ¬p.ino.kind=0 by omega)];by_cases hk:p.ino.kind=2
  . rw[iP hk,iN (fun q=>q hk)]
  . rw[iN hk,iP hk]
theorem Rel.file (h:Rel T R) (d:Int):qk1 T d=R.fileE d:=by
 unfold qk1 RT.fileE;cases hg:T.get d with
 | none=>rw[(h.non d hg).1]; rfl
 | some p=>
  dsimp only;obtain⟨_,_,_,_,k1,k2⟩:=h.nod d p hg;rw[h.kind hg,iN (show ¬p.ino.kind=0 by omega)];by_cases hk:p.ino.kind=2
  . rw[iP hk,iP hk]
  . rw[iN hk,iN hk]
    by_cases h1:p.ino.kind=1
    . rw[iP h1,iN (by omega)]
    . rw[iN h1,iP (by omega)]
theorem Rel.free (h:Rel T R) (d:Int) (a:Bs):qkx T d a=R.freeE d a:=by
 unfold qkx RT.freeE;rw[h.find]
theorem Rel.entry (h:Rel T R) (d:Int) (a:Bs):qdr T d a=if(R.find d a).isSome then 0 else 5:=by
 unfold qdr;rw[h.find]
theorem Rel.place (h:Rel T R) (d:Int) (a:Bs):R.placeE d a=if qf9 T d=0 then qcw a else qf9 T d:=by
 unfold RT.placeE;rw[h.dir]
theorem Rel.room (h:Rel T R) (n k:Int):eRoom T n k=R.roomE n k:=by
 unfold eRoom RT.roomE RT.roomB;rw[h.used.1,h.used.2,h.q.1,h.q.2];by_cases h1:R.used.1+n<=R.qi
 . by_cases h2:R.used.2+k<=R.qb
   . rw[iP ⟨h1,h2⟩,dT h1,dT h2]; rfl
   . rw[iN (fun q=>h2 q.2),dT h1,dF h2]; rfl
 . rw[iN (fun q=>h1 q.1),dF h1]; rfl
theorem Rel.names (h:Rel T R) (hs:Sd T B) (i:Int):T.names i=R.namesR i:=by
 have hn:((qb7 i R.E).map (·.1)).Nodup:=by
  rw[<- h.ents i];cases hg:T.get i with
  | some p=>exact hs.nod i p hg
  | none=>exact .nil
 rw[names_sort hn,<- h.ents i];unfold Tab.names;cases hg:T.get i with
 | some p=>rfl
 | none=>rfl
theorem upR_mem {d:Int}:∀{l:List REnt},(∃e∈l,e.ino=d/\upR d l=e.dir)\/((∀e∈l,e.ino≠d)/\upR d l=1)
 | []=>.inr ⟨(fun _ h=>by cases h),rfl⟩
 | e::l=>by
  unfold upR;by_cases h:e.ino=d
  . rw[iP h]; exact .inl ⟨e,List.mem_cons_self ..,h,rfl⟩
  . rw[iN h]
    rcases upR_mem (l:=l) (d:=d)with⟨e',h1,h2⟩|⟨h1,h2⟩
    . exact .inl ⟨e',mO _ h1,h2⟩
    . refine .inr ⟨fun x hx=>?_,h2⟩
      rcases List.mem_cons.1 hx with rfl|hx
      . exact h
      . exact h1 x hx
theorem Rel.entry_in (h:Rel T R) (hs:Sd T B) {e:REnt} (he:e∈R.E):e.ino≠1/\∃p q,T.get e.dir=some p/\T.get e.ino=some q/\(q.ino.kind=2->q.ino.up=e.dir):=by
 have hm:(e.name,e.ino)∈qb7 e.dir R.E:=entsR_mem.2 ⟨e,he,rfl,rfl,rfl⟩;cases hg:T.get e.dir with
 | none=>rw[(h.non _ hg).2]at hm; cases hm
 | some p=>
  rw[<- (h.nod _ p hg).2.2.1]at hm;obtain⟨h1,q,h2,h3⟩:=hs.ent _ p hg _ hm;exact⟨h1,p,q,rfl,h2,h3⟩
theorem cntE_pos {i:Int}:∀{l:List REnt},0<cntE i l->∃e∈l,e.ino=i
 | [],h=>by cases h
 | e::l,h=>by
  rw[qgu]at h;by_cases hc:e.ino=i
  . exact⟨e,List.mem_cons_self ..,hc⟩
  . rw[iN hc,Nat.zero_add]at h
    obtain⟨e',h1,h2⟩:=cntE_pos h;exact⟨e',mO _ h1,h2⟩
theorem Rel.up (h:Rel T R) (hs:Sd T B) (i:Int):(match T.get i with|some p=>p.ino.up|none=>0)=R.up i:=by
 unfold RT.up;cases hg:T.get i with
 | none=>rw[(h.non i hg).1]; rfl
 | some p=>
  dsimp only;rw[h.kind hg];by_cases hk:p.ino.kind=2
  . rw[iP hk]
    rcases upR_mem (l:=R.E) (d:=i)with⟨e,h1,h2,h3⟩|⟨h1,h2⟩
    . obtain⟨_,p',q,g1,g2,g3⟩:=h.entry_in hs h1
      rw[h2,hg]at g2; cases g2;rw[h3]; exact g3 hk
    . rw[h2]
      by_cases hi:i=1
      . subst hi
        obtain⟨r,r1,_,r3⟩:=hs.root;rw[hg]at r1; cases r1;exact r3
      . have hl:=hs.one i p hg hk hi
        have hl2:=(h.nod i p hg).2.2.2.1;unfold RT.linksR at hl2;rw[iN hi,hl]at hl2;obtain⟨e,e1,e2⟩:=cntE_pos (i:=i) (l:=R.E) (by omega);exact absurd e2 (h1 e e1)
  . rw[iN hk]
    exact(hs.fil i p hg hk).2
theorem Rel.node (h:Rel T R) (i:Int):R.node i=match T.get i with
 | some p=>(qbz [.int .i64 p.ino.kind,.int .i64 p.ino.mode,sv p.ino.data,.int .i64 p.ino.links],true)
 | none=>(qbz [.int .i64 0,.int .i64 0,sv [],.int .i64 0],false):=by
 unfold RT.node;cases hg:T.get i with
 | none=>rw[iP (h.non i hg).1]; rfl
 | some p=>
  obtain⟨_,⟨x,x1,x2,x3,x4⟩,_,hl,k1,_⟩:=h.nod i p hg;rw[iN (by rw[h.kind hg]; omega),x1];dsimp only;rw[x2,x3,x4,hl];rfl
end
structure Okp (T:Tab) (R:RT) (k:Nat):Prop where
 sd:Sd T (2^k-1)
 rel:Rel T R
 lenL:R.L.length<=1+k
 lenE:R.E.length<=k
 short:∀x∈R.L,x.data.length<=300
 qs:R.qi<=1048576/\R.qb<=1073741824
structure Pft (S U:St) (b r:Nat) (T T':Tab) (R':RT) (k:Nat):Prop where
 tab:TabAt U b r T'
 ok:Okp T' R' (k+1)
 gr:Grew (Own b r T) S U
 own:∀x,Own b r T' x->Own b r T x\/S.next<=x
section
variable {S U:St} {b r:Nat} {T:Tab} {R:RT} {k:Nat}
theorem pow_le (k:Nat):2^k-1<=2^(k+1)-1:=by
 have:=pow_step k;omega
theorem Okp.mono (h:Okp T R k):Okp T R (k+1):=⟨h.sd.mono (pow_le k),h.rel,by have:=h.lenL; omega,by have:=h.lenE; omega,h.short,h.qs⟩
theorem Pft.none (h:TabAt U b r T) (ok:Okp T R k) (g:Grew (Own b r T) S U):Pft S U b r T T R k:=⟨h,ok.mono,g,fun _ h=>.inl h⟩
theorem Okp.fw (h:Okp T R k) (hk:k<=60):Fw R:=⟨by have:=h.lenL; omega,by have:=h.lenE; omega⟩
theorem Okp.shortI (h:Okp T R k):qkm R.L:=fun x hx=>by have:=h.short x hx; omega
theorem Okp.usedB (h:Okp T R k) (hk:k<=60):0<=T.ui/\T.ui<=1000/\0<=T.ub/\T.ub<=1000000:=by
 have:=used_bound (h.fw hk) h.shortI;rw[h.rel.used.1,h.rel.used.2]; exact this
theorem Okp.fits (h:Okp T R k) (hk:k<=60):Fits T:=by
 have:=h.usedB hk;exact⟨by unfold qaj; omega,by unfold qaj; omega⟩
theorem Okp.data (h:Okp T R k) {i:Int} {p:Nod} (hp:T.get i=some p):p.ino.data.length<=300/\R.dataOf i=p.ino.data:=by
 obtain⟨_,⟨x,x1,x2,x3,x4⟩,_⟩:=h.rel.nod i p hp;refine⟨by rw[<- x4]; exact h.short x (List.mem_of_getElem? x1),?_⟩;unfold RT.dataOf;rw[x1]; exact x4
theorem Okp.entsL (h:Okp T R k) {i:Int} {p:Nod} (hp:T.get i=some p):p.ino.ents.length<=k:=by
 rw[(h.rel.nod i p hp).2.2.1];exact Nat.le_trans (entsR_le _ _) h.lenE
theorem Okp.linksB (h:Okp T R k) (hk:k<=60) {i:Int} {p:Nod} (hp:T.get i=some p):0<=p.ino.links/\p.ino.links<=1000:=by
 rw[(h.rel.nod i p hp).2.2.2.1];unfold RT.linksR;have h1:=cntE_le i R.E;have h2:=h.lenE;split<;>omega
theorem Okp.lastB (h:Okp T R k):0<=T.last/\T.last<=1+k:=by
 rw[h.rel.last];have:=h.lenL;omega
theorem Okp.new (ok:Okp T R k):T.get (T.last+1)=none:=by
 cases hg:T.get (T.last+1)with
 | none=>rfl
 | some q=>
  have:=(ok.sd.lo _ q hg).2;omega
theorem RT.upd_get {R:RT} {i:Int} {f:RIno->RIno} (j:Nat):(R.upd i f).L[j]?=if j=(i-1).toNat then(R.L[j]?).map f else R.L[j]?:=by
 unfold RT.upd;cases hx:R.L[(i-1).toNat]? with
 | none=>
  dsimp only;by_cases hj:j=(i-1).toNat
  . rw[iP hj,hj,hx]; rfl
  . rw[iN hj]
 | some x=>
  dsimp only;obtain⟨hl,hx'⟩:=List.getElem?_eq_some_iff.1 hx;by_cases hj:j=(i-1).toNat
  . rw[iP hj,hj,List.getElem?_set_self hl,hx]; rfl
  . rw[iN hj,List.getElem?_set_ne (fun e=>hj e.symm)]
theorem RT.upd_E {R:RT} {i:Int} {f:RIno->RIno}:(R.upd i f).E=R.E/\(R.upd i f).qi=R.qi/\(R.upd i f).qb=R.qb/\(R.upd i f).L.length=R.L.length:=by
 unfold RT.upd;cases R.L[(i-1).toNat]? with
 | none=>exact⟨rfl,rfl,rfl,rfl⟩
 | some x=>exact⟨rfl,rfl,rfl,List.length_set ..⟩
theorem RT.upd_kind {R:RT} {i:Int} {f:RIno->RIno} (hf:∀x,(f x).kind=x.kind) (j:Int):(R.upd i f).kind j=R.kind j:=by
 unfold RT.kind;by_cases h1:1<=j
 . rw[iP h1,iP h1,RT.upd_get]
   by_cases hj:(j-1).toNat=(i-1).toNat
   . rw[iP hj]
     cases R.L[(j-1).toNat]? with
     | none=>rfl
     | some x=>exact hf x
   . rw[iN hj]
 . rw[iN h1,iN h1]
theorem Rel.turn (h:Rel T R) {i:Int} {p:Nod} (hp:T.get i=some p) {f:Ino->Ino} {g:RIno->RIno} (hgk:∀x,(g x).kind=x.kind) (hk:∀n,(f n).kind=n.kind) (he:∀n,(f n).ents=n.ents) (hl:∀n,(f n).links=n.links)
 (hm:∀n x,x.mode=n.mode->(g x).mode=(f n).mode) (hd:∀n x,x.data=n.data->(g x).data=(f n).data) {ub':Int} (hu:T.ui=(R.upd i g).used.1/\ub'=(R.upd i g).used.2):Rel ({T with ub:=ub'}.upd i f) (R.upd i g):=by
 obtain⟨e1,e2,e3,e4⟩:=RT.upd_E (R:=R) (i:=i) (f:=g);obtain⟨hi1,_⟩:=h.nod i p hp;have hget:∀j,(({T with ub:=ub'}:Tab).upd i f).get j=(T.get j).map fun q=>if j=i then{q with ino:=f q.ino}else q:=fun j=>qap {T with ub:=ub'} i f j
 refine⟨⟨h.q.1.trans e2.symm,h.q.2.trans e3.symm⟩,h.last.trans (by rw[e4]),fun j q' hq=>?_,fun j hj=>?_,hu,by rw[e1]; exact h.nam⟩
 . rw[hget,Option.map_eq_some_iff]at hq
   obtain⟨q,hq,rfl⟩:=hq;obtain⟨k1,⟨x,x1,x2,x3,x4⟩,k3,k4,k5,k6⟩:=h.nod j q hq;have hlr:(R.upd i g).linksR j=R.linksR j:=by unfold RT.linksR; rw[e1]
   by_cases hj:j=i
   . subst hj
     rw[iP rfl];exact⟨k1,⟨g x,by rw[RT.upd_get,iP rfl,x1]; rfl,by rw[hgk]; exact x2.trans (hk _).symm,hm _ _ x3,hd _ _ x4⟩,by rw[e1]; exact(he _).trans k3,by rw[hlr]; exact(hl _).trans k4,by show 1<=(f q.ino).kind; rw[hk]; exact k5,by show(f q.ino).kind<=3; rw[hk]; exact k6⟩
   . rw[iN hj]
     have hne:(j-1).toNat≠(i-1).toNat:=by omega
     exact⟨k1,⟨x,by rw[RT.upd_get,iN hne]; exact x1,x2,x3,x4⟩,by rw[e1]; exact k3,by rw[hlr]; exact k4,k5,k6⟩
 . rw[hget,Option.map_eq_none_iff]at hj
   rw[e1,RT.upd_kind hgk];exact h.non j hj
theorem upd_used {R:RT} {i:Int} {g:RIno->RIno} {x:RIno} (hx:R.L[(i-1).toNat]?=some x):(R.upd i g).used=(R.used.1-one1 x+one1 (g x),R.used.2-one2 x+one2 (g x)):=by
 obtain⟨hl,hx'⟩:=List.getElem?_eq_some_iff.1 hx;rw[RT.upd_at hl,qnu,qnu];dsimp only;rw[sum1_set one1 _ _ _ hl,sum1_set one2 _ _ _ hl,hx']
theorem qqd {R:RT} {i:Int} {g:RIno->RIno} (h:∀x∈R.L,x.data.length<=300) (hg:∀x,x.data.length<=300->(g x).data.length<=300):∀x∈(R.upd i g).L,x.data.length<=300:=fun x hx=>by
 obtain⟨j,hj⟩:=List.mem_iff_getElem?.1 hx;rw[RT.upd_get]at hj;split at hj
 . rw[Option.map_eq_some_iff]at hj
   obtain⟨y,hy,rfl⟩:=hj;exact hg y (h y (List.mem_of_getElem? hy))
 . exact h x (List.mem_of_getElem? hj)
theorem Rel.chmodE (h:Rel T R) (i mode:Int):qmo T i mode=R.chmodE i mode:=by
 unfold qmo RT.chmodE eMode qmp;by_cases hm:0<=mode/\mode<=511
 . rw[iP hm,iP hm]
   cases hg:T.get i with
   | none=>rw[(h.non i hg).1]; rfl
   | some p=>rw[h.kind hg,iN (show ¬p.ino.kind=0 by have:=(h.nod i p hg).2.2.2.2.1; omega)]; rfl
 . rw[iN hm,iN hm]; rfl
theorem p_chmod (h:TabAt S b r T) (ok:Okp T R k) (m:Nat) (i mode:Int):∃U T',(ev E0 KD (m+5)).f 46 [.ptr b 0,.int .i64 i,.int .i64 mode] S=some (.ret (.int .i64 (R.chmodE i mode)),U)/\Pft S U b r T T' (R.chmod i mode) k:=by
 obtain⟨U,u1,u2,u3⟩:=chmod_run h m i mode;rw[ok.rel.chmodE]at u1 u2;refine⟨U,_,u1,u2,?_,u3,fun x hx=>.inl ?_⟩
 . unfold RT.chmod
   by_cases he:R.chmodE i mode=0
   . rw[iP he,iP he]
     have he':=he;rw[<- ok.rel.chmodE]at he';have hk:qmp T i=0:=qck he' _ (by simp);cases hp:T.get i with
     | none=>unfold qmp at hk; rw[hp]at hk; cases hk
     | some p=>
      obtain⟨e1,e2,e3,e4⟩:=RT.upd_E (R:=R) (i:=i) (f:=fun x=>{x with mode:=mode});obtain⟨_,⟨x,x1,x2,x3,x4⟩,_⟩:=ok.rel.nod i p hp;have hu:=upd_used (g:=fun x=>{x with mode:=mode}) x1;have o1:one1 ({x with mode:=mode}:RIno)=one1 x:=rfl;have o2:one2 ({x with mode:=mode}:RIno)=one2 x:=rfl;refine⟨(ok.sd.turn hp (f:=fun n=>{n with mode:=mode}) (fun _=>rfl) (fun _=>rfl) (fun _=>rfl) (fun _=>rfl) (fun _=>rfl)).mono (pow_le k),?_,by rw[e4]; have:=ok.lenL; omega,by rw[e1]; have:=ok.lenE; omega,qqd ok.short (fun x hx=>hx),by rw[e2,e3]; exact ok.qs⟩;refine ok.rel.turn (ub':=T.ub) (f:=fun n=>{n with mode:=mode}) (g:=fun x=>{x with mode:=mode}) hp (fun _=>rfl) (fun _=>rfl) (fun _=>rfl) (fun _=>rfl) (fun _ _ _=>rfl) (fun _ _ h=>h) ?_;rw[hu,o1,o2,ok.rel.used.1,ok.rel.used.2];exact⟨by dsimp only; omega,by dsimp only; omega⟩
   . rw[iN he,iN he]; exact ok.mono
 . split at hx
   . exact qfy (T:=T) (i:=i) (f:=fun n=>{n with mode:=mode}) (fun _=>rfl) hx
   . exact hx
theorem Okp.writeE (ok:Okp T R k) (i:Int) (data:Bs):qgw T i data=R.writeE i data:=by
 unfold qgw RT.writeE;rw[<- ok.rel.file];cases hg:T.get i with
 | none=>
  have:qk1 T i=5:=by unfold qk1; rw[hg]
  rw[this]; rfl
 | some p=>
  dsimp only;rw[ok.rel.room,(ok.data hg).2];unfold qcf qcf qcf qcf;rw[iP rfl];by_cases h0:qk1 T i=0
  . rw[iP h0,iP h0]
    by_cases h1:R.roomE 0 ((data.length:Int)-(p.ino.data.length:Int))=0
    . rw[iP h1,h1]
    . rw[iN h1]
  . rw[iN h0,iN h0]
theorem p_write (h:TabAt S b r T) (ok:Okp T R k) (hk:k<=60) (m:Nat) (i:Int) (data:Bs) (hd:data.length<=300):∃U T',(ev E0 KD (m+5)).f 10 [.ptr b 0,.int .i64 i,sv data] S=some (.ret (.int .i64 (R.writeE i data)),U)/\Pft S U b r T T' (R.write i data) k:=by
 have hF:=ok.fits hk;have hub:=ok.usedB hk;by_cases he:qgw T i data=0
 . have he':=he
   unfold qgw at he';cases hp:T.get i with
   | none=>rw[hp]at he'; cases he'
   | some p=>
    rw[hp]at he';have z:=qck he';have z1:=z (qk1 T i) (by simp);obtain⟨q,hq,hqk⟩:=eFile_zero z1;rw[hp]at hq; cases hq;have hpd:=(ok.data hp).1;obtain⟨U,u1,u2,u3⟩:=write_ok h hF m i data hp (by omega) (by omega) (by omega) he;have he2:R.writeE i data=0:=by rw[<- ok.writeE]; exact he
    refine⟨U,_,by rw[he2]; exact u1,u2,?_,u3,fun x hx=>.inl (qfy (T:=T) (i:=i) (f:=fun n=>{n with data:=data}) (fun _=>rfl) hx)⟩;unfold RT.write;rw[iP he2];obtain⟨e1,e2,e3,e4⟩:=RT.upd_E (R:=R) (i:=i) (f:=fun x=>{x with data:=data});obtain⟨_,⟨x,x1,x2,x3,x4⟩,_⟩:=ok.rel.nod i p hp;have hu:=upd_used (g:=fun x=>{x with data:=data}) x1;have hxk:0<x.kind:=by rw[x2,hqk]; omega
    have o1:one1 ({x with data:=data}:RIno)=one1 x:=rfl;have o2:one2 ({x with data:=data}:RIno)=(data.length:Int):=iP hxk;have o3:one2 x=(x.data.length:Int):=iP hxk;refine⟨((ok.sd.nums (T':={T with ub:=T.ub+((data.length:Int)-(p.ino.data.length:Int))}) rfl (Int.le_refl _)).turn (T:={T with ub:=T.ub+((data.length:Int)-(p.ino.data.length:Int))}) hp (f:=fun n=>{n with data:=data}) (fun _=>rfl) (fun _=>rfl) (fun _=>rfl) (fun _=>rfl) (fun _=>rfl)).mono (pow_le k),?_,by rw[e4]; have:=ok.lenL; omega,by rw[e1]; have:=ok.lenE; omega,qqd ok.short (fun x hx=>hd),by rw[e2,e3]; exact ok.qs⟩;refine ok.rel.turn (f:=fun n=>{n with data:=data}) (g:=fun x=>{x with data:=data}) hp (fun _=>rfl) (fun _=>rfl) (fun _=>rfl) (fun _=>rfl) (fun _ _ h=>h) (fun _ _ _=>rfl) ?_;rw[hu,o1,o2,o3,ok.rel.used.1,ok.rel.used.2,x4];exact⟨by dsimp only; omega,by dsimp only; omega⟩
 . obtain⟨U,u1,u2,u3⟩:=write_err h hF m i data (by omega) (fun p hp=>by have:=(ok.data hp).1; omega) he
   rw[ok.writeE]at u1 he;refine⟨U,T,u1,?_⟩;unfold RT.write;rw[iN he];exact .none u2 ok (u3.mono fun _ _ h=>h.elim)
theorem Rel.placeC (h:Rel T R) (d:Int) (a:Bs) (l:List Int):qcf (0::qf9 T d::qcw a::l)=qcf (R.placeE d a::l):=by
 rw[h.place];show(if(0:Int)=0 then(if qf9 T d=0 then(if qcw a=0 then qcf l else qcw a)else qf9 T d)else 0)=if(if qf9 T d=0 then qcw a else qf9 T d)=0 then qcf l else(if qf9 T d=0 then qcw a else qf9 T d)
 rw[iP rfl];by_cases h0:qf9 T d=0
 . rw[iP h0,iP h0]
 . rw[iN h0,iN h0,iN h0]
theorem Rel.linkE (h:Rel T R) (d i:Int) (a:Bs):eLink T d a i=R.linkE d a i:=by
 unfold eLink RT.linkE;rw[h.placeC,h.file,h.free]
theorem qfv {a:Bs} (h:qcw a=0):a.length<=56:=by
 unfold qcw at h;by_cases hl:56<a.length
 . rw[iP hl]at h; cases h
 . omega
theorem qk7 {R:RT} {e:REnt} (he:e.ino≠1) (j:Int):({R with E:=R.E++[e]}:RT).linksR j=R.linksR j+if j=e.ino then 1 else 0:=by
 unfold RT.linksR;by_cases hj:j=1
 . rw[iP hj,iP hj,iN (fun q=>he (q.symm.trans hj))]; rfl
 . rw[iN hj,iN hj]
   show((cntE j (R.E++[e]):Nat):Int)=_;rw[cntE_app];by_cases h:e.ino=j
   . rw[iP h,iP h.symm]; omega
   . rw[iN h,iN (fun q=>h q.symm)]; omega
theorem Rel.linked (h:Rel T R) {d i:Int} {p q:Nod} (hp:T.get d=some p) (hq:T.get i=some q) (hdi:d≠i) (hi1:i≠1) {a:Bs} (ha:lkS a p.ino.ents=none) (hl:a.length<=56):Rel ((T.upd d (qbj (qb1 a i p.ino.ents))).upd i (addL 1)) {R with E:=R.E++[⟨d,a,i⟩]}:=by
 have hget:=qm2 hp hq hdi (qb1 a i p.ino.ents) 1;have hlr:=qk7 (R:=R) (e:=⟨d,a,i⟩) hi1;have hent:∀j,qb7 j (R.E++[⟨d,a,i⟩])=qb7 j R.E++if d=j then [(a,i)]else []:=fun j=>by rw[qkz,qow]
 refine⟨h.q,h.last,fun j q' hj=>?_,fun j hj=>?_,h.used,fun e he=>?_⟩
 . rw[hget]at hj
   by_cases h1:j=d
   . subst h1
     rw[iP rfl]at hj;cases hj;obtain⟨k1,k2,k3,k4,k5⟩:=h.nod j p hp;refine⟨k1,k2,?_,?_,k5⟩
     . show qb1 a i p.ino.ents=qb7 j (R.E++[⟨j,a,i⟩])
       rw[hent,iP rfl,qhd _ _ _ ha,k3]
     . rw[hlr,iN hdi]
       show p.ino.links=_;rw[k4]; omega
   . rw[iN h1]at hj
     by_cases h2:j=i
     . subst h2
       rw[iP rfl]at hj;cases hj;obtain⟨k1,k2,k3,k4,k5⟩:=h.nod j q hq;refine⟨k1,k2,?_,?_,k5⟩
       . show q.ino.ents=qb7 j (R.E++[⟨d,a,j⟩])
         rw[hent,iN (fun e=>h1 e.symm),List.append_nil]; exact k3
       . rw[hlr,iP rfl]
         show q.ino.links+1=_;rw[k4]
     . rw[iN h2]at hj
       obtain⟨k1,k2,k3,k4,k5⟩:=h.nod j q' hj;refine⟨k1,k2,?_,?_,k5⟩
       . show q'.ino.ents=qb7 j (R.E++[⟨d,a,i⟩])
         rw[hent,iN (fun e=>h1 e.symm),List.append_nil]; exact k3
       . rw[hlr,iN h2,k4]; omega
 . rw[hget]at hj
   by_cases h1:j=d
   . rw[iP h1]at hj; cases hj
   . rw[iN h1]at hj
     by_cases h2:j=i
     . rw[iP h2]at hj; cases hj
     . rw[iN h2]at hj
       obtain⟨k1,k2⟩:=h.non j hj;refine⟨k1,?_⟩;show qb7 j (R.E++[⟨d,a,i⟩])=[]
       rw[hent,iN (fun e=>h1 e.symm),List.append_nil]; exact k2
 . rcases List.mem_append.1 he with he|he
   . exact h.nam e he
   . rw[List.mem_singleton]at he
     subst he; exact hl
theorem p_link (h:TabAt S b r T) (ok:Okp T R k) (hk:k<=60) (m:Nat) (d i:Int) (a:Bs) (ha:a.length<9223372036854775808):∃U T',(ev E0 KD (m+5)).f 9 [.ptr b 0,.int .i64 d,sv a,.int .i64 i] S=some (.ret (.int .i64 (R.linkE d a i)),U)/\Pft S U b r T T' (R.link d a i) k:=by
 by_cases he:eLink T d a i=0
 . have z:=qck he
   have z1:=z (qf9 T d) (by simp);have z2:=z (qk1 T i) (by simp);have z3:=z (qkx T d a) (by simp);have z4:=z (qcw a) (by simp);obtain⟨p,hp,hpk⟩:=qgv z1;obtain⟨mp,hm⟩:=qon ok.sd hp hpk;obtain⟨q,hq,hqk⟩:=eFile_zero z2
   have hdi:d≠i:=fun e=>by
    subst e;rw[hp]at hq; cases hq;omega
   have hi1:i≠1:=fun e=>by
    subst e;obtain⟨r,r1,r2,_⟩:=ok.sd.root;rw[hq]at r1; cases r1;omega
   have hn:=ok.linksB hk hq;obtain⟨U,u1,u2,u3⟩:=link_ok h m d i a ha he hp hm hq hdi (by unfold qaj; omega);have he2:R.linkE d a i=0:=by rw[<- ok.rel.linkE]; exact he
   refine⟨U,_,by rw[he2]; exact u1,u2,?_,u3,fun x hx=>.inl (qfy (i:=d) (f:=qbj (qb1 a i p.ino.ents)) (fun _=>rfl) (qfy (i:=i) (f:=addL 1) (fun _=>rfl) hx))⟩;unfold RT.link;rw[iP he2];have hnone:=qlz z3 hp;exact⟨(ok.sd.link hp hpk hq (by omega) hnone).mono (pow_le k),ok.rel.linked hp hq hdi hi1 hnone (qfv z4),by have:=ok.lenL; show R.L.length<=_; omega,by have:=ok.lenE; show(R.E++[_]).length<=_; rw[lAq]; simp; omega,ok.short,ok.qs⟩
 . obtain⟨U,u1,u2,u3⟩:=link_err h m d i a ha he
   rw[ok.rel.linkE]at u1 he;refine⟨U,T,u1,?_⟩;unfold RT.link;rw[iN he];exact .none u2 ok u3
end
end Go.Proofs.Ytbihlgcdnhoknaa.W
