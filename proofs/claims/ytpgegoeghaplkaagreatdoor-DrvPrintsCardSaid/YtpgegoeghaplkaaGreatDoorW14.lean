/-
  WHAT THE FUNCTIONS COME TO: each is read by the evaluator,printed,and told as a function of data,part 14 of 15 (no condition).
-/
import Derived.Test.YtpgegoeghaplkaaGreatDoorW13
namespace Go.Proofs.YtpgegoeghaplkaaGreatDoor.W
open Go.Proofs.YtpgegoeghaplkaaGreatDoor.Ev Go.RowKit
theorem qls (sum:Bs):∀(a d i:Nat),refH sum (d+a) i=refH sum a i++refH sum d (i+a)
 | 0,d,i=>rfl
 | a+1,d,i=>by
  show qhu _::refH sum (d+a) (i+1)=qhu _::(refH sum a (i+1)++_);rw[qls sum a d (i+1),show i+(a+1)=i+1+a by omega]
theorem bit_at (sum:Bs) (c t:Nat):bitN sum (40*c+t)=(sum.getD (5*c+t/8) 0).toNat/2^(7-t%8)%2:=by
 unfold bitN;rw[show(40*c+t)/8=5*c+t/8 by omega,show(40*c+t)%8=t%8 by omega]
theorem nb_at (sum:Bs) (c j:Nat):nbF sum (8*c+j) 5 0 0=16*bitN sum (40*c+5*j)+8*bitN sum (40*c+(5*j+1))+4*bitN sum (40*c+(5*j+2))+2*bitN sum (40*c+(5*j+3))+bitN sum (40*c+(5*j+4)):=by
 simp only[nbF];rw[show 5*(8*c+j)+0=40*c+5*j by omega,show 5*(8*c+j)+(0+1)=40*c+(5*j+1) by omega,show 5*(8*c+j)+(0+1+1)=40*c+(5*j+2) by omega,show 5*(8*c+j)+(0+1+1+1)=40*c+(5*j+3) by omega,show 5*(8*c+j)+(0+1+1+1+1)=40*c+(5*j+4) by omega];omega
theorem hout_five (sum:Bs) (d i:Nat):hout sum (d+5) i 0 0 =
 let e0:=(sum.getD i 0).toNat; let e1:=(sum.getD (i+1) 0).toNat; let e2:=(sum.getD (i+1+1) 0).toNat; let e3:=(sum.getD (i+1+1+1) 0).toNat; let e4:=(sum.getD (i+1+1+1+1) 0).toNat
 let h1:=0*256+e0; let h2:=h1%8*256+e1; let h3:=h2%2*256+e2; let h4:=h3%16*256+e3; let h5:=h4%4*256+e4
 [qhu (h1/8%32),qhu (h2/64%32),qhu (h2/2%32),qhu (h3/16%32),qhu (h4/128%32),qhu (h4/4%32),qhu (h5/32%32),qhu (h5/1%32)]++hout sum d (i+5) 0 (h5%1):=rfl
theorem cyc (sum:Bs) (c d:Nat):hout sum (d+5) (5*c) 0 0=refH sum 8 (8*c)++hout sum d (5*(c+1)) 0 0:=by
 rw[hout_five];dsimp only;have hz:∀x:Nat,x%1=0:=fun x=>Nat.mod_one x;rw[hz,show 5*c+5=5*(c+1) by omega]
 congr 1
 have r8:refH sum 8 (8*c)=[qhu (nbF sum (8*c+0) 5 0 0),qhu (nbF sum (8*c+1) 5 0 0),qhu (nbF sum (8*c+2) 5 0 0),qhu (nbF sum (8*c+3) 5 0 0),qhu (nbF sum (8*c+4) 5 0 0),qhu (nbF sum (8*c+5) 5 0 0),qhu (nbF sum (8*c+6) 5 0 0),qhu (nbF sum (8*c+7) 5 0 0)]:=rfl;rw[r8,nb_at sum c 0,nb_at sum c 1,nb_at sum c 2,nb_at sum c 3,nb_at sum c 4,nb_at sum c 5,nb_at sum c 6,nb_at sum c 7];have b0:bitN sum (40*c)=(sum.getD (5*c) 0).toNat/128%2:=bit_at sum c 0;simp only[b0,bit_at,Nat.mul_zero,Nat.zero_add,Nat.add_zero,Nat.reduceMul,Nat.reduceAdd,Nat.reduceDiv,Nat.reduceMod,Nat.reduceSub,Nat.reducePow,Nat.add_assoc,Nat.zero_mul,Nat.div_one];have g0:=(sum.getD (5*c) 0).toNat_lt;have g1:=(sum.getD (5*c+1) 0).toNat_lt;have g2:=(sum.getD (5*c+2) 0).toNat_lt;have g3:=(sum.getD (5*c+3) 0).toNat_lt;have g4:=(sum.getD (5*c+4) 0).toNat_lt;generalize (sum.getD (5*c) 0).toNat=e0 at g0 ⊢;generalize (sum.getD (5*c+1) 0).toNat=e1 at g1 ⊢;generalize (sum.getD (5*c+2) 0).toNat=e2 at g2 ⊢;generalize (sum.getD (5*c+3) 0).toNat=e3 at g3 ⊢;generalize (sum.getD (5*c+4) 0).toNat=e4 at g4 ⊢
 congr 1
 . congr 1; omega
 congr 1
 . congr 1; omega
 congr 1
 . congr 1; omega
 congr 1
 . congr 1; omega
 congr 1
 . congr 1; omega
 congr 1
 . congr 1; omega
 congr 1
 . congr 1; omega
 congr 1
 . congr 1; omega
theorem hash_eq (sum:Bs):hout sum 20 0 0 0=refH sum 32 0:=by
 have h1:=cyc sum 0 15;have h2:=cyc sum 1 10;have h3:=cyc sum 2 5;have h4:=cyc sum 3 0
 have e:refH sum 32 0=refH sum 8 0++(refH sum 8 8++(refH sum 8 16++(refH sum 8 24++[]))):=by
  rw[show(32:Nat)=24+8 from rfl,qls,show(24:Nat)=16+8 from rfl,qls,show(16:Nat)=8+8 from rfl,qls];simp
 rw[e];refine h1.trans (congrArg _ ?_);refine h2.trans (congrArg _ ?_);refine h3.trans (congrArg _ ?_);exact h4
section
variable {S T U:St} {K:FuncId->Option KF}
theorem L27v_spec (hK:RefK K) {m N i:Nat} {v4:V} {sum:Bs} (hs:sum.length=32) (hi:i<32) (nk:Ac->St->Rs) (ek:Nat->Ac->St->Rs) :
 ∀(d k q n:Nat),k+d=5->d<q->n<2^k->
 L25_27 (ev E0 K (m+1)) N nk ek q (sv sum) v4 (.int .i64 (i:Int)) (.int .i64 (n:Int)) (.int .i64 (k:Int)) S=ek 2 (fr 35 [(3,sv sum),(4,v4),(5,.int .i64 (i:Int)),(6,.int .i64 (nbF sum i d k n:Int))]) S/\nbF sum i d k n<32
 | _,_,0,_,_,hq,_=>by omega
 | 0,k,q+1,n,hk,hq,hn=>by
  have:k=5:=by omega
  subst this;refine⟨?_,hn⟩;rw[L25_27_eq,show qa4 E0 .lss 3 false true (.int .i64 ((5:Nat):Int)) (.int .i64 5)=some (.bool false)from by kernel_rfl,oB,ifK_bool,cF];rfl
 | d+1,k,q+1,n,hk,hq,hn=>by
  have hk5:k<5:=by omega
  have hp:2^(k+1)=2*2^k:=by rw[Nat.pow_succ]; omega
  have hp2:2^k<=2^5:=Nat.pow_le_pow_right (by decide) (by omega);have hb:bitN sum (5*i+k)<2:=Nat.mod_lt _ (by decide);obtain⟨t1,t2⟩:=L27v_spec hK (m:=m) (N:=N) (v4:=v4) hs hi nk ek d (k+1) q (2*n+bitN sum (5*i+k)) (by omega) (by omega) (by omega);refine⟨?_,t2⟩
  have hmul:∀a b:Nat,a*b<100000->qa4 E0 .mul 3 true false (.int .i64 (a:Int)) (.int .i64 (b:Int))=some (.int .i64 ((a*b:Nat):Int)):=fun a b h=>by
   rw[binV_ii,intsV_mul,show((a:Int)*(b:Int))=((a*b:Nat):Int)from(Int.natCast_mul ..).symm,qbg (by omega) (by omega)]
  have hadd:∀a b:Nat,a+b<100000->qa4 E0 .add 3 false false (.int .i64 (a:Int)) (.int .i64 (b:Int))=some (.int .i64 ((a+b:Nat):Int)):=fun a b h=>by
   rw[binV_ii,intsV_add,show((a:Int)+(b:Int))=((a+b:Nat):Int) by omega,qbg (by omega) (by omega)]
  rw[L25_27_eq,show V.int .i64 5=.int .i64 ((5:Nat):Int)from rfl,lssK,dT hk5,oB,ifK_bool,cT,show V.int .i64 2=.int .i64 ((2:Nat):Int)from rfl,hmul _ _ (by omega),oB,hmul _ _ (by omega),oB,hadd _ _ (by omega),oB,bit_run hK m sum hs (by omega),callP_ret,hadd _ _ (by omega),oB,succK (by omega),oB,t1];rfl
theorem ltr_slice {n:Nat} (h:n<32) (S:St):qb6 E0 9 (sv ltrs) (some (.int .i64 (n:Int))) (some (.int .i64 ((n+1:Nat):Int))) none S=some (sv [qhu n],S):=by
 rw[qda und9 ltrs (qi5 .i64 .i64 (show n<=n+1 by omega) (show n+1<=ltrs.length by rw[qej]; omega)) (by rw[qej]; omega),show n+1-n=1 by omega];have hl:n<ltrs.length:=by rw[qej]; exact h
 have:(ltrs.drop n).take 1=[qhu n]:=by
  rw[List.drop_eq_getElem_cons hl,List.take_succ_cons,List.take_zero];unfold qhu;rw[Nat.mod_eq_of_lt h,List.getD_eq_getElem?_getD,List.getElem?_eq_getElem hl]; rfl
 rw[this]
theorem qmy (hK:RefK K) (m:Nat) (S:St):(ev E0 K (m+1)).f 60 [] S=some (.ret (sv ltrs),S):=by
 refine rv60 hK ?_;show F60 (ev E0 K m) qa1 S=_;rw[F60_eq];rfl
theorem L9v_spec (hK:RefK K) {m N:Nat} (hN:1000<N) {sum:Bs} (hs:sum.length=32) (nk:Ac->St->Rs) (ek:Nat->Ac->St->Rs) :
 ∀(d i q:Nat) (out:Bs),i+d=32->d<q->out.length=i->
 L25_9 (ev E0 K (m+1)) N nk ek q (sv sum) (sv out) (.int .i64 (i:Int)) S=ek 0 (fr 35 [(4,sv (out++refH sum d i))]) S
 | _,_,0,_,_,hq,_=>by omega
 | 0,i,q+1,out,hi,hq,hl=>by
  rw[L25_9_eq,show V.int .i64 32=.int .i64 ((32:Nat):Int)from rfl,lssK,dF (by omega),oB,ifK_bool,cF];unfold refH;rw[List.append_nil]
 | d+1,i,q+1,out,hi,hq,hl=>by
  have ih:=L9v_spec hK (m:=m) (N:=N) hN hs nk ek d (i+1) q (out++[qhu (nbF sum i 5 0 0)]) (by omega) (by omega) (by rw[lAq,List.length_singleton]; omega);rw[List.append_assoc,show [qhu (nbF sum i 5 0 0)]++refH sum d (i+1)=refH sum (d+1) i from rfl]at ih;obtain⟨t1,t2⟩:=L27v_spec (S:=S) hK (m:=m) (N:=N) (v4:=sv out) hs (show i<32 by omega) (R25_17 (ev E0 K (m+1)) N (qgl (ev E0 K (m+1)) N (qm3 (ev E0 K (m+1)) N nk ek q) ek) (exB 1 (qgl (ev E0 K (m+1)) N (qm3 (ev E0 K (m+1)) N nk ek q) ek) ek)) (exB 2 (R25_17 (ev E0 K (m+1)) N (qgl (ev E0 K (m+1)) N (qm3 (ev E0 K (m+1)) N nk ek q) ek) (exB 1 (qgl (ev E0 K (m+1)) N (qm3 (ev E0 K (m+1)) N nk ek q) ek) ek)) (exB 1 (qgl (ev E0 K (m+1)) N (qm3 (ev E0 K (m+1)) N nk ek q) ek) ek)) 5 0 N 0 rfl (by omega) (by decide);rw[L25_9_eq,show V.int .i64 32=.int .i64 ((32:Nat):Int)from rfl,lssK,dT (by omega),oB,ifK_bool,cT,show V.int .i64 0=.int .i64 ((0:Nat):Int)from rfl];refine t1.trans ?_;rw[exB_same,R25_17_eq,qmy hK,callP_ret,succK (by omega),oB,ltr_slice t2,oB];dsimp only;rw[qc6 _ _ (by simp; omega),oB,R25_12_eq,succK (by omega),oB,N25_9_eq];exact ih
theorem dhash_run (hK:RefK K) (hLg:Lg.KnLoc K) (m:Nat) (ho:S.on=false) (s:Bs) (hs:s.length<80000):∃U,(ev E0 K (m+5)).f 25 [sv s] S=some (.ret (sv (ql6 s)),U)/\Grew (fun _=>False) S U:=by
 obtain⟨U,a1,a2⟩:=dsum_run hK hLg m ho s hs;have h:=L9v_spec (S:=U) hK (m:=m+3) (N:=qa1) (by unfold qa1; omega) (qjt s) (R25_5 (ev E0 K (m+4)) qa1 (qat E0 (ev E0 K (m+4)) Tryz.f25) qad) (exB 0 (R25_5 (ev E0 K (m+4)) qa1 (qat E0 (ev E0 K (m+4)) Tryz.f25) qad) qad) 32 0 qa1 [] rfl (by unfold qa1; omega) rfl;refine⟨U,rv25 hK ?_,a2⟩;show F25 (ev E0 K (m+4)) qa1 (sv s) S=_;rw[F25_eq,a1,callP_ret,show V.int .i64 0=.int .i64 ((0:Nat):Int)from rfl,show(sv []:V)=sv ([]:Bs)from rfl];refine Eq.trans h ?_;rw[exB_same,R25_5_eq,List.nil_append,<- hash_eq];rfl
end
theorem u8same (a c:UInt8):qa4 E0 .eql 5 false false (.int .u8 (a.toNat:Int)) (.int .u8 (c.toNat:Int))=some (.bool (a==c)):=by
 rw[binV_ii,intsV_eql]
 congr 2
 rw[Bool.eq_iff_iff,decide_eq_true_eq,beq_iff_eq];exact⟨fun h=>UInt8.toNat_inj.1 (by omega),fun h=>by rw[h]⟩
theorem andC {v:V} {F:V->Option V} {p q:Bool} (hF:F v=some (.bool q)) (K:V->Rs):((qa2 true (.bool p)).bind fun g1=>(bif g1 then some v else some (.tuple [])).bind fun t1=>
(qa2 true (.bool p)).bind fun g2=>(bif g2 then F t1 else some (.tuple [])).bind fun t2=>
(qay (.bool p) (some t2) (some (.bool false))).bind fun t3=>K t3)=K (.bool (p&&q)):=by
 cases p with
 | false=>rfl
 | true=>
  simp only[qah,oB,cT,hF,pickV_bool,Bool.true_and]
theorem orC {v:V} {F1 F2:V->Option V} {a p q:Bool} (h1:F1 v=some (.bool p)) (h2:F2 v=some (.bool q)) (K:V->Rs):((qa2 false (.bool a)).bind fun g1=>(bif g1 then some v else some (.tuple [])).bind fun t1=>
(qa2 false (.bool a)).bind fun g2=>(bif g2 then F1 t1 else some (.tuple [])).bind fun t2=>
(qa2 false (.bool a)).bind fun g3=>(bif g3 then some t2 else some (.tuple [])).bind fun t3=>
(qa2 true t3).bind fun g4=>(bif g4 then some v else some (.tuple [])).bind fun t4=>
(qa2 true t3).bind fun g5=>(bif g5 then F2 t4 else some (.tuple [])).bind fun t5=>
(qa2 false (.bool a)).bind fun g6=>(bif g6 then qay t3 (some t5) (some (.bool false))else some (.tuple [])).bind fun t6=>
(qay (.bool a) (some (.bool true)) (some t6)).bind fun t7=>K t7)=K (.bool (a||(p&&q))):=by
 cases a with
 | true=>rfl
 | false=>
  simp only[qag,nF,oB,cT,h1,qah,pickV_bool,cF,Bool.false_or];cases p with
  | false=>rfl
  | true=>simp only[oB,cT,h2,Bool.true_and]
theorem orS {v:V} {F:V->Option V} {a q:Bool} (hF:F v=some (.bool q)) (K:V->Rs):((qa2 false (.bool a)).bind fun g1=>(bif g1 then some v else some (.tuple [])).bind fun t1=>
(qa2 false (.bool a)).bind fun g2=>(bif g2 then F t1 else some (.tuple [])).bind fun t2=>
(qay (.bool a) (some (.bool true)) (some t2)).bind fun t3=>K t3)=K (.bool (a||q)):=by
 cases a with
 | true=>rfl
 | false=>simp only[qag,nF,oB,cT,hF,pickV_bool,cF,Bool.false_or]
section
variable {S T U:St} {K:FuncId->Option KF}
theorem L4v_spec {m N:Nat} {c:UInt8} {all:Bs} (hall:all.length<1000) (nk:Ac->St->Rs) (ek:Nat->Ac->St->Rs) :
 ∀(r:Bs) (i q:Nat),all.drop i=r->r.length<q->
 L82_4 (ev E0 K m) N nk ek q (.int .u8 (c.toNat:Int)) (sv all) (.int .i64 (i:Int)) S=if r.contains c then some (.ret (.bool true),S)else ek 0 (fr 17 []) S
 | _,_,0,_,hq=>by omega
 | [],i,q+1,hi,_=>by
  rw[L82_4_eq,qa5,oB];dsimp only;rw[qds,dF (Nat.not_lt.2 (qau hi)),oB,ifK_bool,cF,iN (by simp)]
 | x::r,i,q+1,hi,hq=>by
  obtain⟨hil,hf,hrest,hmem⟩:=qba hi;have ih:=L4v_spec (m:=m) (N:=N) (c:=c) hall nk ek r (i+1) q hrest (by simpa using hq);rw[L82_4_eq,qa5,oB];dsimp only;rw[qds,dT hil,oB,ifK_bool,cT,qci all .i64 i hil,oB,hf,u8same,oB,ifK_bool,List.contains_cons];by_cases e:x=c
  . rw[e,beq_self_eq_true,cT,Bool.true_or,iP rfl]
  . rw[beq_false_of_ne e,beq_false_of_ne (fun h=>e h.symm),cF,Bool.false_or,qc1 (by omega),oB,ih]
theorem letter_run (hK:RefK K) (m:Nat) (c:UInt8) (all:Bs) (hall:all.length<1000) (S:St):(ev E0 K (m+1)).f 82 [.int .u8 (c.toNat:Int),sv all] S=some (.ret (.bool (all.contains c)),S):=by
 refine rv82 hK ?_;show F82 (ev E0 K m) qa1 _ _ S=_;rw[F82_eq,show V.int .i64 0=.int .i64 ((0:Nat):Int)from rfl,L4v_spec hall _ _ all 0 qa1 rfl (by unfold qa1; omega)];by_cases h:all.contains c=true
 . rw[iP h,h]
 . rw[iN h,exB_same,R82_1_eq,show all.contains c=false by simpa using h]
theorem other_eq (c:UInt8):([43,45,46,95]:Bs).contains c=qnb c:=by
 have:(([43,45,46,95]:Bs).contains c==qnb c)=true:=all256c (p:=fun c=>([43,45,46,95]:Bs).contains c==qnb c) (by decide +kernel) c;exact beq_iff_eq.1 this
theorem L16v_spec (hK:RefK K) {m N:Nat} {s:Bs} (hs:s.length<=20) (nk:Ac->St->Rs) (ek:Nat->Ac->St->Rs) :
 ∀(r:Bs) (i q:Nat),s.drop i=r->r.length<q->
 L54_16 (ev E0 K (m+1)) N nk ek q (sv s) (.int .i64 (i:Int)) S=if r.all ql8 then ek 0 (fr 51 [(0,sv s)]) S else some (.ret (.int .i64 2),S)
 | _,_,0,_,hq=>by omega
 | [],i,q+1,hi,_=>by
  rw[L54_16_eq,qa5,oB];dsimp only;rw[qds,dF (Nat.not_lt.2 (qau hi)),oB,ifK_bool,cF];rfl
 | c::r,i,q+1,hi,hq=>by
  obtain⟨hil,hf,hrest,hmem⟩:=qba hi;have ih:=L16v_spec hK (m:=m) (N:=N) hs nk ek r (i+1) q hrest (by simpa using hq);rw[L54_16_eq,qa5,oB];dsimp only;rw[qds,dT hil,oB,ifK_bool,cT,qci s .i64 i hil,oB,hf];rw[show qa4 E0 .geq 5 false true (.int .u8 (c.toNat:Int)) (.int .u8 97)=_ from qle 97 c,oB];rw[andC (F:=fun t=>qa4 E0 .leq 5 false true t (.int .u8 122)) (show qa4 E0 .leq 5 false true (.int .u8 (c.toNat:Int)) (.int .u8 122)=_ from qo0 122 c)];rw[orC (F1:=fun t=>qa4 E0 .geq 5 false true t (.int .u8 65)) (F2:=fun t=>qa4 E0 .leq 5 false true t (.int .u8 90)) (show qa4 E0 .geq 5 false true (.int .u8 (c.toNat:Int)) (.int .u8 65)=_ from qle 65 c) (show qa4 E0 .leq 5 false true (.int .u8 (c.toNat:Int)) (.int .u8 90)=_ from qo0 90 c)];rw[orC (F1:=fun t=>qa4 E0 .geq 5 false true t (.int .u8 48)) (F2:=fun t=>qa4 E0 .leq 5 false true t (.int .u8 57)) (show qa4 E0 .geq 5 false true (.int .u8 (c.toNat:Int)) (.int .u8 48)=_ from qle 48 c) (show qa4 E0 .leq 5 false true (.int .u8 (c.toNat:Int)) (.int .u8 57)=_ from qo0 57 c)];have hlt:=letter_run hK m c [43,45,46,95] (by decide) S;rw[List.all_cons]
  have hL:ql8 c=(((decide (97<=c.toNat)&&decide (c.toNat<=122))||(decide (65<=c.toNat)&&decide (c.toNat<=90)))||(decide (48<=c.toNat)&&decide (c.toNat<=57))||qnb c):=by
   unfold ql8 inB;generalize (decide (97<=c.toNat)&&decide (c.toNat<=122))=x;generalize (decide (65<=c.toNat)&&decide (c.toNat<=90))=y;generalize (decide (48<=c.toNat)&&decide (c.toNat<=57))=z;cases x<;>cases y<;>cases z<;>rfl
  rw[hL,<- other_eq];generalize (((decide (97<=c.toNat)&&decide (c.toNat<=122))||(decide (65<=c.toNat)&&decide (c.toNat<=90)))||(decide (48<=c.toNat)&&decide (c.toNat<=57)))=p;cases p with
  | true=>
   simp only[qag,Bool.not_true,oB,cF,callP_ret,pickV_bool,cT,unV_not,ifK_bool,Bool.true_or,Bool.true_and];rw[qc1 (by omega),oB,ih]
  | false=>
   simp only[qag,nF,oB,cT,hlt,callP_ret,pickV_bool,cF,unV_not,ifK_bool,Bool.false_or];cases([43,45,46,95]:Bs).contains c with
   | true=>
    rw[Bool.not_true,cF,qc1 (by omega),oB,ih,Bool.true_and]
   | false=>rfl
theorem qka (hK:RefK K) (m:Nat) (s:Bs) (hs:s.length<1000000) (S:St):(ev E0 K (m+2)).f 54 [sv s] S=some (.ret (.int .i64 (chkN s)),S):=by
 refine rv54 hK ?_;show F54 (ev E0 K (m+1)) qa1 (sv s) S=_
 have hg:qa4 E0 .gtr 3 false true (.int .i64 (s.length:Int)) (.int .i64 20)=some (.bool (decide (20<s.length))):=by
  rw[binV_ii,intsV_gtr]; congr 2; simp; omega
 unfold chkN;rw[F54_eq,qa5,oB];dsimp only;rw[hg,oB,ifK_bool];by_cases h20:20<s.length
 . rw[dT h20,cT,iP h20]
 . rw[dF h20,cF,iN h20,show V.int .i64 0=.int .i64 ((0:Nat):Int)from rfl,L16v_spec hK (by omega) _ _ s 0 qa1 rfl (by unfold qa1; omega)]
   by_cases ha:s.all ql8=true
   . rw[iP ha,iP ha,exB_same,R54_5_eq,eqStr,oB]
     cases s with
     | nil=>rfl
     | cons c s=>
      have e0:ixS (sv (c::s)) (.int .i64 0)=some (.int .u8 (c.toNat:Int)):=qci (c::s) .i64 0 (by simp);have e1:qa4 E0 .eql 5 false true (.int .u8 (c.toNat:Int)) (.int .u8 46)=some (.bool (c==46)):=u8eql 46 (by decide) c;rw[show((c::s)==[])=false from rfl];simp only[qag,nF,oB,cT,e0,e1,pickV_bool,cF,ifK_bool,List.head?_cons,oS];by_cases hc:c=46
      . rw[hc,beq_self_eq_true,cT,iP (.inr rfl)]
      . rw[beq_false_of_ne hc,cF,iN (by simp[hc])]
   . rw[iN ha,iN ha]
end
section
variable {S T U:St} {K:FuncId->Option KF}
theorem L7i_spec (hK:RefK K) {m N:Nat} (ho:S.on=false) {s:Bs} (hs:s.length<100000) (nk:Ac->St->Rs) (ek:Nat->Ac->St->Rs) :
 ∀(r:Bs) (i q:Nat),s.drop i=r->r.length<q->
 L57_7 (ev E0 K (m+1)) N nk ek q (sv s) (.int .i64 (i:Int)) S=if r.all (fun c=>ltrs.contains c)then ek 0 (fr 19 [(0,sv s)]) S else some (.ret (.bool false),S)
 | _,_,0,_,hq=>by omega
 | [],i,q+1,hi,_=>by
  rw[L57_7_eq,qa5,oB];dsimp only;rw[qds,dF (Nat.not_lt.2 (qau hi)),oB,ifK_bool,cF];rfl
 | c::r,i,q+1,hi,hq=>by
  obtain⟨hil,hf,hrest,hmem⟩:=qba hi;have ih:=L7i_spec hK (m:=m) (N:=N) ho hs nk ek r (i+1) q hrest (by simpa using hq);have hrl:qbd S (S.lg []) [[],[],[],[],[],[]]=S:=by rw[qao ho,qjx ho]
  rw[L57_7_eq,qa5,oB];dsimp only;rw[qds,dT hil,oB,ifK_bool,cT,qci s .i64 i hil,oB,hf];simp only[ons,qar];rw[qmy hK,qal];simp only[ons,qar];rw[letter_run hK m c ltrs (by decide),qal,unV_not,oB,ifK_bool,List.all_cons];simp only[ons,qar];rw[show(S.lg []).log=[]from rfl,hrl];cases ltrs.contains c with
  | true=>rw[Bool.not_true,cF,qc1 (by omega),oB,ih,Bool.true_and]
  | false=>rfl
theorem dis_run (hK:RefK K) (m:Nat) (ho:S.on=false) (s:Bs) (hs:s.length<100000):(ev E0 K (m+2)).f 57 [sv s] S=some (.ret (.bool (isH s)),S):=by
 refine rv57 hK ?_;show F57 (ev E0 K (m+1)) qa1 (sv s) S=_;rw[F57_eq,show V.int .i64 0=.int .i64 ((0:Nat):Int)from rfl,L7i_spec hK ho hs _ _ s 0 qa1 rfl (by unfold qa1; omega)];unfold isH;by_cases h:(s.all fun c=>ltrs.contains c)=true
 . rw[iP h,h,Bool.and_true,exB_same,R57_1_eq,qa5,oB]
   dsimp only;rw[show qa4 E0 .eql 3 false true (.int .i64 (s.length:Int)) (.int .i64 32)=some (.bool (decide (s.length=32)))from by rw[binV_ii,intsV_eql]; congr 2; simp; omega,oB]
 . rw[iN h,show(s.all fun c=>ltrs.contains c)=false by simpa using h,Bool.and_false]
theorem dsplit_run (hK:RefK K) (m:Nat) (ho:S.on=false) (s:Bs) (hs:s.length<100000):∃a b,(ev E0 K (m+3)).f 83 [sv s] S=some (.ret (.tuple [a,b,.int .i64 (if qb1 s then 0 else 4)]),S):=by
 suffices hmain:∃a b,F83 (ev E0 K (m+2)) qa1 (sv s) S=some (.ret (.tuple [a,b,.int .i64 (if qb1 s then 0 else 4)]),S) by
  obtain⟨a,b,h⟩:=hmain;exact⟨a,b,rv83 hK h⟩
 have hlt:qa4 E0 .lss 3 false true (.int .i64 (s.length:Int)) (.int .i64 34)=some (.bool (decide (s.length<34))):=by
  rw[binV_ii,intsV_lss]; congr 2; simp; omega
 rw[F83_eq,qa5,oB];dsimp only;rw[hlt,oB];by_cases h34:s.length<34
 . have hp:qb1 s=false:=by
    unfold qb1;by_cases h32:32<s.length
    . rw[List.drop_of_length_le (show s.length<=33 by omega),show qf0 []=false from by decide,Bool.and_false,Bool.and_false]
    . rw[dF h32]; rfl
   rw[dT h34,hp];exact⟨_,_,rfl⟩
 . have h32:32<s.length:=by omega
   have hs1:∀X,qb6 E0 9 (sv s) none (some (.int .i64 32)) none X=some (sv (s.take 32),X):=fun X=>by
    rw[show V.int .i64 32=.int .i64 ((32:Nat):Int)from rfl,qda und9 s (qep .i64 (show 32<=s.length by omega)) (by omega),List.drop_zero,Nat.sub_zero]
   have hs2:∀X,qb6 E0 9 (sv s) (some (.int .i64 33)) none none X=some (sv (s.drop 33),X):=fun X=>by
    rw[show V.int .i64 33=.int .i64 ((33:Nat):Int)from rfl,qda und9 s (qfi .i64 (show 33<=s.length by omega)) (lR _),show List.take (s.length-33) (s.drop 33)=s.drop 33 from List.take_of_length_le (by rw[List.length_drop]; exact lR _)]
   have hix:ixS (sv s) (.int .i64 32)=some (.int .u8 (s[32].toNat:Int)):=qci s .i64 32 h32;have hne:qa4 E0 .neq 5 false true (.int .u8 (s[32].toNat:Int)) (.int .u8 45)=some (.bool (!(s[32]==45))):=u8neq 45 (by decide) s[32];have d1:=dis_run hK m ho (s.take 32) (by rw[List.length_take]; omega);have d2:=qka hK m (s.drop 33) (by rw[List.length_drop]; omega) S
   have hp:qb1 s=((s[32]==45)&&(isH (s.take 32)&&qf0 (s.drop 33))):=by
    unfold qb1;rw[dT h32,Bool.true_and,List.getElem?_eq_getElem h32];rfl
   rw[dF h34,hp];simp only[qag,nF,oB,cT,hs1,d1,callP_ret,unV_not,pickV_bool,cF];cases isH (s.take 32)with
   | false=>
    rw[Bool.false_and,Bool.and_false];exact⟨_,_,rfl⟩
   | true=>
    simp only[Bool.not_true,qag,nF,oB,cT,hix,hne,pickV_bool,cF];cases s[32]==45 with
    | false=>exact⟨_,_,rfl⟩
    | true=>
     simp only[Bool.not_true,qag,nF,oB,cT,hs2,d2,callP_ret,qk8,pickV_bool,cF,ifK_bool,Bool.true_and];cases qf0 (s.drop 33)with
     | false=>exact⟨_,_,rfl⟩
     | true=>
      rw[Bool.not_true,cF];simp only[ons,qar,hs1,hs2,oB];rw[qb3 (by rfl),qao ho,qjx ho];exact⟨_,_,rfl⟩
theorem dpath_run (hK:RefK K) (m:Nat) (ho:S.on=false) (s:Bs) (hs:s.length<100000):(ev E0 K (m+4)).f 55 [sv s] S=some (.ret (.bool (qb1 s)),S):=by
 obtain⟨a,b,h⟩:=dsplit_run hK m ho s hs;refine rv55 hK ?_;show F55 (ev E0 K (m+3)) qa1 (sv s) S=_;rw[F55_eq,h,callP_ret,ex0,oB,ex1,oB,ex2,oB];cases qb1 s<;>rfl
theorem dnpath_run (hK:RefK K) (m:Nat) (ho:S.on=false) (h n:Bs) (hh:h.length<100000) (hn:n.length<100000):(ev E0 K (m+3)).f 24 [sv h,sv n] S=some (.ret (qkx h n),S):=by
 refine rv24 hK ?_;show F24 (ev E0 K (m+2)) qa1 (sv h) (sv n) S=_;unfold qkx npB npE;rw[F24_eq,dis_run hK m ho h hh,callP_ret,unV_not,oB,ifK_bool];cases hi:isH h with
 | false=>rfl
 | true=>
  rw[Bool.not_true,cF,qka hK m n (by omega),callP_ret,qk8,oB,ifK_bool,Bool.true_and,iP rfl];cases hc:qf0 n with
  | false=>rfl
  | true=>
   have h0:chkN n=0:=of_decide_eq_true hc;rw[Bool.not_true,cF,qc6 _ _ (by simp; omega),oB,qc6 _ _ (by rw[lAq]; simp; omega),oB,iP rfl,h0]
theorem or3C {v w:V} {G F1 F2:V->Option V} {a z p q:Bool} (hG:G w=some (.bool z)) (h1:F1 v=some (.bool p)) (h2:F2 v=some (.bool q)) (K:V->Rs):((qa2 false (.bool a)).bind fun g1=>(bif g1 then some w else some (.tuple [])).bind fun t1=>
(qa2 false (.bool a)).bind fun g2=>(bif g2 then G t1 else some (.tuple [])).bind fun t2=>
(qa2 false (.bool a)).bind fun g3=>(bif g3 then some t2 else some (.tuple [])).bind fun t3=>
(qa2 true t3).bind fun g4=>(bif g4 then some v else some (.tuple [])).bind fun t4=>
(qa2 true t3).bind fun g5=>(bif g5 then F1 t4 else some (.tuple [])).bind fun t5=>
(qa2 false (.bool a)).bind fun g6=>(bif g6 then qay t3 (some t5) (some (.bool false))else some (.tuple [])).bind fun t6=>
(qa2 false (.bool a)).bind fun g7=>(bif g7 then some t6 else some (.tuple [])).bind fun t7=>
(qa2 true t7).bind fun g8=>(bif g8 then some v else some (.tuple [])).bind fun t8=>
(qa2 true t7).bind fun g9=>(bif g9 then F2 t8 else some (.tuple [])).bind fun t9=>
(qa2 false (.bool a)).bind fun g10=>(bif g10 then qay t7 (some t9) (some (.bool false))else some (.tuple [])).bind fun t10=>
(qay (.bool a) (some (.bool true)) (some t10)).bind fun t11=>K t11)=K (.bool (a||((z&&p)&&q))):=by
 cases a with
 | true=>rfl
 | false=>
  simp only[qag,nF,oB,cT,hG,qah,pickV_bool,cF,Bool.false_or];cases z with
  | false=>rfl
  | true=>
   simp only[oB,cT,h1,Bool.true_and,qah,pickV_bool];cases p with
   | false=>rfl
   | true=>simp only[oB,cT,h2,Bool.true_and]
theorem L19v_spec {m N:Nat} {s:Bs} (hs:s.length<100000) (nk:Ac->St->Rs) (ek:Nat->Ac->St->Rs) :
 ∀(r:Bs) (i q:Nat),s.drop i=r->r.length<q->
 L56_19 (ev E0 K m) N nk ek q (sv s) (.int .i64 (i:Int)) S=if varL (decide (i=0)) r then ek 0 (fr 60 [(0,sv s)]) S else some (.ret (.bool false),S)
 | _,_,0,_,hq=>by omega
 | [],i,q+1,hi,_=>by
  rw[L56_19_eq,qa5,oB];dsimp only;rw[qds,dF (Nat.not_lt.2 (qau hi)),oB,ifK_bool,cF];rfl
 | c::r,i,q+1,hi,hq=>by
  obtain⟨hil,hf,hrest,hmem⟩:=qba hi;have ih:=L19v_spec (m:=m) (N:=N) hs nk ek r (i+1) q hrest (by simpa using hq);rw[show decide (i+1=0)=false from dF (by omega)]at ih;rw[L56_19_eq,qa5,oB];dsimp only;rw[qds,dT hil,oB,ifK_bool,cT,qci s .i64 i hil,oB,hf];rw[show qa4 E0 .geq 5 false true (.int .u8 (c.toNat:Int)) (.int .u8 97)=_ from qle 97 c,oB];rw[andC (F:=fun t=>qa4 E0 .leq 5 false true t (.int .u8 122)) (show qa4 E0 .leq 5 false true (.int .u8 (c.toNat:Int)) (.int .u8 122)=_ from qo0 122 c)];rw[orC (F1:=fun t=>qa4 E0 .geq 5 false true t (.int .u8 65)) (F2:=fun t=>qa4 E0 .leq 5 false true t (.int .u8 90)) (show qa4 E0 .geq 5 false true (.int .u8 (c.toNat:Int)) (.int .u8 65)=_ from qle 65 c) (show qa4 E0 .leq 5 false true (.int .u8 (c.toNat:Int)) (.int .u8 90)=_ from qo0 90 c)];rw[orS (F:=fun t=>qa4 E0 .eql 5 false true t (.int .u8 95)) (show qa4 E0 .eql 5 false true (.int .u8 (c.toNat:Int)) (.int .u8 95)=_ from u8eql 95 (by decide) c)];rw[or3C (G:=fun t=>qa4 E0 .gtr 3 false true t (.int .i64 0)) (F1:=fun t=>qa4 E0 .geq 5 false true t (.int .u8 48)) (F2:=fun t=>qa4 E0 .leq 5 false true t (.int .u8 57)) (gtr0 i) (show qa4 E0 .geq 5 false true (.int .u8 (c.toNat:Int)) (.int .u8 48)=_ from qle 48 c) (show qa4 E0 .leq 5 false true (.int .u8 (c.toNat:Int)) (.int .u8 57)=_ from qo0 57 c)];rw[unV_not,oB,ifK_bool,varL]
  have hL:(fstB c||(!(decide (i=0))&&inB 48 57 c))=((((decide (97<=c.toNat)&&decide (c.toNat<=122))||(decide (65<=c.toNat)&&decide (c.toNat<=90)))||(c==UInt8.ofNat 95))||((decide (0<i)&&decide (48<=c.toNat))&&decide (c.toNat<=57))):=by
   have hi0:(!(decide (i=0)))=decide (0<i):=by
    by_cases h:i=0
    . rw[dT h,dF (by omega)]; rfl
    . rw[dF h,dT (by omega)]; rfl
   unfold fstB inB;rw[hi0,show(UInt8.ofNat 95)=(95:UInt8)from rfl];generalize (decide (97<=c.toNat)&&decide (c.toNat<=122))=x;generalize (decide (65<=c.toNat)&&decide (c.toNat<=90))=y;generalize (c==(95:UInt8))=z;generalize decide (0<i)=w;generalize decide (48<=c.toNat)=p;cases x<;>cases y<;>cases z<;>cases w<;>cases p<;>rfl
  rw[hL];generalize ((((decide (97<=c.toNat)&&decide (c.toNat<=122))||(decide (65<=c.toNat)&&decide (c.toNat<=90)))||(c==UInt8.ofNat 95))||((decide (0<i)&&decide (48<=c.toNat))&&decide (c.toNat<=57)))=p;cases p with
  | false=>rfl
  | true=>rw[Bool.not_true,cF,qc1 (by omega),oB,ih,Bool.true_and]
theorem dvar_run (hK:RefK K) (m:Nat) (s:Bs) (hs:s.length<100000) (S:St):(ev E0 K (m+1)).f 56 [sv s] S=some (.ret (.bool (qhb s)),S):=by
 refine rv56 hK ?_;show F56 (ev E0 K m) qa1 (sv s) S=_;rw[F56_eq,show V.int .i64 0=.int .i64 ((0:Nat):Int)from rfl,L19v_spec hs _ _ s 0 qa1 rfl (by unfold qa1; omega),dT rfl];unfold qhb;cases hv:varL true s with
 | false=>rw[iN Bool.false_ne_true,Bool.false_and]
 | true=>
  have hle:qa4 E0 .leq 3 false true (.int .i64 (s.length:Int)) (.int .i64 56)=some (.bool (decide (s.length<=56))):=by
   rw[binV_ii,intsV_leq]; congr 2; simp; omega
  have hd:(!(s==[]))=decide (s≠[]):=by cases s<;>rfl
  rw[iP rfl,exB_same,R56_1_eq,show(sv []:V)=sv ([]:Bs)from rfl,neStr,oB,hd,Bool.true_and];cases decide (s≠[])with
  | false=>rfl
  | true=>
   simp only[qah,oB,cT,qa5,hle,pickV_bool,Bool.true_and];cases decide (s.length<=56)with
   | false=>rfl
   | true=>
    simp only[qah,oB,cT,neStr,pickV_bool,Bool.true_and];cases(!(s==[111,117,116]))with
    | false=>rfl
    | true=>simp only[qah,oB,cT,neStr,pickV_bool,Bool.true_and]
end
def okN (prev:Option Bs) (x:Bs):Bool:=match prev with|none=>true|some y=>ltB y x
def goG {α:Type} (t:α->Bool) (nm:α->Bs):Option Bs->List α->Bool
 | _,[]=>true
 | prev,p::r=>(t p&&okN prev (nm p))&&goG t nm (some (nm p)) r
theorem qlj {α:Type} (t:α->Bool) (nm:α->Bs) (prev:Option Bs) (p:α) (r:List α):goG t nm prev (p::r)=((t p&&okN prev (nm p))&&goG t nm (some (nm p)) r):=by cases prev<;>rfl
theorem goG_eq {α:Type} (t:α->Bool) (nm:α->Bs):∀(r:List α) (prev:Option Bs),goG t nm prev r=(r.all t&&qik (prev.toList++r.map nm))
 | [],none=>rfl
 | [],some y=>rfl
 | p::r,none=>by
  rw[qlj,goG_eq t nm r (some (nm p)),List.all_cons,show okN none (nm p)=true from rfl];simp only[Option.toList,List.nil_append,List.map_cons,Bool.and_true,List.cons_append];rw[Bool.and_assoc]
 | p::r,some y=>by
  rw[qlj,goG_eq t nm r (some (nm p)),List.all_cons,show okN (some y) (nm p)=ltB y (nm p)from rfl];simp only[Option.toList,List.nil_append,List.map_cons,List.cons_append];rw[show qik (y::nm p::r.map nm)=(ltB y (nm p)&&qik (nm p::r.map nm))from rfl];cases t p<;>cases ltB y (nm p)<;>cases r.all t<;>rfl
theorem bl_lt (a b:Bs):Op.bytesLess a b=ltB a b:=by
 unfold ltB;rw[Bool.eq_iff_iff,decide_eq_true_eq];exact bless_iff
theorem gT (w:Bool):qa2 w (.tuple [])=some false:=by cases w<;>rfl
section
variable {S T U:St} {K:FuncId->Option KF}
theorem hex_slice {n:Nat} (h:n<16) (S:St):qb6 E0 9 (sv [48,49,50,51,52,53,54,55,56,57,97,98,99,100,101,102]) (some (.int .i64 (n:Int))) (some (.int .i64 ((n+1:Nat):Int))) none S=some (sv [hexC n],S):=by
 have hl:n<hexL.length:=by rw[hexL_len]; exact h
 show qb6 E0 9 (sv hexL) _ _ none S=_;rw[qda und9 hexL (qi5 .i64 .i64 (show n<=n+1 by omega) (show n+1<=hexL.length by omega)) (by omega),show n+1-n=1 by omega]
 have:(hexL.drop n).take 1=[hexC n]:=by
  rw[List.drop_eq_getElem_cons hl,List.take_succ_cons,List.take_zero];unfold hexC;rw[List.getD_eq_getElem?_getD,List.getElem?_eq_getElem hl]; rfl
 rw[this]
theorem L9h_spec {m N:Nat} (hr:qbd S (S.lg []) [[],[],[],[],[],[],[],[],[],[],[],[]]=S) {s:Bs} (hs:s.length<=1000) (nk:Ac->St->Rs) (ek:Nat->Ac->St->Rs) :
 ∀(r:Bs) (i q:Nat) (out:Bs),s.drop i=r->r.length<q->out.length<=2*i->
 L22_9 (ev E0 K m) N nk ek q (sv s) (sv out) (.int .i64 (i:Int)) S=ek 0 (fr 37 [(3,sv (out++r.flatMap digs))]) S
 | _,_,0,_,_,hq,_=>by omega
 | [],i,q+1,out,hi,_,_=>by
  rw[L22_9_eq,qa5,oB];dsimp only;rw[qds,dF (Nat.not_lt.2 (qau hi)),oB,ifK_bool,cF];simp
 | c::r,i,q+1,out,hi,hq,hl=>by
  obtain⟨hil,hf,hrest,hmem⟩:=qba hi;have hc:=c.toNat_lt;have ih:=L9h_spec (m:=m) (N:=N) hr hs nk ek r (i+1) q (out++[hexC (c.toNat/16)]++[hexC (c.toNat%16)]) hrest (by simpa using hq) (by simp; omega)
  have hq1:qa4 E0 .quo 3 false true (.int .i64 (c.toNat:Int)) (.int .i64 16)=some (.int .i64 ((c.toNat/16:Nat):Int)):=by
   rw[binV_ii,qj7 _ _ _ (by decide),show(c.toNat:Int).tdiv 16=((c.toNat/16:Nat):Int) by rw[Int.tdiv_eq_ediv_of_nonneg (by omega)]; omega,qbg (by omega) (by omega)]
  have hr1:qa4 E0 .rem 3 false true (.int .i64 (c.toNat:Int)) (.int .i64 16)=some (.int .i64 ((c.toNat%16:Nat):Int)):=by
   rw[binV_ii,qgt _ _ _ (by decide),Int.tmod_eq_emod_of_nonneg (by omega)]
   congr 2
  have hcv:∀X:St,cvI .i64 (.int .u8 (c.toNat:Int)) X=some (.int .i64 (c.toNat:Int),X):=fun X=>by
   rw[cvI_int,qbg (by omega) (by omega)]
  rw[L22_9_eq,qa5,oB];dsimp only;rw[qds,dT hil,oB,ifK_bool,cT,qci s .i64 i hil,hf,oB];simp only[ons,qar,hcv,oB,hq1,hr1];rw[qb3 (by rfl)];simp only[show(S.lg []).log=[]from rfl,hr];rw[qc1 (by omega),oB,hex_slice (by omega),oB];dsimp only;rw[qc6 _ _ (by simp; omega),oB,qc1 (by omega),oB];simp only[ons,qar];rw[hex_slice (by omega),oB];dsimp only;rw[qc6 _ _ (by simp; omega),oB];simp only[ons,qar];rw[qb3 (by rfl)];simp only[show(S.lg []).log=[]from rfl,hr];rw[qc1 (by omega),oB,ih];simp[digs]
theorem dhex_gen (hK:RefK K) (m:Nat) (hr:qbd S (S.lg []) [[],[],[],[],[],[],[],[],[],[],[],[]]=S) (s:Bs) (hs:s.length<=1000):(ev E0 K (m+1)).f 22 [sv s] S=some (.ret (sv (hexD s)),S):=by
 refine rv22 hK ?_;show F22 (ev E0 K m) qa1 (sv s) S=_;rw[F22_eq,show V.int .i64 0=.int .i64 ((0:Nat):Int)from rfl,show(sv []:V)=sv ([]:Bs)from rfl,L9h_spec hr hs _ _ s 0 qa1 [] rfl (by unfold qa1; omega) (by simp),exB_same,R22_2_eq,show(sv []:V)=sv ([]:Bs)from rfl,eqStr,oB,ifK_bool,List.nil_append];unfold hexD;cases s with
 | nil=>rfl
 | cons c s=>rfl
theorem dhex_on (hK:RefK K) (m:Nat) (s:Bs) (hs:s.length<=1000) (X:St):(ev E0 K (m+1)).f 22 [sv s] (X.lg [])=some (.ret (sv (hexD s)),X.lg []):=dhex_gen hK m rfl s hs
theorem VLo.cells {v:V} {l:List (Bs×Bs)} {N:Nat} (h:VLo S v l N) (ho:S.on=false) {i:Nat} {p:Bs×Bs} (hp:l[i]?=some p):∃r,ixP 2 v (.int .i64 (i:Int))=some (.ptr r (i*2))/\(∀L,ld1 (.ptr r (i*2)) (S.lg L)=some (sv p.1,S.lg (⟨r,i*2,i*2+1,false⟩::L)))/\∀L,ld1 (.ptr r (i*2+1)) (S.lg L)=some (sv p.2,S.lg (⟨r,i*2+1,i*2+1+1,false⟩::L)):=by
 obtain⟨hi,he⟩:=List.getElem?_eq_some_iff.1 hp;rcases h with⟨rfl,_⟩|⟨r,rfl,h1,h2,h3,h4⟩
 . simp at hp
 . obtain⟨c,c1,c2⟩:=h1.row
   rw[lM]at c1;have hfit:=h1.fit;rw[lM]at hfit;have hl:(l.map qip)[i]?=some (qip p):=by rw[List.getElem?_map,hp]; rfl
   refine⟨r,?_,fun L=>qbx ho ?_ L,fun L=>qbx ho ?_ L⟩
   . have h0:ixP 2 (.oslice r 0 l.length 2) (.int .i64 (i:Int))=bif Nat.blt i l.length then some (.ptr r (0+i*2))else none:=rfl
     rw[h0,blt_true.2 hi,Nat.zero_add,cT]
   . show ld S r (i*2)=_
     unfold ld;rw[c1];dsimp only;rw[blt_true.2 (show i*2<2*l.length by omega),blt_true.2 hfit,Bool.and_self,cT,Nat.mul_div_cancel _ (by decide),c2 _ _ hl,oB,Nat.mul_mod_left];unfold qip;rw[Tr.get_ofList,qav ho];rfl
   . show ld S r (i*2+1)=_
     unfold ld;rw[c1];dsimp only;rw[blt_true.2 (show i*2+1<2*l.length by omega),blt_true.2 hfit,Bool.and_self,cT,show(i*2+1)/2=i by omega,c2 _ _ hl,oB,show(i*2+1)%2=1 by omega];unfold qip;rw[Tr.get_ofList,qav ho];rfl
theorem L79v_spec (hK:RefK K) (hLg:Lg.KnLoc K) {m N b N1:Nat} {Tt:Tr V} {vI:V} {l:List Bs} (ho:S.on=false) (hA:AgAt S b 25 4 Tt) (hI:Tt.get 1=some vI) (hL:TLo S vI l N1) (hl:l.length<=1000) (hlp:∀p∈l,p.length<=20000) (nk:Ac->St->Rs) (ek:Nat->Ac->St->Rs) :
 ∀(r:List Bs) (i q:Nat) (prev:Option Bs),l.drop i=r->r.length<q->((i=0/\prev=none)\/∃y,prev=some y/\l[i-1]?=some y/\0<i)->
 L21_79 (ev E0 K (m+4)) N nk ek q (.ptr b 0) (.int .i64 (i:Int)) S=if goG qb1 id prev r then ek 0 (fr 104 [(1,.ptr b 0)]) S else some (.ret (.bool false),S)
 | _,_,0,_,_,hq,_=>by omega
 | [],i,q+1,prev,hi,_,_=>by
  rw[L21_79_eq,show faP 1 false 1 (.ptr b 0)=some (.ptr b 1)from rfl,oB,hA.ld1 ho qdc (by decide) hI,oB];dsimp only;rw[hL.tl.len,oB];dsimp only;rw[qds,dF (Nat.not_lt.2 (qau hi)),oB,ifK_bool,cF];rfl
 | p::r,i,q+1,prev,hi,hq,hp=>by
  obtain⟨hil,hf,hrest,hmem⟩:=qba hi;have hat:l[i]?=some p:=by rw[List.getElem?_eq_getElem hil,hf]
  have ih:=L79v_spec hK hLg (m:=m) (N:=N) ho hA hI hL hl hlp nk ek r (i+1) q (some p) hrest (by simpa using hq) (.inr ⟨p,rfl,by rw[Nat.add_sub_cancel]; exact hat,by omega⟩);obtain⟨x,r1,o1,x1,x2⟩:=hL.tl.ldOn ho hat [];have d1:=dpath_run hK m ho p (by have:=hlp p hmem; omega);obtain⟨LP,d1'⟩:=Lg.ev_lg hLg d1 [];have hI':=qbx ho (hA.ld1 ho qdc (by decide) hI) [];rw[L21_79_eq,show faP 1 false 1 (.ptr b 0)=some (.ptr b 1)from rfl,oB,hA.ld1 ho qdc (by decide) hI,oB];dsimp only;rw[hL.tl.len,oB];dsimp only;rw[qds,dT hil,oB,ifK_bool,cT,oB];simp only[ons,qar];rw[hI',oB];simp only[ons,qar];rw[x1,oB,x2,oB];simp only[ons,qar];rw[d1',qal,unV_not,oB,qlj,show id p=p from rfl];cases hpp:qb1 p with
  | false=>
   simp only[nF,qag,Bool.not_true,oB,cF,gT,pickV_bool,cT,ons,qar];rw[qb3 ?_,qao ho,qjx ho,ifK_bool,cT]
   . rfl
   . refine qb0 (r1:=b+r1+1) (r2:=b+r1+2) (tags:=[0,1,0,0,1,4]) (by omega) ?_ (by decide)
     repeat' apply And.intro
     all_goals first
      | trivial
      | (intro e he; cases he; done)
      | (intro e he; cases List.mem_singleton.1 he; exact⟨rfl,by dsimp only; omega,by dsimp only; omega⟩)
      | (intro e he; trivial)
  | true=>
   rcases hp with⟨rfl,rfl⟩|⟨y,rfl,hy,hi0⟩
   . simp only[Bool.not_true,qag,nF,oB,cT,gtr0,Nat.lt_irrefl,decide_false,qah,cF,gT,pickV_bool,ons,qar]
     rw[qb3 ?_,qao ho,qjx ho,ifK_bool,cF,qc1 (by omega),oB,ih]
     . rfl
     . refine qb0 (r1:=b+r1+1) (r2:=b+r1+2) (tags:=[0,1,0,0,1,4]) (by omega) ?_ (by decide)
       repeat' apply And.intro
       all_goals first
        | trivial
        | (intro e he; cases he; done)
        | (intro e he; cases List.mem_singleton.1 he; exact⟨rfl,by dsimp only; omega,by dsimp only; omega⟩)
        | (intro e he; trivial)
   . obtain⟨x',r2,o2,y1,y2⟩:=hL.tl.ldOn ho hy []
     have hsub:qa4 E0 .sub 3 false true (.int .i64 (i:Int)) (.int .i64 1)=some (.int .i64 ((i-1:Nat):Int)):=subC 1 (by omega) (by omega);simp only[Bool.not_true,qag,nF,oB,cT,gtr0,hi0,decide_true,qah,cF,pickV_bool,ons,qar,show faP 1 false 1 (.ptr b 0)=some (.ptr b 1)from rfl,hI',hsub,y1,y2,x1,x2,geqStr,bl_lt];rw[qb3 ?_,qao ho,qjx ho,ifK_bool]
     . rw[show okN (some y) p=ltB y p from rfl]
       cases ltB y p with
       | true=>
        rw[Bool.not_true,cF,qc1 (by omega),oB,ih];rfl
       | false=>rfl
     . refine qb0 (r1:=b+r1+r2+1) (r2:=b+r1+r2+2) (tags:=[0,1,0,0,1,4,0,0,0,0,0,0,1,0,0,0,1,0,1,0,0,1]) (by omega) ?_ (by decide)
       repeat' apply And.intro
       all_goals first
        | trivial
        | (intro e he; cases he; done)
        | (intro e he; cases List.mem_singleton.1 he; exact⟨rfl,by dsimp only; omega,by dsimp only; omega⟩)
        | (intro e he; trivial)
end
def varT' (v:Bs×Bs):Bool:=qhb v.1&&decide (v.2.length<=200)
section
variable {S T U:St} {K:FuncId->Option KF}
theorem L29v_spec (hK:RefK K) {m N b N1:Nat} {Tt:Tr V} {vE:V} {l:List (Bs×Bs)} (ho:S.on=false) (hA:AgAt S b 25 4 Tt) (hI:Tt.get 2=some vE) (hL:VLo S vE l N1) (hl:l.length<=1000) (hlp:∀p∈l,p.1.length<=20000) (hlq:∀p∈l,p.2.length<=1000) (nk:Ac->St->Rs) (ek:Nat->Ac->St->Rs) :
 ∀(r:List (Bs×Bs)) (i q:Nat) (prev:Option Bs),l.drop i=r->r.length<q->((i=0/\prev=none)\/∃y,prev=some y.1/\l[i-1]?=some y/\0<i)->
 L21_29 (ev E0 K (m+1)) N nk ek q (.ptr b 0) (.int .i64 (i:Int)) S=if goG varT' Prod.fst prev r then ek 2 (fr 104 []) S else some (.ret (.bool false),S)
 | _,_,0,_,_,hq,_=>by omega
 | [],i,q+1,prev,hi,_,_=>by
  rw[L21_29_eq,show faP 2 false 1 (.ptr b 0)=some (.ptr b 2)from rfl,oB,hA.ld1 ho qdc (by decide) hI,oB];dsimp only;rw[hL.len,oB];dsimp only;rw[qds,dF (Nat.not_lt.2 (qau hi)),oB,ifK_bool,cF];rfl
 | p::r,i,q+1,prev,hi,hq,hp=>by
  obtain⟨hil,hf,hrest,hmem⟩:=qba hi;have hat:l[i]?=some p:=by rw[List.getElem?_eq_getElem hil,hf]
  have ih:=L29v_spec hK (m:=m) (N:=N) ho hA hI hL hl hlp hlq nk ek r (i+1) q (some p.1) hrest (by simpa using hq) (.inr ⟨p,rfl,by rw[Nat.add_sub_cancel]; exact hat,by omega⟩);obtain⟨r1,x1,x2,x3⟩:=hL.cells ho hat;have d1:=dvar_run hK m p.1 (by have:=hlp p hmem; omega) (S.lg []);have hI':=qbx ho (hA.ld1 ho qdc (by decide) hI) [];have hfb:faP 2 false 1 (.ptr b 0)=some (.ptr b 2):=rfl;have hf0:∀r j,faP 0 false 1 (.ptr r (j*2))=some (.ptr r (j*2)):=fun _ _=>rfl;have hf1:∀r j,faP 1 false 1 (.ptr r (j*2))=some (.ptr r (j*2+1)):=fun _ _=>rfl
  have hg:qa4 E0 .gtr 3 false true (.int .i64 (p.2.length:Int)) (.int .i64 200)=some (.bool (decide (200<p.2.length))):=by
   rw[binV_ii,intsV_gtr]; congr 2; simp; omega
  rw[L21_29_eq,hfb,oB,hA.ld1 ho qdc (by decide) hI,oB];dsimp only;rw[hL.len,oB];dsimp only;rw[qds,dT hil,oB,ifK_bool,cT,oB];simp only[ons,qar];rw[hI',oB];simp only[ons,qar];rw[x1,oB,hf0,oB,x2,oB];simp only[ons,qar];rw[d1,qal,unV_not,oB,qlj];unfold varT';cases hvp:qhb p.1 with
  | false=>
   simp only[nF,qag,Bool.not_true,oB,cF,gT,pickV_bool,cT,ons,qar];rw[qb3 ?_,qao ho,qjx ho,ifK_bool,cT]
   . rfl
   . refine qb0 (r1:=b+r1+1) (r2:=b+r1+2) (tags:=[0,1,0,0,0,1]) (by omega) ?_ (by decide)
     repeat' apply And.intro
     all_goals first
      | trivial
      | (intro e he; cases he; done)
      | (intro e he; cases List.mem_singleton.1 he; exact⟨rfl,by dsimp only; omega,by dsimp only; omega⟩)
  | true=>
   simp only[Bool.not_true,qag,nF,oB,cT,hfb,hI',x1,hf1,x3,qa5,hg,pickV_bool,cF,ons,qar];by_cases h200:200<p.2.length
   . rw[dT h200]
     simp only[Bool.not_true,qag,oB,cF,gT,pickV_bool,cT,ons,qar];rw[qb3 ?_,qao ho,qjx ho,ifK_bool,cT,dF (by omega)]
     . rfl
     . refine qb0 (r1:=b+r1+1) (r2:=b+r1+2) (tags:=[0,1,0,0,0,1,0,0,0,0,1,0,0,0,1]) (by omega) ?_ (by decide)
       repeat' apply And.intro
       all_goals first
        | trivial
        | (intro e he; cases he; done)
        | (intro e he; cases List.mem_singleton.1 he; exact⟨rfl,by dsimp only; omega,by dsimp only; omega⟩)
   . rw[dF h200,dT (show p.2.length<=200 by omega)]
     rcases hp with⟨rfl,rfl⟩|⟨y,rfl,hy,hi0⟩
     . simp only[Bool.not_true,qag,nF,oB,cT,gtr0,Nat.lt_irrefl,decide_false,qah,cF,gT,pickV_bool,ons,qar]
       rw[qb3 ?_,qao ho,qjx ho,ifK_bool,cF,qc1 (by omega),oB,ih]
       . rfl
       . refine qb0 (r1:=b+r1+1) (r2:=b+r1+2) (tags:=[0,1,0,0,0,1,0,0,0,0,1,0,0,0,1]) (by omega) ?_ (by decide)
         repeat' apply And.intro
         all_goals first
          | trivial
          | (intro e he; cases he; done)
          | (intro e he; cases List.mem_singleton.1 he; exact⟨rfl,by dsimp only; omega,by dsimp only; omega⟩)
     . obtain⟨r2,y1,y2,y3⟩:=hL.cells ho hy
       have hsub:qa4 E0 .sub 3 false true (.int .i64 (i:Int)) (.int .i64 1)=some (.int .i64 ((i-1:Nat):Int)):=subC 1 (by omega) (by omega);simp only[Bool.not_true,qag,nF,oB,cT,gtr0,hi0,decide_true,qah,cF,pickV_bool,ons,qar,hfb,hI',hsub,y1,hf0,y2,x1,x2,geqStr,bl_lt];rw[qb3 ?_,qao ho,qjx ho,ifK_bool]
       . rw[show okN (some y.1) p.1=ltB y.1 p.1 from rfl]
         cases ltB y.1 p.1 with
         | true=>
          rw[Bool.not_true,cF,qc1 (by omega),oB,ih];rfl
         | false=>rfl
       . refine qb0 (r1:=b+r1+r2+1) (r2:=b+r1+r2+2) (tags:=[0,1,0,0,0,1,0,0,0,0,1,0,0,0,1,0,0,0,0,0,0,0,0,1,0,0,0,0,1,0,1,0,0,0,1]) (by omega) ?_ (by decide)
         repeat' apply And.intro
         all_goals first
          | trivial
          | (intro e he; cases he; done)
          | (intro e he; cases List.mem_singleton.1 he; exact⟨rfl,by dsimp only; omega,by dsimp only; omega⟩)
theorem gtrK (a c:Nat):qa4 E0 .gtr 3 false true (.int .i64 (a:Int)) (.int .i64 (c:Int))=some (.bool (decide (c<a))):=by
 rw[binV_ii,intsV_gtr]; congr 2; simp
theorem dmay_run (hK:RefK K) (hLg:Lg.KnLoc K) {N:Nat} {Tt:Tr V} {d:DD} {vI vE:V} (h:Dx S N Tt d vI vE) (m:Nat):∃U,(ev E0 K (m+5)).f 21 [.agg 4 Tt] S=some (.ret (.bool (qje qf0 qb1 qhb d)),U)/\Grew (fun _=>False) S U:=by
 have ho:=h.on;obtain⟨a1,a2,a3⟩:=qc7 ho 25 4 Tt;have on1:=a2.on.trans ho;have hF:=F21_eq (ev E0 K (m+4)) qa1 (.agg 4 Tt) S;rw[show qjy 25 (.agg 4 Tt) S=some (.ptr S.next 0,(nwP 25 4 Tt S).2)from rfl,oB]at hF;dsimp only at hF;generalize (nwP 25 4 Tt S).2=S1 at a1 a2 a3 on1 hF;have i1:=h.ins.grew a2;have e1:=h.env.grew a2 fun _ _ h=>h;have n1:=a1.ld1 on1 qdc (by decide) h.t.nm;have j1:=a1.ld1 on1 qdc (by decide) h.t.ins;have k1:=a1.ld1 on1 qdc (by decide) h.t.env;have s1:=a1.ld1 on1 qdc (by decide) h.t.scr;have li1:=i1.tl.len (U:=S1);have le1:=e1.len S1;have f10:faP 0 false 1 (.ptr S.next 0)=some (.ptr S.next 0):=rfl;have f11:faP 1 false 1 (.ptr S.next 0)=some (.ptr S.next 1):=rfl;have f12:faP 2 false 1 (.ptr S.next 0)=some (.ptr S.next 2):=rfl;have f13:faP 3 false 1 (.ptr S.next 0)=some (.ptr S.next 3):=rfl;rw[f10,oB,n1,oB]at hF;dsimp only at hF;rw[show ev E0 K (m+4)=ev E0 K (m+2+2)from rfl,qka hK (m+2) d.nm (by have:=h.ln; omega),callP_ret,qk8,oB]at hF;refine⟨S1,rv21 hK (hF.trans ?_),a2⟩
 have hM:qje qf0 qb1 qhb d=(qf0 d.nm&&(decide (d.ins.length<=8)&&(decide (d.env.length<=16)&&(decide (d.scr.length<=4000)&&(goG qb1 id none d.ins&&goG varT' Prod.fst none d.env))))):=by
  unfold qje;rw[goG_eq,goG_eq,Bool.eq_iff_iff];simp only[Option.toList,List.nil_append,List.map_id,bA,decide_eq_true_eq];unfold varT';constructor
  . rintro ⟨⟨⟨⟨⟨h1,h2,h3⟩,h4⟩,h5,h6⟩,h7⟩,h8⟩
    exact⟨h1,h2,h3,h8,⟨h4,h5⟩,h7,h6⟩
  . rintro ⟨h1,h2,h3,h8,⟨h4,h5⟩,h7,h6⟩
    exact⟨⟨⟨⟨⟨h1,h2,h3⟩,h4⟩,h5,h6⟩,h7⟩,h8⟩
 rw[hM];have k8:V.int .i64 8=.int .i64 ((8:Nat):Int):=rfl;have k16:V.int .i64 16=.int .i64 ((16:Nat):Int):=rfl;have k4:V.int .i64 4000=.int .i64 ((4000:Nat):Int):=rfl;cases qf0 d.nm with
 | false=>rfl
 | true=>
  simp only[Bool.not_true,qag,nF,oB,cT,f11,j1,li1,k8,gtrK,pickV_bool,cF];by_cases h8:8<d.ins.length
  . rw[dT h8,dF (show ¬d.ins.length<=8 by omega)]; rfl
  . rw[dF h8,dT (show d.ins.length<=8 by omega)]
    simp only[qag,nF,oB,cT,f12,k1,le1,k16,gtrK,pickV_bool,cF];by_cases h16:16<d.env.length
    . rw[dT h16,dF (show ¬d.env.length<=16 by omega)]; rfl
    . rw[dF h16,dT (show d.env.length<=16 by omega)]
      simp only[qag,nF,oB,cT,f13,s1,qa5,k4,gtrK,pickV_bool,cF,ifK_bool];by_cases h4:4000<d.scr.length
      . rw[dT h4,dF (show ¬d.scr.length<=4000 by omega)]; rfl
      . rw[dF h4,dT (show d.scr.length<=4000 by omega),cF,show V.int .i64 0=.int .i64 ((0:Nat):Int)from rfl,show m+2+2=m+4 from rfl,L79v_spec hK hLg on1 a1 h.t.ins i1 h.li h.lp _ _ d.ins 0 qa1 none rfl (by have:=h.li; unfold qa1; omega) (.inl ⟨rfl,rfl⟩)]
        cases goG qb1 id none d.ins with
        | false=>rfl
        | true=>
         rw[iP rfl,exB_same,R21_25_eq,show V.int .i64 0=.int .i64 ((0:Nat):Int)from rfl,show m+4=m+3+1 from rfl,L29v_spec hK on1 a1 h.t.env e1 h.le h.lv h.lw _ _ d.env 0 qa1 none rfl (by have:=h.le; unfold qa1; omega) (.inl ⟨rfl,rfl⟩)];cases goG varT' Prod.fst none d.env with
         | false=>rfl
         | true=>
          rw[iP rfl,exB_same,R21_26_eq];rfl
end
end Go.Proofs.YtpgegoeghaplkaaGreatDoor.W
