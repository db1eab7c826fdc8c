/-
  WHAT THE FUNCTIONS COME TO: each is read by the evaluator,printed,and told as a function of data,part 14 of 14 (no condition).
-/
import Derived.Test.YtbihlgcdnhoknaaW13
import Derived.Lib.SmallJoins
namespace Go.Proofs.Ytbihlgcdnhoknaa.W
open Go.Proofs.Ytbihlgcdnhoknaa.Ev Go.RowKit
set_option maxRecDepth 100000
section
variable {S U U1:St} {b r:Nat} {T T':Tab} {rb:Nat} {vL vE vL' vE':V} {R R':RT} {k x:Nat} {act:ActR}
theorem doRest_run (h:Pre S b r T rb vL vE R k x act) (m:Nat):∃U T' vL' vE' R',doRest (ev E0 KD (m+6)) (.ptr x 0) (.ptr b 0) (.ptr rb 0) S=some (.ret (.bool true),U)/\Done S U b r T rb vL vE T' vL' vE' R' (k+1):=by
 have hw:ld1 (.ptr x 0) S=some (.int .i64 act.what,S):=h.ld rfl;have q:=fun(c:Int)=>qbl 3 false true .i64 act.what c
 have hr:∀Q,((qa6 E0 .eql 3 false true (.int .i64 act.what) (.int .i64 0)).bind fun t0=>ifK t0 (qlx (ev E0 KD (m+6)) (.ptr x 0) (.ptr b 0) (.ptr rb 0) (.int .i64 act.what) t0 S) (
  (qa6 E0 .eql 3 false true (.int .i64 act.what) (.int .i64 1)).bind fun t1=>ifK t1 (qlx (ev E0 KD (m+6)) (.ptr x 0) (.ptr b 0) (.ptr rb 0) (.int .i64 act.what) t1 S) (
  (qa6 E0 .eql 3 false true (.int .i64 act.what) (.int .i64 2)).bind fun t2=>qlx (ev E0 KD (m+6)) (.ptr x 0) (.ptr b 0) (.ptr rb 0) (.int .i64 act.what) t2 S)))=Q->doRest (ev E0 KD (m+6)) (.ptr x 0) (.ptr b 0) (.ptr rb 0) S=Q:=fun Q hQ=>by
  unfold doRest;rw[qax,oB,Nat.zero_add,hw,oB];exact hQ
 by_cases h0:act.what=0
 . obtain⟨U,T',vL',vE',R',e,d⟩:=qly h m
   refine⟨U,T',vL',vE',R',hr _ ?_,d⟩;rw[q 0,dT h0,oB,ifK_bool,cT];exact e
 by_cases h1:act.what=1
 . obtain⟨U,T',vL',vE',R',e,d⟩:=qly h m
   refine⟨U,T',vL',vE',R',hr _ ?_,d⟩;rw[q 0,dF h0,oB,ifK_bool,cF,q 1,dT h1,oB,ifK_bool,cT];exact e
 by_cases h2:act.what=2
 . obtain⟨U,T',vL',vE',R',e,d⟩:=qly h m
   refine⟨U,T',vL',vE',R',hr _ ?_,d⟩;rw[q 0,dF h0,oB,ifK_bool,cF,q 1,dF h1,oB,ifK_bool,cF,q 2,dT h2,oB];exact e
 have hs:∀Q,qlx (ev E0 KD (m+6)) (.ptr x 0) (.ptr b 0) (.ptr rb 0) (.int .i64 act.what) (.bool false) S=Q->doRest (ev E0 KD (m+6)) (.ptr x 0) (.ptr b 0) (.ptr rb 0) S=Q:=fun Q hQ=>hr _ (by
  rw[q 0,dF h0,oB,ifK_bool,cF,q 1,dF h1,oB,ifK_bool,cF,q 2,dF h2,oB]
  exact hQ)
 by_cases h3:act.what=3
 . obtain⟨U,T',vL',vE',R',e,d⟩:=doLink_run h m
   refine⟨U,T',vL',vE',R',hs _ ?_,d⟩;unfold qlx;rw[ifK_bool,cF,q 3,dT h3,oB,ifK_bool,cT];exact e
 by_cases h4:act.what=4
 . obtain⟨U,T',vL',vE',R',e,d⟩:=doUnlink_run h m
   refine⟨U,T',vL',vE',R',hs _ ?_,d⟩;unfold qlx;rw[ifK_bool,cF,q 3,dF h3,oB,ifK_bool,cF,q 4,dT h4,oB,ifK_bool,cT];exact e
 by_cases h5:act.what=5
 . obtain⟨U,T',vL',vE',R',e,d⟩:=doMove_run h m
   refine⟨U,T',vL',vE',R',hs _ ?_,d⟩;unfold qlx;rw[ifK_bool,cF,q 3,dF h3,oB,ifK_bool,cF,q 4,dF h4,oB,ifK_bool,cF,q 5,dT h5,oB,ifK_bool,cT];exact e
 by_cases h6:act.what=6
 . obtain⟨U,T',vL',vE',R',e,d⟩:=doWrite_run h m
   refine⟨U,T',vL',vE',R',hs _ ?_,d⟩;unfold qlx;rw[ifK_bool,cF,q 3,dF h3,oB,ifK_bool,cF,q 4,dF h4,oB,ifK_bool,cF,q 5,dF h5,oB,ifK_bool,cF,q 6,dT h6,oB,ifK_bool,cT];exact e
 by_cases h7:act.what=7
 . obtain⟨U,T',vL',vE',R',e,d⟩:=doChmod_run h m
   refine⟨U,T',vL',vE',R',hs _ ?_,d⟩;unfold qlx;rw[ifK_bool,cF,q 3,dF h3,oB,ifK_bool,cF,q 4,dF h4,oB,ifK_bool,cF,q 5,dF h5,oB,ifK_bool,cF,q 6,dF h6,oB,ifK_bool,cF,q 7,dT h7,oB,ifK_bool,cT];exact e
 obtain⟨U,T',vL',vE',R',e,d⟩:=doFind_run h m;refine⟨U,T',vL',vE',R',hs _ ?_,d⟩;unfold qlx;rw[ifK_bool,cF,q 3,dF h3,oB,ifK_bool,cF,q 4,dF h4,oB,ifK_bool,cF,q 5,dF h5,oB,ifK_bool,cF,q 6,dF h6,oB,ifK_bool,cF,q 7,dF h7,oB,ifK_bool,cF];exact e
theorem rd21 {n:Nat} {args:List V} {s:St} {r:En×St} (e:qb6 E0 (ev E0 KD n) qa4 Try.f21 B21 args s=some r):(ev E0 KD (n+1)).f 21 args s=some r:=qaa (c:=C21) (d:=B21) (by kernel_rfl) (by kernel_rfl) (qa5 C21 _ (by kernel_rfl)) rfl e
theorem set7_6 (a b c d e f g v:V):(Tr.ofListFrom .nil [a,b,c,d,e,f,g] 0).set v 6=Tr.ofListFrom .nil [a,b,c,d,e,f,v] 0:=by kernel_rfl
theorem atS_refl (ho:S.on=false):atS S S=S:=atS_self ho
theorem do_run (h:Bo S b r T rb vL vE R k) (hk:k<=60) (m:Nat) (act:ActR) (n1:act.name.length<9223372036854775808) (n2:act.nm2.length<9223372036854775808):∃U T' vL' vE' R',(ev E0 KD (m+7)).f 21 [qbz [.ptr b 0,.ptr rb 0],qbz act.cells] S=some (.ret (.bool true),U)/\Done S U b r T rb vL vE T' vL' vE' R' (k+1):=by
 have ho:=h.tab.on;obtain⟨A,a1,a2,a3,a4⟩:=qex ho 57 [.ptr b 0,.ptr rb 0];have onA:=a3.on.trans ho;obtain⟨B,b1,b2,b3,b4⟩:=qex onA 60 act.cells;have onB:=b3.on.trans onA;have a2B:=a2.grew (by omega) (fun h=>h) b3;have s1:=qof onB b2 rfl (m:=({act with data:=act.data.take 300}:ActR).cells) rfl (i:=6) (by show 6<7; omega) (by show 1<7; omega) qo8 (set7_6 _ _ _ _ _ _ _ (sv (act.data.take 300))) (qfx _);have g1:Grew (fun y=>y=A.next) B (B.put A.next (bxO 60 ({act with data:=act.data.take 300}:ActR).cells)):=qan _ _;have bx1:Bx (B.put A.next (bxO 60 ({act with data:=act.data.take 300}:ActR).cells)) A.next 60 ({act with data:=act.data.take 300}:ActR).cells:=qi8 _ _ _
 generalize B.put A.next (bxO 60 ({act with data:=act.data.take 300}:ActR).cells)=C at s1 g1 bx1
 have gC:Grew (fun _=>False) S C:=(a3.trans b3).own (x:=A.next) a3.next g1
 have hpre:Pre C b r T rb vL vE R k A.next {act with data:=act.data.take 300}:=⟨h.grew0 gC,hk,bx1,by have:=g1.next; omega,fun o=>by have:=own_lt h.tab o; have:=a3.next; omega,fun o=>by have:=h.ref.own_lt o; have:=a3.next; omega,n1,n2,by show(act.data.take 300).length<=300; rw[List.length_take]; omega⟩
 obtain⟨U,T',vL',vE',R',e,d⟩:=doRest_run hpre m;refine⟨U,T',vL',vE',R',rd21 ?_,⟨d.bo,(gC.mono fun _ _ h=>h.elim).trans d.gr,fun y hy=>(d.own y hy).imp_right fun q=>Nat.le_trans gC.next q⟩⟩;show F21 (ev E0 KD (m+6)) qa4 (qbz [.ptr b 0,.ptr rb 0]) (qbz act.cells) S=_;rw[F21_eq,a1,oB];dsimp only;rw[b1,oB];dsimp only;rw[qax,oB,Nat.zero_add,Bx6.ldL onB a2B qcp (i:=0) (v:=.ptr b 0) rfl,oB];dsimp only;rw[qax,oB,Nat.zero_add,qa1,Bx6.ldL onB a2B qcp (i:=1) (v:=.ptr rb 0) rfl,oB];dsimp only
 rw[qca (qfz (x:=S.next) (by
  repeat' (first|exact rx1 _ _ _|exact(rx1 _ _ _).wx|exact trivial|apply And.intro))),qa1,qbf onB,atS_refl onB,qax,oB,Nat.zero_add,Bx6.ld onB b2 qo8 (i:=6) (v:=sv act.data) rfl,oB]
 dsimp only;rw[oB,Bx6.ld onB b2 qo8 (i:=6) (v:=sv act.data) rfl,oB];dsimp only;rw[lnStr_sv,oB];dsimp only;rw[foldK_min,show min (act.data.length:Int) 300=((min act.data.length 300:Nat):Int) by omega,oB];dsimp only;rw[cutN,oB,oB];dsimp only;rw[s1,oB];exact e
end
def Rd (L:List LE):Prop:=∀e∈L,e.w=false
theorem rd1 (x a c:Nat):Rd [⟨x,a,c,false⟩]:=fun e he=>by
 rw[List.mem_singleton]at he;subst he; rfl
theorem rd0:Rd []:=fun e he=>by cases he
def PR (logs:List (List LE)):List Nat->Prop
 | []=>True
 | j::js=>Rd (qcr j logs)/\PR logs js
def PB2 (x:Nat) (logs:List (List LE)):List (Nat×List Nat)->Prop
 | []=>True
 | p::r=>((Rd (qcr p.1 logs)/\PR logs p.2)\/(Wx x (qcr p.1 logs)/\PJ x logs p.2))/\PB2 x logs r
theorem pr_clash {logs:List (List LE)} {L:List LE} (hw:Rd L):∀{js:List Nat},PR logs js->qcg L logs js=false
 | [],_=>rfl
 | j::js,h=>by
  unfold qcg;rw[qok fun e he f hf=>.inr ⟨hw e he,h.1 f hf⟩,cF];exact pr_clash hw h.2
theorem qm8 {x:Nat} {logs:List (List LE)}:∀{prs:List (Nat×List Nat)},PB2 x logs prs->qb0 logs prs=true
 | [],_=>rfl
 | (i,js)::prs,h=>by
  unfold qb0;rcases h.1 with⟨h1,h2⟩|⟨h1,h2⟩
  . rw[pr_clash h1 h2,cF]
    exact qm8 h.2
  . rw[pj_clash h1 h2,cF]
    exact qm8 h.2
section
variable {S U U1:St} {b r:Nat} {T T':Tab} {rb:Nat} {vL vE vL' vE':V} {R R':RT} {k x:Nat}
theorem Bx.ldAL {e n:Nat} {l:List V} (h:Bx S x e l) (hn:n=l.length) (hl:l.length<big):Ev.ldA n (.ptr x 0) (onS S)=some (qbz l,S.lg [⟨x,0,n,false⟩]):=by
 rw[Bx.ldAOn h hn hl];unfold rd;rw[Nat.zero_add]; rfl
theorem ino35 (a c e:Int) (d d':Bs) (a' c' e':Int):qa6 E0 .neq 35 false false (qbz [.int .i64 a,.int .i64 c,sv d,.int .i64 e]) (qbz [.int .i64 a',.int .i64 c',sv d',.int .i64 e'])=(bif iEq a a' then(bif iEq c c' then(bif sEq d.length (qaz d) d'.length (qaz d')then(bif iEq e e' then some true else some false)else some false)else some false)else some false).bind fun b=>some (.bool (!b)):=by kernel_rfl
theorem ino35_same (a c e:Int) (d:Bs):qa6 E0 .neq 35 false false (qbz [.int .i64 a,.int .i64 c,sv d,.int .i64 e]) (qbz [.int .i64 a,.int .i64 c,sv d,.int .i64 e])=some (.bool false):=by
 rw[ino35,qga,qga,qga,qq2,beq_self_eq_true,beq_self_eq_true,beq_self_eq_true,beq_self_eq_true]; rfl
theorem Bo.node (h:Bo S b r T rb vL vE R k) (hk:k<=60) (m:Nat) (i:Int):∃a c d e q,(∃U,(ev E0 KD (m+2)).f 12 [.ptr b 0,.int .i64 i] S=some (.ret (.tuple [qbz [.int .i64 a,.int .i64 c,sv d,.int .i64 e],.bool q]),U)/\Grew (fun _=>False) S U)/\R.node i=(qbz [.int .i64 a,.int .i64 c,sv d,.int .i64 e],q):=by
 have hn:=h.ok.rel.node i;cases hg:T.get i with
 | none=>
  rw[hg]at hn;obtain⟨U,u1,u2,u3⟩:=node_none h.tab m i hg;exact⟨_,_,_,_,_,⟨U,u1,u3⟩,hn⟩
 | some p=>
  rw[hg]at hn;obtain⟨U,u1,u2,u3⟩:=node_run h.tab m i hg;exact⟨_,_,_,_,_,⟨U,u1,u3⟩,hn⟩
theorem Bo.namesOk (h:Bo S b r T rb vL vE R k) (hk:k<=60) (i:Int):∀p,T.get i=some p->(p.ino.ents.map (·.1)).Nodup/\(∀e∈p.ino.ents,e.1.length<4611686018427387904)/\p.ino.ents.length<1000000:=fun p hp=>by
 have hl:=h.ok.entsL hp;refine⟨h.ok.sd.nod i p hp,fun e he=>?_,by omega⟩;rw[(h.ok.rel.nod i p hp).2.2.1]at he;obtain⟨e',e1,e2,e3,e4⟩:=entsR_mem.1 he;have:=h.ok.rel.nam e' e1;rw[<- e3]; omega
theorem same_round (h:Bo S b r T rb vL vE R k) (hk:k<=60) (m:Nat) (hb:Bx S x 57 [.ptr b 0,.ptr rb 0]) (hlt:x<S.next) (hno:¬Own b r T x) (nk:Ac->St->Rs) (ek:Nat->Ac->St->Rs) (N q:Nat) (i:Int) (hi:-1000<=i/\i<=(R.L.length:Int)+1) :
 ∃U,L22_30 (ev E0 KD (m+6)) N nk ek (q+1) (.ptr x 0) (.int .i64 i) S=L22_30 (ev E0 KD (m+6)) N nk ek q (.ptr x 0) (.int .i64 (i+1)) U/\Grew (fun _=>False) S U:=by
 have hfw:=h.ok.fw hk;have hL:=h.ok.lenL;obtain⟨a,c,d,e,qq,⟨S1,s1,s2⟩,hnode⟩:=h.node hk (m+4) i;have h1:=h.grew0 s2;have b1:=hb.grew hlt (fun h=>h) s2;obtain⟨S2,t1,t2,t3,t4⟩:=qf2 h1.tab.on 35 4 (Tr.ofListFrom .nil [(.int .i64 0),(.int .i64 0),(sv []),(.int .i64 0)] 0) [.int .i64 a,.int .i64 c,sv d,.int .i64 e] rfl (by omega) qi6;have h2:=h1.grew0 t3;have lt1:x<S1.next:=Nat.lt_of_lt_of_le hlt s2.next
 have b2:=b1.grew lt1 (fun h=>h) t3;have lt2:x<S2.next:=by omega
 obtain⟨S3,u1,u2⟩:=nodeV_run h2.ref hfw (m+4) i;rw[hnode]at u1;have h3:=h2.grew0 u2;obtain⟨X,w1,w2,w3,w4⟩:=qf2 h3.tab.on 35 4 (Tr.ofListFrom .nil [(.int .i64 0),(.int .i64 0),(sv []),(.int .i64 0)] 0) [.int .i64 a,.int .i64 c,sv d,.int .i64 e] rfl (by omega) qi6;have hX:=h3.grew0 w3;have onX:=hX.tab.on;have gX:=((s2.trans t3).trans u2).trans w3;have bX:=hb.grew hlt (fun h=>h) gX;have ltX:x<X.next:=Nat.lt_of_lt_of_le hlt gX.next
 have t2X:=(t2.grew (by omega) (fun h=>h) u2).grew (show S1.next<S3.next by have:=u2.next; omega) (fun h=>h) w3;have up1:=up_run hX.tab (m+4) i;obtain⟨L1,p1,p2⟩:=qn6 bX ltX (up_run (hX.tab.icy (e:=57) (z:=2) (n:=1) (c:=Tr.ofListFrom .nil [Tr.ofListFrom .nil [.ptr b 0,.ptr rb 0] 0] 0) hno) (m+4) i) up1;have p1':(ev E0 KD (m+6)).f 17 [.ptr b 0,.int .i64 i] (onS X)=some (.ret (.int .i64 (R.up i)),X.lg L1):=p1.trans (congrArg (fun z=>some (En.ret (V.int .i64 z),X.lg L1)) (hX.ok.rel.up hX.ok.sd i));obtain⟨L2,p3⟩:=Lg.ev_onS lgD (upV_run hX.ref hfw (m+4) i);obtain⟨v,Y,n1,n2,n3⟩:=names_run hX.tab (m+4) i (hX.namesOk hk i);obtain⟨v',Y',n1',_,_⟩:=names_run (hX.tab.icy (e:=57) (z:=2) (n:=1) (c:=Tr.ofListFrom .nil [Tr.ofListFrom .nil [.ptr b 0,.ptr rb 0] 0] 0) hno) (m+4) i (hX.namesOk hk i);obtain⟨L3,p4,p5⟩:=qn6 bX ltX n1' n1;have hY:=hX.grew0 n3;have bY:=bX.grew ltX (fun h=>h) n3;obtain⟨v2,Z,z1,z2,z3⟩:=namesV_run hY.ref hfw (m+5) i;obtain⟨L4,p6⟩:=Lg.ev_onS lgD z1;have hZ:=hY.grew0 z3
 have n2Z:TL Z v (R.namesR i):=by
  rw[<- h.ok.rel.names h.ok.sd]; exact n2.grew0 z3
 have hnl:(R.namesR i).length<1000000:=by
  rw[<- h.ok.rel.names h.ok.sd];unfold Tab.names;cases hg:T.get i with
  | none=>exact Nat.zero_lt_succ _
  | some p=>
   dsimp only;rw[(qfk _).length_eq,lM];exact(h.namesOk hk i p hg).2.2
 obtain⟨L5,p7⟩:=Lg.ev_onS lgD (texts_same hZ.tab.on n2Z z2 hnl (m+5));refine⟨atS Z X,?_,((gX.trans n3).trans z3).trans (qds rfl rfl hZ.tab.on.symm)⟩;rw[L22_30_eq,qax,oB,Nat.zero_add,Bx6.ld h.tab.on hb qcp (i:=1) (v:=.ptr rb 0) rfl,oB];dsimp only;rw[qc5,oB,qax,oB,Nat.zero_add,h.ref.ldL,oB];dsimp only;rw[h.ref.lenL,oB];dsimp only;rw[qlt _ _ _ _ _ (by unfold qaj; omega) (by unfold qaj; omega),oB,leqI,dT (by omega),oB,ifK_bool,cT,qax,oB,Nat.zero_add,Bx6.ld h.tab.on hb qcp (i:=0) (v:=.ptr b 0) rfl,oB];dsimp only;rw[s1,callP_ret,ext0,oB,ext1,oB,oB,qdz,t1,oB];dsimp only;rw[oB,Bx6.ld h2.tab.on b2 qcp (i:=1) (v:=.ptr rb 0) rfl,oB];dsimp only;rw[u1,callP_ret,ext0,oB,ext1,oB,oB,qdz,w1,oB];dsimp only;rw[Bx.ldAL (n:=4) t2X rfl qi6,oB];dsimp only;rw[qa1,Bx.ldAL (n:=4) w2 rfl qi6,oB];dsimp only;rw[ino35_same,oB];simp only[gFF,oB,cT];rw[neqB,bne_self_eq_false,oB,pickV_bool,cF,oB];simp only[gFF,oB,cT,qax,Nat.zero_add];rw[qa1,Bx6.ldL onX bX qcp (i:=0) (v:=.ptr b 0) rfl,oB];dsimp only;rw[qa1,p1',qa7,qa1,Bx6.ldL onX bX qcp (i:=1) (v:=.ptr rb 0) rfl,oB];dsimp only;rw[qa1,p3,qa7,qna,dT rfl,oB,pickV_bool,cF,Bool.not_true,oB];simp only[gFF,oB,cT,qax,Nat.zero_add];rw[qa1,Bx6.ldL onX bX qcp (i:=0) (v:=.ptr b 0) rfl,oB];dsimp only;rw[qa1,p4,qa7,qa1,Bx6.ldL hY.tab.on bY qcp (i:=1) (v:=.ptr rb 0) rfl,oB];dsimp only
 rw[qa1,p6,qa7,qa1,p7,qa7,show unV .not (V.bool true)=some (.bool false)from rfl,oB,pickV_bool,cF,oB]
 rw[qca (qm8 (x:=x) (by
  refine⟨.inl ⟨rd1 _ _ _,rd1 _ _ _,trivial⟩,.inr ⟨(rx1 _ _ _).wx,rx1 _ _ _,trivial⟩,.inr ⟨p2,rx1 _ _ _,trivial⟩,.inr ⟨(rx1 _ _ _).wx,rx1 _ _ _,trivial⟩,.inr ⟨p5,rx1 _ _ _,trivial⟩,trivial⟩)),qa1,qbf onX,ifK_bool,cF,qlt _ _ _ _ _ (by unfold qaj; omega) (by unfold qaj; omega),oB]
end
def PK (logs:List (List LE)) (i:Nat):List Nat->Prop
 | []=>True
 | j::js=>((Rd (qcr i logs)/\Rd (qcr j logs))\/∃y,Wx y (qcr i logs)/\Rx y (qcr j logs))/\PK logs i js
def PB3 (logs:List (List LE)):List (Nat×List Nat)->Prop
 | []=>True
 | p::r=>PK logs p.1 p.2/\PB3 logs r
theorem pk_clash {logs:List (List LE)} {i:Nat}:∀{js:List Nat},PK logs i js->qcg (qcr i logs) logs js=false
 | [],_=>rfl
 | j::js,h=>by
  unfold qcg
  rw[qok fun e he f hf=>by
   rcases h.1 with⟨h1,h2⟩|⟨y,h1,h2⟩
   . exact .inr ⟨h1 e he,h2 f hf⟩
   . obtain⟨f1,f2⟩:=h2 f hf
     rcases h1 e he with q|q
     . exact .inr ⟨q,f1⟩
     . exact .inl (by rw[f2]; exact q),cF]
  exact pk_clash h.2
theorem qha {logs:List (List LE)}:∀{prs:List (Nat×List Nat)},PB3 logs prs->qb0 logs prs=true
 | [],_=>rfl
 | (i,js)::prs,h=>by
  unfold qb0;rw[pk_clash h.1,cF];exact qha h.2
section
variable {S U U1:St} {b r:Nat} {T T':Tab} {rb:Nat} {vL vE vL' vE':V} {R R':RT} {k x:Nat}
theorem lg_inj {L L':List LE} (h:U.lg L=U.lg L'):L=L':=congrArg St.log h
theorem cells_42 (a b c d:V):qfo (Tr.ofListFrom .nil [Tr.ofListFrom .nil [a,b,c,d] 0] 0) 4 0 2 0 .nil=Tr.ofListFrom .nil [a,b] 0:=by kernel_rfl
theorem RAt.quotaL (h:RAt S rb vL vE R):Ev.ldA 2 (.ptr rb 0) (onS S)=some (qbz [.int .i64 R.qi,.int .i64 R.qb],S.lg [⟨rb,0,0+2,false⟩]):=by
 have hb:(S.lg []).heap.get rb=_:=h.bx;have hl:([V.int .i64 R.qi,.int .i64 R.qb,vL,vE]:List V).length=4:=rfl;rw[hl]at hb;show((ldK (S.lg []) rb 0 2).bind fun q=>some (V.agg 2 q.1,q.2))=_;unfold ldK;rw[hb];simp only[show Nat.ble (0+2) (4*1)=true from rfl,show Nat.blt (4*1) big=true from by unfold big; decide,Bool.and_self,cT];unfold qf3;rw[show Nat.beq 2 4=false from rfl];simp only[Bool.false_and,cF,oB,note_lg];rw[cells_42]; rfl
theorem fz_quota (h:Bo S b r T rb vL vE R k) (m:Nat) {e:Nat} {l:List V} (hb:Bx S x e l) (hlt:x<S.next) (hno:¬Own b r T x):∃U L,(ev E0 KD (m+1)).f 54 [.ptr b 0] (onS S)=some (.ret (qbz [.int .i64 T.qi,.int .i64 T.qb]),U.lg L)/\Wx x L/\Wx rb L/\Grew (fun _=>False) S U:=by
 obtain⟨U,u1,u2,u3⟩:=qpv h.tab m;obtain⟨U',u1',_,_⟩:=qpv (h.tab.icy (e:=e) (z:=l.length) (n:=1) (c:=Tr.ofListFrom .nil [Tr.ofListFrom .nil l 0] 0) hno) m;obtain⟨L,p1,p2⟩:=qn6 hb hlt u1' u1;have hnr:¬Own b r T rb:=fun o=>h.sep _ o (.inl rfl);obtain⟨U2,u2',_,_⟩:=qpv (h.tab.icy (x:=rb) (e:=86) (z:=4) (n:=1) (c:=Tr.ofListFrom .nil [Tr.ofListFrom .nil [.int .i64 R.qi,.int .i64 R.qb,vL,vE] 0] 0) hnr) m;obtain⟨L',p3,p4⟩:=qn6 h.ref.bx h.ref.lt u2' u1
 have hL:L'=L:=by
  rw[p1]at p3;simp only[oS,pM,true_and]at p3;exact(lg_inj p3).symm
 rw[hL]at p4;exact⟨U,L,p1,p2,p4,u3⟩
theorem same_end (h:Bo S b r T rb vL vE R k) (hk:k<=60) (m:Nat) (hb:Bx S x 57 [.ptr b 0,.ptr rb 0]) (hlt:x<S.next) (hno:¬Own b r T x) (nk:Ac->St->Rs) (ek:Nat->Ac->St->Rs) (N:Nat) :
 ∃U,R22_2 (ev E0 KD (m+6)) N nk ek (fr 88 [(1,.ptr x 0)]) S=some (.ret (.bool true),U)/\Grew (fun _=>False) S U:=by
 have hfw:=h.ok.fw hk;have onS0:=h.tab.on;obtain⟨U1,u1,u2,u3⟩:=used_run h.tab (m+5);obtain⟨U1',u1',_,_⟩:=used_run (h.tab.icy (e:=57) (z:=2) (n:=1) (c:=Tr.ofListFrom .nil [Tr.ofListFrom .nil [.ptr b 0,.ptr rb 0] 0] 0) hno) (m+5);obtain⟨L1,p1,p2⟩:=qn6 hb hlt u1' u1;have h1:=h.grew0 u3;have b1:=hb.grew hlt (fun h=>h) u3;have lt1:x<U1.next:=Nat.lt_of_lt_of_le hlt u3.next
 obtain⟨U2,v1,v2⟩:=usedV_run h1.ref hfw h.ok.shortI (m+5);obtain⟨L2,p3⟩:=Lg.ev_onS lgD v1;have h2:=h1.grew0 v2;have b2:=b1.grew lt1 (fun h=>h) v2;have lt2:x<U2.next:=Nat.lt_of_lt_of_le lt1 v2.next
 obtain⟨U3,L3,p4,p5,p6,w3⟩:=fz_quota h2 (m+5) b2 lt2 hno;have h3:=h2.grew0 w3;have b3:=b2.grew lt2 (fun h=>h) w3;obtain⟨L4,p7⟩:=Lg.ev_onS lgD (root_run (m+5) b U3);refine⟨atS U3 S,?_,((u3.trans v2).trans w3).trans (qds rfl rfl h3.tab.on.symm)⟩;rw[R22_2_eq,qax,oB,Nat.zero_add,Bx6.ldL onS0 hb qcp (i:=0) (v:=.ptr b 0) rfl,oB];dsimp only;rw[qa1,p1,qa7,qax,oB,Nat.zero_add,qa1,Bx6.ldL h1.tab.on b1 qcp (i:=1) (v:=.ptr rb 0) rfl,oB];dsimp only;rw[qa1,p3,qa7,h.ok.rel.used.1,h.ok.rel.used.2,qlk,oB];simp only[gTT,oB,cT,qax,Nat.zero_add];rw[qa1,Bx6.ldL h2.tab.on b2 qcp (i:=0) (v:=.ptr b 0) rfl,oB];dsimp only;rw[qa1,p4,qa7,qa1,Bx6.ldL h3.tab.on b3 qcp (i:=1) (v:=.ptr rb 0) rfl,oB];dsimp only;rw[qc5,oB,qax,oB,Nat.zero_add,qa1,h3.ref.quotaL,oB];dsimp only;rw[h.ok.rel.q.1,h.ok.rel.q.2,qlk,oB,pickV_bool,cT,oB];simp only[gTT,oB,cT];rw[qa1,Bx6.ldL h3.tab.on b3 qcp (i:=0) (v:=.ptr b 0) rfl,oB];dsimp only;rw[qa1,p7,qa7,qbl,dT rfl,oB,pickV_bool,cT,oB]
 rw[qca (qha (by
  refine⟨⟨.inl ⟨rd1 _ _ _,rd1 _ _ _⟩,trivial⟩,⟨.inr ⟨x,p2,rx1 _ _ _⟩,trivial⟩,⟨.inl ⟨rd1 _ _ _,rd1 _ _ _⟩,.inl ⟨rd1 _ _ _,rd1 _ _ _⟩,trivial⟩,⟨.inr ⟨x,p5,rx1 _ _ _⟩,.inr ⟨rb,p6,rx1 _ _ _⟩,trivial⟩,trivial⟩)),qa1,qbf onS0]
theorem same_loop (hk:k<=60) (m:Nat) (hno:¬Own b r T x) (nk:Ac->St->Rs) (ek:Nat->Ac->St->Rs) (N:Nat) (n:Nat):∀(S:St) (i:Int) (q:Nat),Bo S b r T rb vL vE R k->Bx S x 57 [.ptr b 0,.ptr rb 0]->x<S.next->i+n=(R.L.length:Int)+2->-1<=i->n<q->
 ∃U,L22_30 (ev E0 KD (m+6)) N nk ek q (.ptr x 0) (.int .i64 i) S=ek 0 (fr 88 [(1,.ptr x 0)]) U/\Grew (fun _=>False) S U:=by
 induction n with
 | zero=>
  intro S i q h hb hlt hi h1 hq;cases q with
  | zero=>omega
  | succ q=>
   have hL:=h.ok.lenL;refine⟨S,?_,Grew.refl _ _⟩;rw[L22_30_eq,qax,oB,Nat.zero_add,Bx6.ld h.tab.on hb qcp (i:=1) (v:=.ptr rb 0) rfl,oB];dsimp only;rw[qc5,oB,qax,oB,Nat.zero_add,h.ref.ldL,oB];dsimp only;rw[h.ref.lenL,oB];dsimp only;rw[qlt _ _ _ _ _ (by unfold qaj; omega) (by unfold qaj; omega),oB,leqI,dF (by omega),oB,ifK_bool,cF]
 | succ n ih=>
  intro S i q h hb hlt hi h1 hq;cases q with
  | zero=>omega
  | succ q=>
   obtain⟨U1,u1,u2⟩:=same_round h hk m hb hlt hno nk ek N q i (by omega);obtain⟨U,v1,v2⟩:=ih U1 (i+1) q (h.grew0 u2) (hb.grew hlt (fun h=>h) u2) (Nat.lt_of_lt_of_le hlt u2.next) (by omega) (by omega) (by omega);exact⟨U,u1.trans v1,u2.trans v2⟩
theorem rd22 {n:Nat} {args:List V} {s:St} {r:En×St} (e:qb6 E0 (ev E0 KD n) qa4 Try.f22 B22 args s=some r):(ev E0 KD (n+1)).f 22 args s=some r:=qaa (c:=C22) (d:=B22) (by kernel_rfl) (by kernel_rfl) (qa5 C22 _ (by kernel_rfl)) rfl e
theorem same_run (h:Bo S b r T rb vL vE R k) (hk:k<=60) (m:Nat):∃U,(ev E0 KD (m+7)).f 22 [qbz [.ptr b 0,.ptr rb 0]] S=some (.ret (.bool true),U)/\Grew (fun _=>False) S U:=by
 obtain⟨A,a1,a2,a3,a4⟩:=qex h.tab.on 57 [.ptr b 0,.ptr rb 0];have hA:=h.grew0 a3;have hno:¬Own b r T S.next:=fun o=>by have:=own_lt h.tab o; omega
 have hL:=h.ok.lenL;obtain⟨B,b1,b2⟩:=same_loop (m:=m) hk hno (R22_2 (ev E0 KD (m+6)) qa4 (qc0 E0 (ev E0 KD (m+6)) Try.f22) qbd) (exB 0 (R22_2 (ev E0 KD (m+6)) qa4 (qc0 E0 (ev E0 KD (m+6)) Try.f22) qbd) qbd) qa4 (R.L.length+3) A (-1) qa4 hA a2 (by omega) (by omega) (by omega) (by unfold qa4; omega);obtain⟨C,c1,c2⟩:=same_end (hA.grew0 b2) hk m (a2.grew (by omega) (fun h=>h) b2) (by have:=b2.next; omega) hno (qc0 E0 (ev E0 KD (m+6)) Try.f22) qbd qa4;refine⟨C,rd22 ?_,(a3.trans b2).trans c2⟩;show F22 (ev E0 KD (m+6)) qa4 (qbz [.ptr b 0,.ptr rb 0]) S=_;rw[F22_eq,a1,oB];refine b1.trans ?_;rw[exB_same];exact c1
end
section
variable {S U U1:St} {b r:Nat} {T T':Tab} {rb:Nat} {vL vE vL' vE':V} {R R':RT} {k x z:Nat}
noncomputable def actV (x:ActR):V:=qbz x.cells
def qmi (v:V) (l:List ActR):Prop:=((l=[]/\(v=.nilslice\/v=.eslice))\/v=.list 7 (l.map actV))/\∀a∈l,a.name.length<9223372036854775808/\a.nm2.length<9223372036854775808
theorem plays_len {v:V} {l:List ActR} (h:qmi v l):lnS v S=some (.int .i64 (l.length:Int),S):=by
 rcases h.1 with⟨rfl,rfl|rfl⟩|rfl
 . rfl
 . rfl
 . show some (V.int .i64 (((l.map actV).length:Nat):Int),S)=_
   rw[lM]
theorem plays_ix {v:V} {l:List ActR} (h:qmi v l) {i:Nat} (hi:i<l.length):ixP 7 v (.int .i64 (i:Int))=some (.cptr (actV l[i])):=by
 rcases h.1 with⟨rfl,_⟩|rfl
 . simp at hi
 . rw[ixP_list 7 _ .i64 i (by rw[lM]; exact hi) (by decide),List.getElem_map]
theorem act_ld (x:ActR):ldA 7 (.cptr (actV x)) S=some (actV x,S):=rfl
theorem L638_end {self:EV} {N:Nat} (nk:Ac->St->Rs) (ek:Nat->Ac->St->Rs) {l:List ActR} {v1 v7:V} (hv:qmi v1 l) (q:Nat) {i:Nat} (h:l.length<=i\/60<=i):L6_38 self N nk ek (q+1) v1 v7 (.int .i64 (i:Int)) S=ek 0 (fr 58 [(7,v7)]) S:=by
 rw[L6_38_eq,plays_len hv,oB];dsimp only;rw[qjc,oB];by_cases hi:(i:Int)<(l.length:Int)
 . rw[dT hi]
   simp only[gTT,oB,cT];rw[qjc,dF (by omega),oB,pickV_bool,cT,oB,ifK_bool,cF]
 . rw[dF hi]
   simp only[gTF,oB,cF,pickV_bool,ifK_bool]
theorem L638_round (h:Bo S b r T rb vL vE R k) (hk:k<60) (m:Nat) (hz:Bx S z 57 [.ptr b 0,.ptr rb 0]) (hlt:z<S.next) (hno:¬Own b r T z) (hnr:¬ROwn rb vL vE z) {N:Nat} (nk:Ac->St->Rs) (ek:Nat->Ac->St->Rs) {l:List ActR} {v1:V} (hv:qmi v1 l) (q:Nat) {i:Nat} (hi:i<l.length) (hi2:i<60) :
 ∃U T' vL' vE' R',L6_38 (ev E0 KD (m+7)) N nk ek (q+1) v1 (.ptr z 0) (.int .i64 (i:Int)) S=L6_38 (ev E0 KD (m+7)) N nk ek q v1 (.ptr z 0) (.int .i64 ((i+1:Nat):Int)) U/\Bo U b r T' rb vL' vE' R' (k+1)/\Bx U z 57 [.ptr b 0,.ptr rb 0]/\z<U.next/\¬Own b r T' z/\¬ROwn rb vL' vE' z:=by
 obtain⟨n1,n2⟩:=hv.2 _ (List.getElem_mem hi);obtain⟨U1,T',vL',vE',R',u1,u2⟩:=do_run h (by omega) m l[i] n1 n2;obtain⟨L1,p1⟩:=Lg.ev_onS lgD u1;obtain⟨U2,v2,w2⟩:=same_run u2.bo (by omega) m;obtain⟨L2,p2⟩:=Lg.ev_onS lgD v2;have ho:=h.tab.on;have hz1:Bx U1 z 57 [.ptr b 0,.ptr rb 0]:=hz.grew hlt (fun q=>q.elim hno hnr) u2.gr;have lt1:z<U1.next:=Nat.lt_of_lt_of_le hlt u2.gr.next
 have g2:Grew (fun _=>False) U1 (atS U2 S):=w2.trans (qds rfl rfl (w2.on.trans u2.bo.tab.on).symm);refine⟨atS U2 S,T',vL',vE',R',?_,u2.bo.grew0 g2,hz1.grew lt1 (fun h=>h) g2,Nat.lt_of_lt_of_le lt1 g2.next,fun o=>?_,fun o=>?_⟩
 . rw[L6_38_eq,plays_len hv,oB]
   dsimp only;rw[qjc,dT (by omega),oB];simp only[gTT,oB,cT];rw[qjc,dT (by omega),oB,pickV_bool,cT,oB,ifK_bool,cT,Bx.ldAL (n:=2) hz rfl qcp,oB];dsimp only;rw[plays_ix hv hi,oB,act_ld,oB];dsimp only;rw[qa1,show onS (onS S)=onS S from rfl,show(ev E0 KD (m+7)).f 21 [qbz [.ptr b 0,.ptr rb 0],actV l[i]] (onS S)=_ from p1,qa7,show unV .not (V.bool true)=some (.bool false)from rfl,oB];simp only[gFF,oB,cT];rw[qa1,Bx.ldAL (n:=2) hz1 rfl qcp,oB];dsimp only
   rw[qa1,p2,qa7,show unV .not (V.bool true)=some (.bool false)from rfl,oB,pickV_bool,cF,oB,qca (qha (by
    refine⟨⟨.inl ⟨rd1 _ _ _,rd0⟩,trivial⟩,trivial⟩)),qa1,qbf ho,ifK_bool,cF,qlt _ _ _ _ _ (by unfold qaj; omega) (by unfold qaj; omega),oB]
   rfl
 . rcases u2.own z (.inl o)with q|q
   . exact q.elim hno hnr
   . omega
 . rcases u2.own z (.inr o)with q|q
   . exact q.elim hno hnr
   . omega
theorem L638_spec (m:Nat) {N:Nat} (nk:Ac->St->Rs) (ek:Nat->Ac->St->Rs) {l:List ActR} {v1:V} (hv:qmi v1 l) (n:Nat):∀(i q:Nat) (S:St) (T:Tab) (vL vE:V) (R:RT),i+n=60->n<q->Bo S b r T rb vL vE R i->Bx S z 57 [.ptr b 0,.ptr rb 0]->z<S.next->¬Own b r T z->¬ROwn rb vL vE z->
 ∃U T' vL' vE' R' k',L6_38 (ev E0 KD (m+7)) N nk ek q v1 (.ptr z 0) (.int .i64 (i:Int)) S=ek 0 (fr 58 [(7,.ptr z 0)]) U/\Bo U b r T' rb vL' vE' R' k'/\k'<=60/\Bx U z 57 [.ptr b 0,.ptr rb 0]:=by
 induction n with
 | zero=>
  intro i q S T vL vE R hi hq h hz hlt hno hnr;cases q with
  | zero=>omega
  | succ q=>exact⟨S,T,vL,vE,R,i,L638_end nk ek hv q (.inr (by omega)),h,by omega,hz⟩
 | succ n ih=>
  intro i q S T vL vE R hi hq h hz hlt hno hnr;cases q with
  | zero=>omega
  | succ q=>
   by_cases hl:i<l.length
   . obtain⟨U1,T1,a1,a2,R1,e1,e2,e3,e4,e5,e6⟩:=L638_round h (by omega) m hz hlt hno hnr nk ek hv q hl (by omega)
     obtain⟨U,T',vL',vE',R',k',f1,f2⟩:=ih (i+1) q U1 T1 a1 a2 R1 (by omega) (by omega) e2 e3 e4 e5 e6;exact⟨U,T',vL',vE',R',k',e1.trans f1,f2⟩
   . exact⟨S,T,vL,vE,R,i,L638_end nk ek hv q (.inl (by omega)),h,by omega,hz⟩
theorem new_okp (qi qb:Int) (h1:1<=qi/\qi<=1048576) (h2:0<=qb/\qb<=1073741824) (nb nm:Nat):Okp (qh8 qi qb nb nm) (RT.new qi qb) 0:=by
 have hget:∀i,(qh8 qi qb nb nm).get i=if i=1 then some ⟨1,nb,qg1 nm⟩else none:=fun i=>rfl
 refine⟨(new_ok qi qb h1.1 h2.1 nb nm).sd,⟨⟨rfl,rfl⟩,rfl,fun i p hp=>?_,fun i hi=>?_,⟨rfl,rfl⟩,fun e he=>by cases he⟩,lR _,lR _,fun x hx=>?_,⟨h1.2,h2.2⟩⟩
 . rw[hget]at hp
   by_cases e:i=1
   . subst e
     rw[iP rfl]at hp;cases hp;exact⟨by omega,⟨⟨2,493,[]⟩,rfl,rfl,rfl,rfl⟩,rfl,rfl,by show(1:Int)<=2; omega,by show(2:Int)<=3; omega⟩
   . rw[iN e]at hp; cases hp
 . rw[hget]at hi
   by_cases e:i=1
   . rw[iP e]at hi; cases hi
   . refine⟨?_,rfl⟩
     rcases Int.lt_or_le i 1 with q|q
     . exact RT.kind_lo q
     . exact RT.kind_hi (by show((1:Nat):Int)<i; omega)
 . have:x=⟨2,493,[]⟩:=by simpa [RT.new]using hx
   subst this;exact Nat.zero_le _
theorem eq54p (b:Nat):qa6 E0 .eql 54 false true (.ptr b 0) .nilptr=some (.bool false):=by kernel_rfl
theorem eq54n:qa6 E0 .eql 54 false true .nilptr .nilptr=some (.bool true):=by kernel_rfl
theorem eq23n:qa6 E0 .eql 23 false true .nilptr .nilptr=some (.bool true):=by kernel_rfl
theorem build57 (a c:Nat):qb9 E0 57 [(0,.ptr a 0),(1,.ptr c 0)]=some (qbz [.ptr a 0,.ptr c 0]):=by kernel_rfl
theorem rd6 {n:Nat} {args:List V} {s:St} {r:En×St} (e:qb6 E0 (ev E0 KD n) qa4 Try.f6 B6 args s=some r):(ev E0 KD (n+1)).f 6 args s=some r:=qaa (c:=C6) (d:=B6) (by kernel_rfl) (by kernel_rfl) (qa5 C6 _ (by kernel_rfl)) rfl e
theorem plays_run (ho:S.on=false) (qi qb:Int) {l:List ActR} {v1:V} (hv:qmi v1 l):∃U,(ev E0 KD 9).f 6 [qbz [.int .i64 qi,.int .i64 qb],v1] S=some (.ret (.bool true),U):=by
 obtain⟨A,a1,a2,a3,a4⟩:=qex ho 26 [.int .i64 qi,.int .i64 qb];have onA:=a3.on.trans ho;have ltA:S.next<A.next:=by omega
 have hic:(icy A S.next 26 [V.int .i64 qi,.int .i64 qb].length 1 (Tr.ofListFrom .nil [Tr.ofListFrom .nil [V.int .i64 qi,.int .i64 qb] 0] 0)).on=false:=onA;cases hq:okQ qi qb with
 | false=>
  obtain⟨B,b1,b2⟩:=new_bad onA 7 qi qb hq;obtain⟨B',b1',_⟩:=new_bad hic 7 qi qb hq;obtain⟨L1,p1,p2⟩:=qn6 a2 ltA b1' b1;have onB:=b2.on.trans onA;have a2B:=a2.grew ltA (fun h=>h) b2;obtain⟨C,c1,c2⟩:=rnew_bad onB 7 qi qb hq;obtain⟨L2,p3⟩:=Lg.ev_onS lgD c1;refine⟨atS C A,rd6 ?_⟩;show F6 (ev E0 KD 8) qa4 (qbz [.int .i64 qi,.int .i64 qb]) v1 S=_;rw[F6_eq,a1,oB];dsimp only;rw[Bx.ldAL (n:=2) a2 rfl qcp,oB];dsimp only;rw[qa1,p1,qa7,qa1,Bx.ldAL (n:=2) a2B rfl qcp,oB];dsimp only
  rw[qa1,p3,qa7,qca (qha (by
   refine⟨⟨.inl ⟨rd1 _ _ _,rd1 _ _ _⟩,trivial⟩,⟨.inr ⟨S.next,p2,rx1 _ _ _⟩,trivial⟩,trivial⟩)),qa1,qbf onA,eq23n,oB]
  simp only[gFT,oB,cF,pickV_bool,cT,ifK_bool,gTT];rw[eq54n,oB];simp only[gTT,oB,cT];rw[qqi,callP_ret,pickV_bool,cT,oB]
 | true=>
  unfold okQ at hq;simp only[bA,decide_eq_true_eq]at hq;have hq':okQ qi qb=true:=by unfold okQ; simp only[bA,decide_eq_true_eq]; exact hq
  obtain⟨B,b,r,nb,nm,b1,b2,b3,b4,b5,b6,b7⟩:=new_run onA 7 qi qb ⟨hq.1.1.1,hq.1.1.2⟩ ⟨hq.1.2,hq.2⟩;obtain⟨B',_,_,_,_,b1',_⟩:=new_run hic 7 qi qb ⟨hq.1.1.1,hq.1.1.2⟩ ⟨hq.1.2,hq.2⟩;obtain⟨L1,p1,p2⟩:=qn6 a2 ltA b1' b1;have onB:=b2.on;have a2B:=a2.grew ltA (fun h=>h) b3;obtain⟨C,rb,vL,c1,c2,c3,c4⟩:=rnew_run onB 7 qi qb hq';obtain⟨L2,p3⟩:=Lg.ev_onS lgD c1
  have hbo:Bo C b r (qh8 qi qb nb nm) rb vL .nilslice (RT.new qi qb) 0:=⟨b2.grewF c3,c2,new_okp qi qb ⟨hq.1.1.1,hq.1.1.2⟩ ⟨hq.1.2,hq.2⟩ nb nm,fun y hy hr=>by
   have:=own_lt b2 hy;have:=c4 y hr
   omega⟩
  have hC:Bo (atS C A) b r (qh8 qi qb nb nm) rb vL .nilslice (RT.new qi qb) 0:=hbo.grew0 (qds rfl rfl c2.on.symm);have onC:=hC.tab.on;obtain⟨D,d1,d2,d3,d4⟩:=qf2 onC 57 2 (Tr.ofListFrom .nil [.nilptr,.nilptr] 0) [.ptr b 0,.ptr rb 0] rfl (by omega) qcp;have hD:=hC.grew0 d3;obtain⟨E,T',vL',vE',R',k',e1,e2,e3,e4⟩:=L638_spec 1 (R6_30 (ev E0 KD 8) qa4 (qc0 E0 (ev E0 KD 8) Try.f6) qbd) (exB 0 (R6_30 (ev E0 KD 8) qa4 (qc0 E0 (ev E0 KD 8) Try.f6) qbd) qbd) hv 60 0 qa4 D (qh8 qi qb nb nm) vL .nilslice (RT.new qi qb) (by omega) (by unfold qa4; omega) hD d2 (by omega) (fun o=>by have:=own_lt hC.tab o; omega) (fun o=>by have:=hC.ref.own_lt o; omega) (N:=qa4);obtain⟨G,g1,g2⟩:=same_run e2 e3 1;refine⟨G,rd6 ?_⟩;show F6 (ev E0 KD 8) qa4 (qbz [.int .i64 qi,.int .i64 qb]) v1 S=_;rw[F6_eq,a1,oB];dsimp only;rw[Bx.ldAL (n:=2) a2 rfl qcp,oB];dsimp only;rw[qa1,p1,qa7,qa1,Bx.ldAL (n:=2) a2B rfl qcp,oB];dsimp only
  rw[qa1,p3,qa7,qca (qha (by
   refine⟨⟨.inl ⟨rd1 _ _ _,rd1 _ _ _⟩,trivial⟩,⟨.inr ⟨S.next,p2,rx1 _ _ _⟩,trivial⟩,trivial⟩)),qa1,qbf onA,eq23p,oB]
  simp only[gFF,oB,cT];rw[eq54p,oB,pickV_bool,cF,oB,ifK_bool,cF,build57,oB,qdz,d1,oB];dsimp only;rw[show V.int .i64 0=.int .i64 ((0:Nat):Int)from rfl];refine e1.trans ?_;rw[exB_same,R6_30_eq,Bx.ldA (n:=2) e2.tab.on e4 rfl qcp,oB];dsimp only;rw[g1,callP_ret];simp only[gTT,oB,cT];rw[qqi,callP_ret,pickV_bool,cT,oB]
end
theorem u53:Try.prog.underlying 53=some (.slice 60):=by kernel_rfl
theorem c60:Try.prog.cellsOf 60=7:=by kernel_rfl
theorem c26:Try.prog.cellsOf 26=2:=by kernel_rfl
theorem c3:Try.prog.cellsOf 3=1:=by kernel_rfl
theorem c9:Try.prog.cellsOf 9=1:=by kernel_rfl
theorem u60:∃a b c d e f g,Try.prog.underlying 60=some (.struct #[a,b,c,d,e,f,g])/\a.type=3/\a.offset=0/\b.type=3/\b.offset=1/\c.type=3/\c.offset=2/\d.type=3/\d.offset=3/\e.type=9/\e.offset=4/\f.type=9/\f.offset=5/\g.type=9/\g.offset=6:=
 ⟨_,_,_,_,_,_,_,Try.underlying60,rfl,rfl,rfl,rfl,rfl,rfl,rfl,rfl,rfl,rfl,rfl,rfl,rfl,rfl⟩
theorem u26s:∃a b,Try.prog.underlying 26=some (.struct #[a,b])/\a.type=3/\a.offset=0/\b.type=3/\b.offset=1:=⟨_,_,Try.underlying26,rfl,rfl,rfl,rfl⟩
section
variable {H:Type} {enc:TypeId×Value->H} {W:World}
theorem qe9 {fuel:Nat} {cs:List Value} {x:DataW H×List MemPlace} (h:DataW.trod enc Try.prog W 0 (fun _=>true) true fuel 3 cs=some x):∃n:Int,cs=[.int .i64 n]:=by
 obtain⟨n,h1,_⟩:=DataW.trod_int Try.underlying3 h;exact⟨n,h1⟩
theorem qkj {fuel:Nat} {cs:List Value} {x:DataW H×List MemPlace} (h:DataW.trod enc Try.prog W 0 (fun _=>true) true fuel 9 cs=some x):∃s:ByteArray,cs=[.string s]/\s.data.toList.length<9223372036854775808:=by
 obtain⟨s,h1,_,h2⟩:=DataW.trod_string Try.underlying9 h;refine⟨s,h1,?_⟩;have h3:s.data.toList.length=s.size:=by rw[Array.length_toList]; rfl
 rw[h3];exact Nat.lt_of_le_of_lt h2 (by decide)
theorem act_rel {ρ:Rho} (w a b m:Int) (s0 s1 s2:ByteArray):VRel ρ (actV ⟨w,a,b,m,s0.data.toList,s1.data.toList,s2.data.toList⟩) (.agg #[.int .i64 w,.int .i64 a,.int .i64 b,.int .i64 m,.string s0,.string s1,.string s2]):=by
 unfold actV ActR.cells;refine .agg rfl (fun i cv hcv=>?_) fun i v hv cv hcv=>?_
 . match i,hcv with
   | 0,h=>cases h; rfl
   | 1,h=>cases h; rfl
   | 2,h=>cases h; rfl
   | 3,h=>cases h; rfl
   | 4,h=>cases h; rfl
   | 5,h=>cases h; rfl
   | 6,h=>cases h; rfl
 . rw[Tr.get_ofList]at hv
   match i,hv,hcv with
   | 0,h,h'=>cases h; cases h'; exact .int _ _
   | 1,h,h'=>cases h; cases h'; exact .int _ _
   | 2,h,h'=>cases h; cases h'; exact .int _ _
   | 3,h,h'=>cases h; cases h'; exact .int _ _
   | 4,h,h'=>cases h; cases h'; exact .str _
   | 5,h,h'=>cases h; cases h'; exact .str _
   | 6,h,h'=>cases h; cases h'; exact .str _
theorem quota_rel {ρ:Rho} (a b:Int):VRel ρ (qbz [.int .i64 a,.int .i64 b]) (.agg #[.int .i64 a,.int .i64 b]):=by
 refine .agg rfl (fun i cv hcv=>?_) fun i v hv cv hcv=>?_
 . match i,hcv with
   | 0,h=>cases h; rfl
   | 1,h=>cases h; rfl
 . rw[Tr.get_ofList]at hv
   match i,hv,hcv with
   | 0,h,h'=>cases h; cases h'; exact .int _ _
   | 1,h,h'=>cases h; cases h'; exact .int _ _
theorem list7 {α:Type} {cs:List α} (h:cs.length=7):∃a b c d e f g,cs=[a,b,c,d,e,f,g]:=by
 match cs,h with
 | [a,b,c,d,e,f,g],_=>exact⟨a,b,c,d,e,f,g,rfl⟩
theorem list2 {α:Type} {cs:List α} (h:cs.length=2):∃a b,cs=[a,b]:=by
 match cs,h with
 | [a,b],_=>exact⟨a,b,rfl⟩
theorem act_of_trod {fuel:Nat} {cs:List Value} {x:DataW H×List MemPlace} (h:DataW.trod enc Try.prog W 0 (fun _=>true) true fuel 60 cs=some x):∃(a:ActR) (cv:Value),VRel (frz W) (actV a) cv/\qai (actV a)=false/\cv.cells.toList=cs/\(a.name.length<9223372036854775808/\a.nm2.length<9223372036854775808):=by
 obtain⟨fa,fb,fc,fd,fe,ff,fg,hu,a1,a2,b1,b2,d1,d2,e1,e2,g1,g2,i1,i2,j1,j2⟩:=u60;obtain⟨xs,n,_,_,hl,hlen,hf⟩:=DataW.trod_struct hu h;rw[c60]at hl;obtain⟨w0,w1,w2,w3,w4,w5,w6,rfl⟩:=list7 hl;have hs:xs.length=7:=hlen;have k0:=hf 0 fa rfl;have k1:=hf 1 fb rfl;have k2:=hf 2 fc rfl;have k3:=hf 3 fd rfl;have k4:=hf 4 fe rfl;have k5:=hf 5 ff rfl;have k6:=hf 6 fg rfl;rw[List.getElem?_eq_getElem (by omega),a1,a2,c3]at k0;rw[List.getElem?_eq_getElem (by omega),b1,b2,c3]at k1;rw[List.getElem?_eq_getElem (by omega),d1,d2,c3]at k2;rw[List.getElem?_eq_getElem (by omega),e1,e2,c3]at k3;rw[List.getElem?_eq_getElem (by omega),g1,g2,c9]at k4;rw[List.getElem?_eq_getElem (by omega),i1,i2,c9]at k5;rw[List.getElem?_eq_getElem (by omega),j1,j2,c9]at k6;obtain⟨n0,q0⟩:=qe9 k0;obtain⟨n1,q1⟩:=qe9 k1;obtain⟨n2,q2⟩:=qe9 k2;obtain⟨n3,q3⟩:=qe9 k3;obtain⟨s0,q4,r4⟩:=qkj k4;obtain⟨s1,q5,r5⟩:=qkj k5;obtain⟨s2,q6,r6⟩:=qkj k6;simp only[List.drop_zero,List.drop_succ_cons,List.take_succ_cons,List.take_zero,List.cons.injEq,and_true]at q0 q1 q2 q3 q4 q5 q6;subst q0 q1 q2 q3 q4 q5 q6;exact⟨⟨n0,n1,n2,n3,s0.data.toList,s1.data.toList,s2.data.toList⟩,_,act_rel n0 n1 n2 n3 s0 s1 s2,rfl,rfl,r4,r5⟩
theorem plays_of_trod {fuel:Nat} {cs:List Value} {x:DataW H×List MemPlace} (h:DataW.trod enc Try.prog W 0 (fun _=>true) true fuel 53 cs=some x) :
 ∃(cv:Value) (v:V) (l:List ActR),cs=[cv]/\VRel (frz W) v cv/\qmi v l/\∃ad len cap,cv=.slice ad len cap:=by
 obtain⟨cv,v,l,h1,h2,h3,h4,h5⟩:=list_of_trod (F:=actV) (Q:=fun a=>a.name.length<9223372036854775808/\a.nm2.length<9223372036854775808) u53 c60 (by omega) (fun fuel cs x hx=>act_of_trod hx) h;exact⟨cv,v,l,h1,h2,⟨h3,h4⟩,h5⟩
theorem quota_of_trod {fuel:Nat} {cs:List Value} {x:DataW H×List MemPlace} (h:DataW.trod enc Try.prog W 0 (fun _=>true) true fuel 26 cs=some x):∃a b:Int,cs=[.int .i64 a,.int .i64 b]:=by
 obtain⟨fa,fb,hu,a1,a2,b1,b2⟩:=u26s;obtain⟨xs,n,_,_,hl,hlen,hf⟩:=DataW.trod_struct hu h;rw[c26]at hl;obtain⟨w0,w1,rfl⟩:=list2 hl;have hs:xs.length=2:=hlen;have k0:=hf 0 fa rfl;have k1:=hf 1 fb rfl;rw[List.getElem?_eq_getElem (by omega),a1,a2,c3]at k0;rw[List.getElem?_eq_getElem (by omega),b1,b2,c3]at k1;obtain⟨n0,q0⟩:=qe9 k0;obtain⟨n1,q1⟩:=qe9 k1;simp only[List.drop_zero,List.drop_succ_cons,List.take_succ_cons,List.take_zero,List.cons.injEq,and_true]at q0 q1;subst q0 q1;exact⟨n0,n1,rfl⟩
end
theorem plays_calls (W:World) (qi qb:Int) {cv0:Value} (hv0:VRel (frz W) (qbz [.int .i64 qi,.int .i64 qb]) cv0) {l:List ActR} {v1:V} {cv1:Value} (hv1:VRel (frz W) v1 cv1) (h:qmi v1 l):Calls Try.prog 6 #[cv0,cv1] W fun e w'=>e=.returned (.bool true)/\Below W.heap.size W w':=by
 obtain⟨U,hl⟩:=plays_run (S:=s0) rfl qi qb h;refine((ev_sim E0_ok okD 9).call (base0 W) _ s0 W 6 [qbz [.int .i64 qi,.int .i64 qb],v1] #[cv0,cv1] _ U (relF W) (.cons hv0 (.cons hv1 .nil)) hl).mono fun ce w' hce=>?_;obtain⟨ρ',cv,rfl,_,hv,hR⟩:=hce;cases hv;exact⟨rfl,qml hR⟩
end Go.Proofs.Ytbihlgcdnhoknaa.W
