/-
  WHAT THE FUNCTIONS COME TO: each is read by the evaluator,printed,and told as a function of data,part 12 of 12 (no condition).
-/
import Derived.Test.YtachpdpmoihjmaaW11
namespace Go.Proofs.Ytachpdpmoihjmaa.W
open Go.Proofs.Ytachpdpmoihjmaa.Ev Go.RowKit
theorem nil_n:qa4 E0 .eql 22 false true .nilptr .nilptr=some (.bool true):=rfl
theorem R13_pre (n:Nat) (nk:Ac->St->Rs) (ek:Nat->Ac->St->Rs) {s T:List UInt8} (hs:s.length<=100) {S S1 S2:St} {v1 v2:V} {e1 e2:Int} (c1:(ev E0 K1 (n+1)).f 6 [sv s] S=some (.ret (.tuple [v1,.int .i64 e1]),S1)) (c2:(ev E0 K1 (n+1)).f 6 [sv (qcx s)] S1=some (.ret (.tuple [v2,.int .i64 e2]),S2))
 (h:(∃b1 b2,v1=.ptr b1 0/\e1=0/\v2=.ptr b2 0/\e2=0)\/(v1=.nilptr/\e1=4)\/(∃b1,v1=.ptr b1 0/\e1=0/\v2=.nilptr/\e2=4)) :
 R4_13 (ev E0 K1 (n+1)) qa3 nk ek (fr 182 [(0,sv s),(1,sv T)]) S=some (.ret (.bool true),S2)\/∃b1 b2,v1=.ptr b1 0/\v2=.ptr b2 0/\R4_13 (ev E0 K1 (n+1)) qa3 nk ek (fr 182 [(0,sv s),(1,sv T)]) S=(qad ((ev E0 K1 (n+1)).f 8 [.ptr b1 0,sv T,(.int .i64 0)] S2) fun t56 S56=>
(qaj t56 0).bind fun t58=>
(qaj t56 1).bind fun t59=>
L4_66 (ev E0 K1 (n+1)) qa3 (R4_62 (ev E0 K1 (n+1)) qa3 (fun a s=>qa6 [4] a fun a=>nk a s) ek) (exB 2 (R4_62 (ev E0 K1 (n+1)) qa3 (fun a s=>qa6 [4] a fun a=>nk a s) ek) ek) qa3 (sv T) (.ptr b2 0) t58 t59 (.int .i64 0) S56):=by
 have hF:=R4_13_eq (ev E0 K1 (n+1)) qa3 nk ek (sv s) (sv T) S;rw[c1,callP_ret,qlm,qln,oB,oB,plus_sv _ _ _ _ (by simp; omega),oB,plus_sv _ _ _ _ (by simp; omega),oB,show [94,92,40]++s++[92,41,36]=qcx s from rfl,c2,callP_ret,qlm,qln,oB,oB,binV_ii,intsV_neq,oB]at hF;rcases h with⟨b1,b2,rfl,rfl,rfl,rfl⟩|⟨rfl,rfl⟩|⟨b1,rfl,rfl,rfl,rfl⟩
 . simp only[show(!decide ((0:Int)=0))=false from rfl,qaq,nF,oB,cT,binV_ii,intsV_neq,pickV_bool,cF,nil_b,ifK_bool]at hF
   exact .inr ⟨b1,b2,rfl,rfl,hF⟩
 . simp only[show(!decide ((4:Int)=0))=true from rfl,qaq,qas,qaa,Bool.not_true,oB,cT,pickV_bool,cF,nil_n,ifK_bool,qeb,callP_ret]at hF
   exact .inl hF
 . simp only[show(!decide ((0:Int)=0))=false from rfl,show(!decide ((4:Int)=0))=true from rfl,qaq,qas,qaa,Bool.not_true,nF,oB,cT,binV_ii,intsV_neq,pickV_bool,cF,nil_b,nil_n,ifK_bool,qeb,callP_ret]at hF
   exact .inl hF
theorem ex_ne (L:List AS) (ts:List (Tr V)) (h:Rws ts (L++[stA 6 0])):ts≠[]:=fun e=>by
 have:=h.len;rw[e]at this;simp at this
theorem R13_run' {s T:List UInt8} (hs:s.length<=30) (hT:T.length<=30) (hn:noA s):∃n,∀(nk:Ac->St->Rs) (ek:Nat->Ac->St->Rs) (S:St),S.on=false->∃U,R4_13 (ev E0 K1 (n+1)) qa3 nk ek (fr 182 [(0,sv s),(1,sv T)]) S=some (.ret (.bool true),U):=by
 have hla:=qi2 s;cases hr:rdE (s.length+10) s with
 | none=>
  refine⟨100,fun nk ek S ho=>?_⟩;have h1:=qcs qfv 92 (by omega) (s:=s) (by omega) (n:=s.length+10) (by omega) S ho;rw[hr]at h1;obtain⟨S1,a1,a2⟩:=h1;have on1:=a2.on.trans ho;have h2:=qcs qfv 92 (by omega) (s:=qcx s) (by omega) (n:=s.length+10) (by omega) S1 on1;cases hq:rdE (s.length+10) (qcx s)with
  | none=>
   rw[hq]at h2;obtain⟨S2,b1,b2⟩:=h2;rcases R13_pre 100 nk ek (T:=T) (by omega) a1 b1 (.inr (.inl ⟨rfl,rfl⟩))with e|⟨x,y,e,_⟩
   . exact⟨S2,e⟩
   . cases e
  | some q=>
   obtain⟨st2,al2⟩:=q;rw[hq]at h2;obtain⟨S2,b,lv,ts,b1,_⟩:=h2;rcases R13_pre 100 nk ek (T:=T) (by omega) a1 b1 (.inr (.inl ⟨rfl,rfl⟩))with e|⟨x,y,e,_⟩
   . exact⟨S2,e⟩
   . cases e
 | some q=>
  obtain⟨st,al⟩:=q;have hex:=ex_of hr;have hel:=hex.len;obtain⟨k1,k2⟩:=rd_all hn (n:=s.length+10) (by omega) hr;by_cases h8:st.g<=8
  . obtain⟨st',al',q1,q2,q3⟩:=k1 h8
    have hex':=ex_of q1
    have hLA:st'.acc++[stA 6 0]=qd9 st.acc:=by
     rw[q3];unfold qd9 Q3;simp
    have hlaw:Law st.acc st.g T:=by
     refine⟨hex.exp,by rw[<- hLA,<- q2]; exact hex'.exp,fun x hx=>⟨(hex.no hn x hx).1,(hex.no hn x hx).2,hex.k6 x hx,hex.mks x hx,hex.to_ x hx⟩,by omega,by omega,by omega⟩
    have hlL:=qf8 (X:=st.acc);refine⟨100+((qd9 st.acc).length+1)+3,fun nk ek S ho=>?_⟩;have h1:=qcs qfv (100+((qd9 st.acc).length+1)+3+1-9) (by omega) (s:=s) (by omega) (n:=s.length+10) (by omega) S ho;rw[hr,show 100+((qd9 st.acc).length+1)+3+1-9+9=100+((qd9 st.acc).length+1)+3+1 by omega]at h1;obtain⟨S1,b1,lv1,ts1,a1,a2,a3,a4,a5⟩:=h1;have on1:=a5.on.trans ho;obtain⟨r1,g1,g1'⟩:=Rg.of a3 a4 (ex_ne _ _ a4);have h2:=qcs qfv (100+((qd9 st.acc).length+1)+3+1-9) (by omega) (s:=qcx s) (by omega) (n:=s.length+10+2) (by omega) S1 on1;rw[q1,show 100+((qd9 st.acc).length+1)+3+1-9+9=100+((qd9 st.acc).length+1)+3+1 by omega]at h2;obtain⟨S2,b2,lv2,ts2,c1,c2,c3,c4,c5⟩:=h2;rw[hLA]at c4;obtain⟨r2,g2,g2'⟩:=Rg.of c3 c4 (fun e=>by have:=c4.len; rw[e,qf8]at this; simp at this);rw[q2]at g2;have hb1:=g1.hb;have hr1:=g1.hr;have g12:Rg st.g S2 b1 r1 (st.acc++[stA 6 0]) ts1:=g1.grew (by omega) (by omega) c5;obtain⟨S3,v,d1,d2,d3⟩:=find_run qfv (100+4) (T:=T) (fr_:=0) hex.exp (by rw[lAq,List.length_singleton]; omega) (by omega) (by omega) (Nat.zero_le _) g12
    have hlev:100+4+((st.acc++[stA 6 0]).length+1)+4=100+((qd9 st.acc).length+1)+3+1:=by
     rw[lAq,List.length_singleton,hlL]; omega
    rw[hlev]at d1;have hb2:=g2.hb;have hr2:=g2.hr;have g23:Rg (st.g+1) S3 b2 r2 (qd9 st.acc) ts2:=g2.grew (by omega) (by omega) d2
    have hHd:Hd S3 S3.next b2 r2 ts2 st.acc st.g T v (qcw (st.acc++[stA 6 0]) T 0).isSome:=by
     refine⟨g23,by have:=d2.next; omega,by have:=d2.next; omega,lR _,fun e=>by rw[e]; rfl,fun p hp=>⟨by rw[hp]; rfl,?_⟩⟩;obtain⟨x,s0,s1,out,o1,o2,o3,o4,o5,o6,o7,_⟩:=d3 p hp;exact⟨x,s0,s1,out,o1,o2,o3,o4,o7⟩
    rcases R13_pre (100+((qd9 st.acc).length+1)+3) nk ek (T:=T) (by omega) a1 c1 (.inl ⟨b1,b2,rfl,rfl,rfl,rfl⟩)with e|⟨x,y,ex,ey,e⟩
    . exact⟨S2,e⟩
    . simp only[V.ptr.injEq,and_true]at ex ey
      subst ex ey;obtain⟨U,u1⟩:=L66_spec qfv hlaw 100 qa3 (by unfold qa3; omega) (R4_62 (ev E0 K1 (100+((qd9 st.acc).length+1)+3+1)) qa3 (fun a s=>qa6 [4] a fun a=>nk a s) ek) (exB 2 (R4_62 (ev E0 K1 (100+((qd9 st.acc).length+1)+3+1)) qa3 (fun a s=>qa6 [4] a fun a=>nk a s) ek) ek) (T.length+1) 0 qa3 S3 rfl hHd (by unfold qa3; omega);refine⟨U,e.trans ?_⟩;rw[show((0:Nat):Int)=0 from rfl]at d1 u1;rw[d1,callP_ret,qlm,qln,oB,oB];refine u1.trans ?_;rw[exB_same,R4_62_eq,qeb,callP_ret]
  . have q1:=k2 (by omega)
    refine⟨100,fun nk ek S ho=>?_⟩;have h1:=qcs qfv 92 (by omega) (s:=s) (by omega) (n:=s.length+10) (by omega) S ho;rw[hr]at h1;obtain⟨S1,b1,lv1,ts1,a1,a2,a3,a4,a5⟩:=h1;have on1:=a5.on.trans ho;have h2:=qcs qfv 92 (by omega) (s:=qcx s) (by omega) (n:=s.length+10+2) (by omega) S1 on1;rw[q1]at h2;obtain⟨S2,c1,c2⟩:=h2;rcases R13_pre 100 nk ek (T:=T) (by omega) a1 c1 (.inr (.inr ⟨b1,rfl,rfl,rfl,rfl⟩))with e|⟨x,y,_,e,_⟩
    . exact⟨S2,e⟩
    . cases e
theorem L176_spec (n:Nat) (nk:Ac->St->Rs) (ek:Nat->Ac->St->Rs) {s T:List UInt8} (hs:s.length<=100) :
 ∀(q:List UInt8) (i f:Nat) (S:St),s.drop i=q->(∀j,j<i->j<s.length->s.getD j 0≠94/\s.getD j 0≠36)->q.length<f->(L4_176 (ev E0 K1 (n+1)) qa3 nk ek f (sv s) (sv T) (.int .i64 (i:Int)) S=some (.ret (.bool true),S))\/(noA s/\L4_176 (ev E0 K1 (n+1)) qa3 nk ek f (sv s) (sv T) (.int .i64 (i:Int)) S=ek 0 (fr 182 [(0,sv s),(1,sv T)]) S)
 | q,i,0,S,_,_,hf=>by omega
 | [],i,f+1,S,hq,hp,hf=>by
  have hge:=drop_end hq;refine .inr ⟨fun j hj=>hp j (by omega) hj,?_⟩;rw[L4_176_eq,lnStr_sv,oB];dsimp only;rw[binV_ii,intsV_lss,qed hge,oB,ifK_bool,cF]
 | c::q,i,f+1,S,hq,hp,hf=>by
  obtain⟨hlt,hc,hd,_⟩:=qg1 hq;have hgd:s.getD i 0=c:=by rw[List.getD_eq_getElem?_getD,List.getElem?_eq_getElem hlt,hc]; rfl
  have hF:=L4_176_eq (ev E0 K1 (n+1)) qa3 nk ek f (sv s) (sv T) (.int .i64 (i:Int)) S;rw[lnStr_sv,oB]at hF;dsimp only at hF;rw[binV_ii,intsV_lss,qee hlt,oB,ifK_bool,cT,qh8 s .i64 i hlt,hc,oB,binV_ii,intsV_eql,qg0 _ 94 94 rfl,oB]at hF;cases h94:(c==94)with
  | true=>
   rw[h94]at hF;simp only[qaq,Bool.not_true,oB,cF,qas,pickV_bool,cT,ifK_bool,qeb,callP_ret]at hF;exact .inl hF
  | false=>
   rw[h94]at hF;simp only[qaq,nF,oB,cT,qh8 s .i64 i hlt,hc,binV_ii,intsV_eql,qg0 _ 36 36 rfl,pickV_bool,cF,ifK_bool]at hF;cases h36:(c==36)with
   | true=>
    rw[h36,cT,qeb,callP_ret]at hF;exact .inl hF
   | false=>
    rw[h36,cF,intsV_add,qa5 (by omega),oB]at hF;rw[hF];refine L176_spec n nk ek hs q (i+1) f S hd (fun j hj hjl=>?_) (by simp at hf; omega);by_cases e:j=i
    . subst e
      rw[hgd];exact⟨fun e=>by rw[e]at h94; exact absurd h94 (by decide),fun e=>by rw[e]at h36; exact absurd h36 (by decide)⟩
    . exact hp j (by omega) hjl
theorem law_run (s text:List UInt8) (S:St) (ho:S.on=false):∃n U,(ev E0 K1 n).f 4 [sv s,sv text] S=some (.ret (.bool true),U):=by
 have lt_:(s.take 30).length<=30:=by rw[List.length_take]; omega
 have lT_:(text.take 30).length<=30:=by rw[List.length_take]; omega
 have key:∀n,F4 (ev E0 K1 (n+1)) qa3 (sv s) (sv text) S=L4_176 (ev E0 K1 (n+1)) qa3 (R4_13 (ev E0 K1 (n+1)) qa3 (qbg E0 (ev E0 K1 (n+1)) Try.f4) qav) (exB 0 (R4_13 (ev E0 K1 (n+1)) qa3 (qbg E0 (ev E0 K1 (n+1)) Try.f4) qav) qav) qa3 (sv (s.take 30)) (sv (text.take 30)) (.int .i64 ((0:Nat):Int)) S:=fun n=>by
  have hF:=F4_eq (ev E0 K1 (n+1)) qa3 (sv s) (sv text) S;rw[lnStr_sv,oB]at hF;dsimp only at hF;rw[foldK_min,show min (s.length:Int) 30=((min s.length 30:Nat):Int) by omega,oB]at hF;dsimp only at hF;rw[cutN,oB]at hF;dsimp only at hF;rw[lnStr_sv,oB]at hF;dsimp only at hF;rw[foldK_min,show min (text.length:Int) 30=((min text.length 30:Nat):Int) by omega,oB]at hF;dsimp only at hF;rw[cutN,oB]at hF;exact hF
 have rdF:∀n {r},F4 (ev E0 K1 (n+1)) qa3 (sv s) (sv text) S=some r->(ev E0 K1 (n+2)).f 4 [sv s,sv text] S=some r:=fun n {r} h=>qax (c:=C4) (d:=B4) (by kernel_rfl) (by kernel_rfl) (qa7 C4 _ (by kernel_rfl)) (show K1 4=none from rfl) h;have hl:=fun n=>L176_spec n (R4_13 (ev E0 K1 (n+1)) qa3 (qbg E0 (ev E0 K1 (n+1)) Try.f4) qav) (exB 0 (R4_13 (ev E0 K1 (n+1)) qa3 (qbg E0 (ev E0 K1 (n+1)) Try.f4) qav) qav) (s:=s.take 30) (T:=text.take 30) (by omega) (s.take 30) 0 qa3 S rfl (fun j hj=>by omega) (by unfold qa3; omega);rcases hl 0 with h|⟨hn,_⟩
 . exact⟨2,S,rdF 0 ((key 0).trans h)⟩
 . obtain⟨n,hn'⟩:=R13_run' (s:=s.take 30) (T:=text.take 30) lt_ lT_ hn
   obtain⟨U,hU⟩:=hn' (qbg E0 (ev E0 K1 (n+1)) Try.f4) qav S ho;rcases hl n with h|⟨_,h⟩
   . exact⟨n+2,S,rdF n ((key n).trans h)⟩
   . refine⟨n+2,U,rdF n ((key n).trans (h.trans ?_))⟩
     rw[exB_same];exact hU
theorem cut_calls (W:World) (s text:ByteArray):Calls Try.prog 4 #[.string s,.string text] W fun e w'=>e=.returned (.bool true)/\Below W.heap.size W w':=by
 obtain⟨n,U,h⟩:=law_run s.data.toList text.data.toList s0 rfl;refine((ev_sim E0_ok ok1 n).call (base0 W) _ s0 W 4 [sv s.data.toList,sv text.data.toList] #[.string s,.string text] _ U (relF W) (.cons (.str s) (.cons (.str text) .nil)) h).mono fun ce w' hce=>?_;obtain⟨ρ',cv,rfl,_,hv,hR⟩:=hce;cases hv;exact⟨rfl,qjr hR⟩
end Go.Proofs.Ytachpdpmoihjmaa.W
