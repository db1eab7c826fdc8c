/-
  WHAT THE FUNCTIONS COME TO: each is read by the evaluator,printed,and told as a function of data,part 12 of 12 (no condition).
-/
import Derived.Test.YtafbipadnnmccaaDoorW11
namespace Go.Proofs.YtafbipadnnmccaaDoor.W
open Go.Proofs.YtafbipadnnmccaaDoor.Ev Go.RowKit
section
variable {K:FuncId->Option KF} {S U T:St}
theorem rv4 (h:K 4=none) {n:Nat} {args:List V} {s:St} {r:En×St} (e:qdz E0 (ev E0 K n) qa3 Tryd.f4 B4 args s=some r):(ev E0 K (n+1)).f 4 args s=some r:=qae (c:=C4) (d:=B4) (by kernel_rfl) (by kernel_rfl) (qa4 C4 _ (by kernel_rfl)) h e
theorem setT_at (x:Tok) (v:V) (n:Nat):(qe6 x v).set (.int .i64 (n:Int)) 4=qe6 {x with at_:=n} v:=by kernel_rfl
theorem hereQ_cons (t:Tok) (l:List Tok):qea (t::l)=(t.kind==3||qea l):=List.any_cons
theorem here_loop (self:EV) (N:Nat) (nk:Ac->St->Rs) (ek:Nat->Ac->St->Rs) {v:V} {toks:List Tok} (hv:VwT S v toks) (v0 v1 v7:V) :
 ∀(l:List Tok) (j q:Nat),toks.drop j=l->l.length<q->
 L4_122 self N nk ek q v0 v1 v v7 (.int .i64 (j:Int)) S=bif qea l then some (.ret (.bool true),S)else ek 0 (fr 124 [(0,v0),(1,v1),(5,v),(7,v7)]) S
 | l,j,0,_,hq=>absurd hq (Nat.not_lt_zero _)
 | [],j,q+1,hr,hq=>by
  have:=qdu hr;rw[L4_122_eq,hv.1,b_s];dsimp only;rw[qkg,dF (by omega),b_s,i_b,c_f];rfl
 | t::l,j,q+1,hr,hq=>by
  obtain⟨hlt,e1,e2,hm⟩:=qey hr;have hti:toks[j]?=some t:=by rw[List.getElem?_eq_getElem hlt,e1]
  obtain⟨r,c,u,ru,Q,hr2,hu,hw,w0,w1,w2,w3,w4⟩:=hv.2.2 j t hti;have hsm:=hv.2.1;have hlp:=here_loop self N nk ek hv v0 v1 v7 l (j+1) q e2 (by simp only[List.length_cons]at hq; omega);rw[L4_122_eq,hv.1,b_s];dsimp only;rw[qkg,dT hlt,b_s,i_b,c_t,hr2,b_s,faPg 0 0 _ false r,b_s,w0,b_s];dsimp only;rw[show(V.int .i64 3)=.int .i64 ((3:Nat):Int)from rfl,i3eq,b_s,i_b,hereQ_cons];by_cases h3:t.kind=3
  . rw[dT h3,c_t,show(t.kind==3)=true by rw[h3]; rfl,Bool.true_or,c_t]
  . rw[dF h3,c_f,show(t.kind==3)=false by simpa using h3,Bool.false_or,qei (by omega),b_s,hlp]
theorem pairs_line4 (a b c d e:List LE) (h1:qb7 a c=false) (h2:qb7 a d=false) (h3:qb7 b c=false) (h4:qb7 b d=false):qag [a,b,[],[],[],c,d,e,[]] [(0,[5,6]),(1,[5,6])]=true:=by
 show(bif (bif qb7 a c then true else bif qb7 a d then true else false)then false else(bif (bif qb7 b c then true else bif qb7 b d then true else false)then false else true))=true;rw[h1,h2,h3,h4];rfl
theorem qkm {b i j b' k l:Nat} {w w':Bool} (h:b≠b'):qb7 [⟨b,i,j,w⟩] [⟨b',k,l,w'⟩]=false:=by
 refine clash_or fun e he f hf=>.inl ?_;rw[List.mem_singleton]at he hf;subst he hf;exact h
theorem big5:5<big:=by unfold big; decide
theorem line_step (hK:RefL K) (hL:Lg.KnLoc K) (m D:Nat) (a:Bs) (N:Nat) (nk:Ac->St->Rs) (ek:Nat->Ac->St->Rs) {v5 v7 v10:V} {rx ry rz:List (Tr V)} {X Y:List Tok} {Qy Qz:Nat->Prop} {ln:Tok} (ho:S.on=false)
 (hx:RV S v5 39 5 rx) (hxl:rx.length=X.length) (hy:RV S v7 39 5 ry) (hyt:TksAt S Qy Y ry) (hz:RV S v10 39 5 rz) (hzt:TksAt S Qz (X++[ln]++Y.map (sft (a.length+1))) rz)
 (hs:X.length+Y.length<1000000) (ha:a.length<1000000) (hat:∀t∈Y,t.at_<1000000) (hdep:∀t∈Y,qcx t.parts<=D) (j q:Nat) (hj:j<Y.length) :
 ∃U,L4_84 (ev E0 K (m+D+2)) N nk ek (q+1) (sv a) v5 v7 v10 (.int .i64 (j:Int)) S=L4_84 (ev E0 K (m+D+2)) N nk ek q (sv a) v5 v7 v10 (.int .i64 ((j+1:Nat):Int)) U/\Grew (fun _=>False) S U:=by
 have hyl:=hyt.1;have hzl:=hzt.1;have htj:Y[j]?=some Y[j]:=List.getElem?_eq_getElem hj;generalize ht:Y[j]=t at htj;have htm:t∈Y:=ht▸List.getElem_mem hj
 have hzj:(X++[ln]++Y.map (sft (a.length+1)))[X.length+1+j]?=some (sft (a.length+1) t):=by
  rw[List.getElem?_append_right (by rw[lAq,List.length_singleton]; omega),lAq,List.length_singleton,show X.length+1+j-(X.length+1)=j by omega,List.getElem?_map,htj];rfl
 obtain⟨cz,gz,uz,ruz,rfl,huz,hwz,_⟩:=hzt.2 _ _ hzj;obtain⟨cy,gy,uy,ruy,rfl,huy,hwy,_⟩:=hyt.2 j t htj;obtain⟨bz,z1,z2,z3,z4⟩:=hz.at (i:=X.length+1+j) (by rw[hzl]; exact(List.getElem?_eq_some_iff.1 hzj).1)
 obtain⟨by_,y1,y2,y3,y4⟩:=hy.at (i:=j) (by omega)
 obtain⟨n1,n2,n3⟩:=qbx ho 39 5 (Tr.ofListFrom .nil [(.int .i64 0),(sv []),.nilslice,(.bool false),(.int .i64 0)] 0);generalize hSn:(nwP 39 5 (Tr.ofListFrom .nil [(.int .i64 0),(sv []),.nilslice,(.bool false),(.int .i64 0)] 0) S).2=Sn at n1 n2 n3;have on:=n2.on.trans ho;obtain⟨Sa,a1,a2,a3,a4⟩:=n1.stA on big5 (qe6 (sft (a.length+1) t) uz);have oa:=a3.on.trans on;have hld:=a2.ld1 oa big5 (i:=4) (by decide) (rowT4 (sft (a.length+1) t) uz);obtain⟨Sb,b1,b2,b3,b4⟩:=a2.st1 oa big5 (by decide) (i:=4) (by decide) (.int .i64 (t.at_:Int)) rfl rfl rfl;have ob:=b3.on.trans oa;rw[setT_at,show({sft (a.length+1) t with at_:=t.at_}:Tok)=t from rfl]at b2;obtain⟨w1,Sc,c1,c2,c3,c4,c5⟩:=qfh ob 39 5 (Tr.ofListFrom .nil [(.int .i64 0),(sv []),.nilslice,(.bool false),(.int .i64 0)] 0) (qe6 t uz) (by decide) (by decide);have oc:=c4.on.trans ob;have g1:Grew (fun _=>False) S Sb:=qd9 ((n2.mono fun x _ h=>h.elim).trans ((a3.mono fun x _ h=>(by omega:S.next<=x)).trans (b3.mono fun x _ h=>by omega)));have g2:Grew (fun _=>False) S Sc:=g1.trans c4;have y3':=y3.grew y4 (fun h=>h) g2;have hlY:=rv_ldA oc y3' gy;obtain⟨w2,Sd,d1,d2,d3,d4,d5⟩:=qfh oc 39 5 (Tr.ofListFrom .nil [(.int .i64 0),(sv []),.nilslice,(.bool false),(.int .i64 0)] 0) (qe6 t uy) (by decide) (by decide);have od:=d4.on.trans oc;have g3:Grew (fun _=>False) S Sd:=g2.trans d4
 have vw1:VwT Sd w1 [t]:=vw_of (Q:=fun _=>True) od (c2.grew (fun r _ h=>h) d4) ⟨rfl,fun i u hu=>by
  have hi:i=0:=by have:=(List.getElem?_eq_some_iff.1 hu).1; simp at this; exact this
  subst hi;simp only[List.getElem?_cons_zero,oS]at hu;subst hu
  exact⟨_,rfl,uz,ruz,rfl,huz.grew (fun r _ h=>h) g3,(hwz.mono (fun _ _=>trivial)).grew g3 (fun _ _ h=>h),fun _ _=>trivial⟩⟩ (by simp)
 have vw2:VwT Sd w2 [t]:=vw_of (Q:=fun _=>True) od d2 ⟨rfl,fun i u hu=>by
  have hi:i=0:=by have:=(List.getElem?_eq_some_iff.1 hu).1; simp at this; exact this
  subst hi;simp only[List.getElem?_cons_zero,oS]at hu;subst hu
  exact⟨_,rfl,uy,ruy,rfl,huy.grew (fun r _ h=>h) g3,(hwy.mono (fun _ _=>trivial)).grew g3 (fun _ _ h=>h),fun _ _=>trivial⟩⟩ (by simp)
 obtain⟨L,hsm⟩:=Lg.ev_lg hL (view_run hK hL m D od vw1 vw2 (fun u hu=>by rw[List.mem_singleton]at hu; subst hu; exact hdep _ htm)) [];have hat':=hat t htm;have hbc:=b4;obtain⟨Se,e1,e2,e3,e4⟩:=qeg ob Sd [] [[⟨S.next,0,0+5,false⟩],[⟨Sb.next,0,big,true⟩],[],[],[],[⟨by_,j*5,j*5+5,false⟩],[⟨Sc.next,0,big,true⟩],L,[]];refine⟨Se,?_,⟨by rw[e3]; exact g3.next,e4.trans ho.symm,fun x hx hw=>by rw[e2]; exact g3.keep x hx hw⟩⟩;rw[L4_84_eq,hy.len,b_s];dsimp only;rw[hyl,qkg,dT hj,b_s,i_b,c_t,hx.len,b_s];dsimp only;rw[hxl,qei (by omega),b_s,addN (by omega),b_s,z2,b_s,rv_ldA ho z3 gz,b_s,b_s];dsimp only;rw[qbv,hSn,a1,b_s,fa4,b_s,hld,b_s];dsimp only;rw[ln_s,b_s];dsimp only;rw[show((sft (a.length+1) t).at_:Int)=((a.length+1+t.at_:Nat):Int)from rfl,subF (by omega) (by omega),b_s,show(V.int .i64 1)=.int .i64 ((1:Nat):Int)from rfl,subC 1 (by omega) (by omega),b_s,show a.length+1+t.at_-a.length-1=t.at_ by omega,b_s,b1,b_s];dsimp only;rw[lons',b2.ldOn big5,b_s];dsimp only;rw[lons',llg',bs_lg ob c1,b_s];dsimp only;rw[y2,b_s,lons',llg',ldA_lg oc hlY,b_s];dsimp only;rw[lons',llg',bs_lg oc d1,b_s];dsimp only;rw[lons',llg',hsm,qby,u_not,b_s];simp only[lg_log]
 rw[qez (pairs_line4 _ _ _ _ _ (qkm (by omega)) (qkm (by omega)) (qkm (by omega)) (qkm (by omega))),lons',llg',e1,i_b,Bool.not_true,c_f,show(V.int .i64 ((1:Nat):Int))=.int .i64 1 from rfl,qei (by omega),b_s]
end
section
variable {K:FuncId->Option KF} {S U T:St}
theorem lns_loop (hK:RefL K) (hL:Lg.KnLoc K) (m D:Nat) (a:Bs) (N:Nat) (nk:Ac->St->Rs) (ek:Nat->Ac->St->Rs) {v5 v7 v10:V} {rx ry rz:List (Tr V)} {X Y:List Tok} {Qy Qz:Nat->Prop} {ln:Tok}
 (hxl:rx.length=X.length) (hs:X.length+Y.length<1000000) (ha:a.length<1000000) (hat:∀t∈Y,t.at_<1000000) (hdep:∀t∈Y,qcx t.parts<=D) :
 ∀(k j q:Nat) (S:St),j+k=Y.length->k<q->S.on=false->RV S v5 39 5 rx->RV S v7 39 5 ry->TksAt S Qy Y ry->RV S v10 39 5 rz->TksAt S Qz (X++[ln]++Y.map (sft (a.length+1))) rz->
 ∃U,L4_84 (ev E0 K (m+D+2)) N nk ek q (sv a) v5 v7 v10 (.int .i64 (j:Int)) S=ek 2 (fr 124 [(5,v5),(10,v10)]) U/\Grew (fun _=>False) S U
 | k,j,0,S,_,hq,_,_,_,_,_,_=>absurd hq (Nat.not_lt_zero _)
 | 0,j,q+1,S,hj,hq,ho,hx,hy,hyt,hz,hzt=>by
  refine⟨S,?_,Grew.refl _ _⟩;have hyl:=hyt.1;rw[L4_84_eq,hy.len,b_s];dsimp only;rw[hyl,qkg,dF (by omega),b_s,i_b,c_f]
 | k+1,j,q+1,S,hj,hq,ho,hx,hy,hyt,hz,hzt=>by
  obtain⟨U,h1,g1⟩:=line_step hK hL m D a N nk ek ho hx hxl hy hyt hz hzt hs ha hat hdep j q (by omega);have hn:∀{v:V} {rows:List (Tr V)},RV S v 39 5 rows->RV U v 39 5 rows:=fun h=>h.grew (fun _ _ h=>h) g1;obtain⟨U',h2,g2⟩:=lns_loop hK hL m D a N nk ek hxl hs ha hat hdep k (j+1) q U (by omega) (by omega) (g1.on.trans ho) (hn hx) (hn hy) (hyt.grew g1 (fun _ _ h=>h)) (hn hz) (hzt.grew g1 (fun _ _ h=>h));exact⟨U',h1.trans h2,g1.trans g2⟩
theorem line_front (hK:RefL K) (hL:Lg.KnLoc K) (m D:Nat) (N:Nat) (nk:Ac->St->Rs) (ek:Nat->Ac->St->Rs) {v5 v10:V} {rx rz:List (Tr V)} {X Z:List Tok} {Qx Qz:Nat->Prop} {ln:Tok} (ho:S.on=false) (hx:RV S v5 39 5 rx) (hxt:TksAt S Qx X rx) (hz:RV S v10 39 5 rz) (hzt:TksAt S Qz (X++[ln]++Z) rz) (hs:X.length+Z.length<1000000) (hdep:∀t∈X,qcx t.parts<=D) :
 R4_75 (ev E0 K (m+D+2)) N nk ek (fr 124 [(5,v5),(10,v10)]) S=some (.ret (.bool true),S):=by
 have hzl:(X++[ln]++Z).length=X.length+1+Z.length:=by rw[lAq,lAq,List.length_singleton]
 obtain⟨v',s1,s2⟩:=view_front ho hz hzt (by omega) (by omega) X.length (by omega);rw[show(X++[ln]++Z).take X.length=X by rw[List.append_assoc,List.take_left]]at s2;rw[R4_75_eq,hx.len,b_s];dsimp only;rw[hxt.1,s1,b_s];dsimp only;rw[view_run hK hL m D ho s2 (vw_of ho hx hxt (by omega)) hdep,callP_ret]
theorem lex_len:∀(n:Nat) {s:Bs} (i:Nat) (toks:List Tok) (waits:List (Nat×Bs)) (T:List Tok),i<=s.length->Inv s i toks waits->qi2 n s i toks waits=.ok T->T.length<=2*s.length
 | 0,s,i,toks,waits,T,_,_,h=>by unfold qi2 at h; cases h
 | n+1,s,i,toks,waits,T,hi,hI,h=>by
  rw[qbq]at h;obtain⟨i1,i2,i3⟩:=qe0 (s.length+1) s i hi (by omega);have hIU:Inv s (qeh (s.length+1) s i) toks waits:=⟨by have:=hI.t; omega,by have:=hI.w; omega,hI.ix,hI.tx⟩
  split at h
  . rename_i hlt
    split at h
    . cases h
    . rename_i q hq
      obtain⟨j1,j2,j3⟩:=qfi hIU hlt (i3 hlt).1 (i3 hlt).2 hq;exact lex_len n _ _ _ _ j2 j3 h
  . split at h
    . cases h
      have:=hI.t;omega
    . cases h
theorem lexA_len {s:Bs} {T:List Tok} (h:qfb s=.ok T):T.length<=2*s.length:=lex_len _ _ _ _ _ (Nat.zero_le _) (inv0 s) (lexA_ok h).2
theorem cat10 (c d:Bool) (a:Bs) (h:a.length<100000) (t:Bs) (ht:t.length<100000):qa5 E0 .add 9 c d (sv a) (sv t)=some (sv (a++t)):=qbg c d (by omega)
theorem line_rest (d:Nat) (hd:92000<=d) (a b:Bs) {v5 v7:V} {rx ry:List (Tr V)} {X Y:List Tok} {Qx Qy:Nat->Prop} (ho:S.on=false) (hx:RV S v5 39 5 rx) (hxt:TksAt S Qx X rx) (hy:RV S v7 39 5 ry) (hyt:TksAt S Qy Y ry) (hA:qfb a=.ok X) (hB:qfb b=.ok Y) (hX:qea X=false) (hal:a.length<=1900) (hbl:b.length<=1900) (hQx:∀x,Qx x->x<S.next) (hQy:∀x,Qy x->x<S.next) :
 ∃U,R4_41 (ev E0 KX (d+40)) qa3 (qcn E0 (ev E0 KX (d+40)) Tryd.f4) qb0 (fr 124 [(0,sv a),(1,sv b),(5,v5),(7,v7)]) S=some (.ret (.bool true),U)/\Grew (fun _=>False) S U:=by
 have hZ:=lines_law hA hB (by omega) hX;have hzl:(a++[10]++b).length<=3801:=by rw[lAq,lAq]; simp only[List.length_singleton]; omega
 have h8:=lex_run refX (d+19) (a++[10]++b) ho (by omega) (by omega);rw[hZ]at h8;obtain⟨U1,v,rz,r1,r2,r3,r4,r5⟩:=h8;have o1:=r5.on.trans ho;have g1:Grew (fun _=>False) S U1:=qd9 r5;have hx1:RV U1 v5 39 5 rx:=hx.grew (fun _ _ h=>h) g1;have hy1:RV U1 v7 39 5 ry:=hy.grew (fun _ _ h=>h) g1;have hxt1:=hxt.grew g1 (fun _ _ h=>h);have hyt1:=hyt.grew g1 (fun _ _ h=>h);have lX:=lexA_len hA;have lY:=lexA_len hB;have lZ:(X++[lineT a.length]++Y.map (sft (a.length+1))).length=X.length+1+Y.length:=by rw[lAq,lAq,List.length_singleton,lM]
 have hrz:=r3.1;obtain⟨U2,l1,l2⟩:=lns_loop refX lgX (d+16) 22 a qa3 (R4_75 (ev E0 KX (d+40)) qa3 (fun a s=>qbs [4] a fun a=>qcn E0 (ev E0 KX (d+40)) Tryd.f4 a s) qb0) (exB 2 (R4_75 (ev E0 KX (d+40)) qa3 (fun a s=>qbs [4] a fun a=>qcn E0 (ev E0 KX (d+40)) Tryd.f4 a s) qb0) qb0) (v5:=v5) (v7:=v7) (v10:=v) (rx:=rx) (ry:=ry) (rz:=rz) (X:=X) (Y:=Y) (ln:=lineT a.length) (Qy:=Qy) (Qz:=fun x=>S.next<=x/\x<U1.next) hxt.1 (by omega) (by omega) (fun t ht=>by have:=(order_law hB).lt t ht; omega) (fun t ht=>lexA_dep hB t ht) Y.length 0 qa3 U1 (by omega) (by unfold qa3; omega) o1 hx1 hy1 hyt1 r2 r3;have o2:=l2.on.trans o1;have hfr:=line_front (S:=U2) refX lgX (d+16) 22 qa3 (fun a s=>qbs [4] a fun a=>qcn E0 (ev E0 KX (d+40)) Tryd.f4 a s) qb0 (v5:=v5) (v10:=v) (X:=X) (ln:=lineT a.length) (Z:=Y.map (sft (a.length+1))) o2 (hx1.grew (fun _ _ h=>h) l2) (hxt1.grew l2 (fun _ _ h=>h)) (r2.grew (fun _ _ h=>h) l2) (r3.grew l2 (fun _ _ h=>h)) (by rw[lM]; omega) (fun t ht=>lexA_dep hA t ht);refine⟨U2,?_,g1.trans l2⟩;have hvw:=vw_of o1 r2 r3 (by omega);obtain⟨r,c,u,ru,Q,k1,_,_,k2,_⟩:=hvw.2.2 X.length (lineT a.length) (by rw[List.append_assoc,List.getElem?_append_right (lR _),Nat.sub_self]; rfl);rw[R4_41_eq,cat10 _ _ _ (by omega) _ (by decide),b_s,cat10 _ _ _ (by rw[lAq]; simp only[List.length_singleton]; omega) _ (by omega),b_s,r1,callP_ret,ex0,b_s,ex1,b_s,nd_neq,b_s]
 simp only[g_f,b_s,c_t,c_f,nF,p_b];rw[hvw.1,b_s];dsimp only;rw[hx1.len,b_s];dsimp only;rw[hxt.1,qei (by omega),b_s,hy1.len,b_s];dsimp only;rw[hyt.1,addN (by omega),b_s,lZ,ne3s,b_s];simp only[g_f,b_s,c_t,nF];rw[hx1.len,b_s];dsimp only;rw[hxt.1,k1,b_s,faPg 0 0 _ false r,b_s,k2,b_s];dsimp only;rw[show(V.int .i64 2)=.int .i64 ((2:Nat):Int)from rfl,i3ne,b_s,p_b,c_f,b_s,i_b,show((lineT a.length).kind != 2)=false from rfl,c_f];rw[show(V.int .i64 0)=.int .i64 ((0:Nat):Int)from rfl];exact l1.trans ((exB_same ..).trans hfr)
end
section
variable {S U T:St}
theorem lex_any (d:Nat) (t:Bs) (ho:S.on=false) (hl:t.length<=4100) (hd:92000<=d):∃U v e rows,(ev E0 KX (d+40)).f 8 [sv t] S=some (.ret (.tuple [v,e]),U)/\Grew (fun _=>False) S U/\((∃T,qfb t=.ok T/\e=.niliface/\RV U v 39 5 rows/\TksAt U (fun x=>S.next<=x/\x<U.next) T rows)\/(∃f x,qfb t=.error f/\v=.nilslice/\e=.iface 51 (.ptr x 0)/\rows=[])):=by
 have h8:=lex_run refX (d+19) t ho (by omega) (by omega);cases hA:qfb t with
 | ok toks=>
  rw[hA]at h8;obtain⟨U1,v,rT,r1,r2,r3,r4,r5⟩:=h8;exact⟨U1,v,.niliface,rT,r1,qd9 r5,.inl ⟨toks,rfl,rfl,r2,r3⟩⟩
 | error f=>
  rw[hA]at h8;obtain⟨U1,x,r1,r2,r3,r4,r5⟩:=h8;exact⟨U1,.nilslice,.iface 51 (.ptr x 0),[],r1,qd9 r5,.inr ⟨f,x,rfl,rfl,rfl,rfl⟩⟩
theorem lines_run (d:Nat) (hd:92000<=d) (a0 b0:Bs) (ho:S.on=false) (hH:Hd S):∃U,(ev E0 KX (d+41)).f 4 [sv a0,sv b0] S=some (.ret (.bool true),U)/\Grew (fun _=>False) S U:=by
 have hma:min a0.length 1900<=a0.length:=Nat.min_le_left ..;have hmb:min b0.length 1900<=b0.length:=Nat.min_le_left ..;have hal:(a0.take (min a0.length 1900)).length<=1900:=by rw[List.length_take]; omega
 have hbl:(b0.take (min b0.length 1900)).length<=1900:=by rw[List.length_take]; omega
 obtain⟨U0,w1,w2⟩:=works_run knX (S:=S) (d+17) (by omega) ho hH;have o0:=w2.on.trans ho;generalize hE0:F4 (ev E0 KX (d+40)) qa3 (sv a0) (sv b0) S=R;have hE:=hE0;rw[F4_eq,w1,callP_ret,u_not,b_s,i_b,Bool.not_true,c_f,ln_s,b_s]at hE;dsimp only at hE;rw[show(V.int .i64 1900)=.int .i64 ((1900:Nat):Int)from rfl,minL,b_s]at hE;dsimp only at hE;rw[qbd und9 a0 (qdh .i64 hma) hma,b_s,List.drop_zero,Nat.sub_zero]at hE;dsimp only at hE;rw[ln_s,b_s]at hE;dsimp only at hE;rw[minL,b_s]at hE;dsimp only at hE;rw[qbd und9 b0 (qdh .i64 hmb) hmb,b_s,List.drop_zero,Nat.sub_zero]at hE;dsimp only at hE;generalize a0.take (min a0.length 1900)=a at *;generalize b0.take (min b0.length 1900)=b at *
 suffices hq:∃U,R=some (.ret (.bool true),U)/\Grew (fun _=>False) S U by
  obtain⟨U,h1,h2⟩:=hq;exact⟨U,rv4 rfl (hE0.trans h1),h2⟩
 obtain⟨U1,v5,e5,rx,r1,r2,r3⟩:=lex_any d a o0 (by omega) hd;have o1:=r2.on.trans o0;obtain⟨U2,v7,e7,ry,q1,q2,q3⟩:=lex_any d b o1 (by omega) hd;have o2:=q2.on.trans o1;have g2:Grew (fun _=>False) S U2:=w2.trans (r2.trans q2);have n1:=r2.next
 have n2:=q2.next
 rw[r1,callP_ret,ex0,b_s,ex1,b_s,q1,callP_ret,ex0,b_s,ex1,b_s]at hE;rcases r3 with⟨X,hA,rfl,hx,hxt⟩|⟨f,x,hA,rfl,rfl,rfl⟩
 . rcases q3 with⟨Y,hB,rfl,hy,hyt⟩|⟨f,x,hB,rfl,rfl,rfl⟩
   . rw[nd_neq,b_s]at hE
     simp only[g_f,b_s,c_t,c_f,nF,p_b,nd_neq]at hE;rw[suf_run refX (d+38) a [92] U2 (by omega),callP_ret,i_b]at hE;by_cases hsf:sufD a [92]=true
     . rw[hsf,c_t]at hE
       exact⟨U2,hE.symm,g2⟩
     . rw[show sufD a [92]=false by simpa using hsf,c_f]at hE
       have hx2:RV U2 v5 39 5 rx:=hx.grew (fun _ _ h=>h) q2;have hxt2:=hxt.grew q2 (fun _ _ h=>h);have lX:=lexA_len hA;have hvw:=vw_of o2 hx2 hxt2 (by omega);rw[show(V.int .i64 0)=.int .i64 ((0:Nat):Int)from rfl,here_loop _ qa3 _ _ hvw (sv a) (sv b) v7 X 0 qa3 rfl (by unfold qa3; omega)]at hE;by_cases hh:qea X=true
       . rw[hh,c_t]at hE
         exact⟨U2,hE.symm,g2⟩
       . rw[show qea X=false by simpa using hh,c_f,exB_same]at hE
         obtain⟨U3,z1,z2⟩:=line_rest d hd a b o2 hx2 hxt2 hy hyt hA hB (by simpa using hh) hal hbl (fun x hx=>by omega) (fun x hx=>by omega);exact⟨U3,hE.symm.trans z1,g2.trans z2⟩
   . rw[nd_neq,b_s]at hE
     simp only[g_f,b_s,c_t,c_f,nF,p_b,nx_neq,Bool.not_true,callP_ret,i_b]at hE;exact⟨U2,hE.symm,g2⟩
 . rw[nx_neq,b_s]at hE
   simp only[g_f,b_s,c_t,c_f,p_b,Bool.not_true,callP_ret,i_b]at hE;exact⟨U2,hE.symm,g2⟩
end
end Go.Proofs.YtafbipadnnmccaaDoor.W
