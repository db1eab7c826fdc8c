/-
  WHAT THE FUNCTIONS COME TO: each is read by the evaluator,printed,and told as a function of data,part 13 of 13 (no condition).
-/
import Derived.Test.YtafbipadnnmccaaDoorW12
import Derived.Test.YtafbipadnnmccaaDoorProg
import Derived.KernelRfl
noncomputable section
namespace Go.Proofs.YtafbipadnnmccaaDoor.W
open Go.Proofs.YtafbipadnnmccaaDoor.Ev
def lineT (i:Nat):Tok:=⟨2,[],[],false,i⟩
theorem inv0 (s:Bs):Inv s 0 [] []:=⟨lR _,lR _,fun w h=>(by cases h),fun x h=>(by cases h)⟩
theorem lexA_ok {s:Bs} {T:List Tok} (h:qfk s=.ok T):s.length<=4000/\qi8 (s.length+1) s 0 [] []=.ok T:=by
 unfold qfk at h;split at h
 . cases h
 . exact⟨by omega,h⟩
theorem lexA_of {s:Bs} (h:s.length<=4000):qfk s=qi8 (s.length+1) s 0 [] []:=by
 unfold qfk;rw[iN (by omega)]
theorem lexA_ex {s:Bs} {T:List Tok} (h:qfk s=.ok T):∃e,e<=1/\(e=1->qhj T=true)/\∀y:Bs,(s++10::y).length<=4000->∃m,(s++10::y).length+1<=m+(s.length+e)/\qfk (s++10::y)=qi8 m (s++10::y) (s.length+e) T []:=by
 obtain⟨h1,h2⟩:=lexA_ok h;obtain⟨e,k1,k2,k3⟩:=lex_ex (s.length+1) 0 [] [] T (Nat.zero_le _) (by omega) (inv0 s) (fun h=>absurd rfl h) h2;refine⟨e,k1,k2,fun y hy=>?_⟩;rw[lexA_of hy];exact k3 y _ (by omega)
theorem lex_line {s y:Bs} {T:List Tok} {m:Nat} (hm:0<m):qi8 m (s++10::y) s.length T []=qi8 (m-1) (s++10::y) (s.length+1) (T++[lineT s.length]) []:=by
 obtain⟨m,rfl⟩:∃k,m=k+1:=⟨m-1,by omega⟩
 have hlt:s.length<(s++10::y).length:=by rw[qcr]; omega
 rw[qbr,ski_nl,iP hlt];unfold qdv linD;rw[qbe hlt,byt_nl,iP (by decide)];rfl
theorem ski_at {s:Bs} {n i:Nat} (hi:i<s.length) (h:byt s i=35):qek n s i=i:=by
 cases n with
 | zero=>rfl
 | succ n=>
  have ha:atD s i [92,10]=false:=by
   unfold atD;rw[List.drop_eq_getElem_cons hi,beq_eq_false_iff_ne];intro hh;have hs:s[i]=35:=by rw[<- h]; exact qez hi
   rw[hs]at hh;exact absurd (qn9 hh) (by decide)
  unfold qek;rw[h,ha,iN (show ¬((35:UInt8)=32/\i<s.length)from fun h=>absurd h.1 (by decide)),iN (show ¬(35:UInt8)=9 by decide),iN (by decide)]
theorem lex_end {m:Nat} {s:Bs} {i:Nat} {T:List Tok} (hm:0<m) (hi:s.length<=i):qi8 m s i T []=.ok T:=by
 obtain⟨m,rfl⟩:∃k,m=k+1:=⟨m-1,by omega⟩
 rw[qbr,ski_end _ _ _ hi,iN (by omega),iP rfl]
theorem lex_remark {p r:Bs} {m:Nat} {T:List Tok} (hm:1<m) (hr:(10:UInt8)∉r):qi8 m (p++35::32::r) p.length T []=.ok T:=by
 obtain⟨m,rfl⟩:∃k,m=k+1:=⟨m-1,by omega⟩
 have hlt:p.length<(p++35::32::r).length:=by rw[lAq,List.length_cons]; omega
 have hb:byt (p++35::32::r) p.length=35:=by
  have:=qlp p (35::32::r) 0;rw[Nat.add_zero]at this;rw[this];rfl
 have hx:qfj (p++35::32::r) p.length 10=none:=by
  have:=idxD_sh p (35::32::r) 0 10;rw[Nat.add_zero]at this;rw[this]
  have hn:qfj (35::32::r) 0 10=none:=by
   unfold qfj
   rw[List.drop_zero,List.findIdx?_eq_none_iff.2 fun x hx=>by
    rw[beq_eq_false_iff_ne];rintro rfl;simp at hx
    exact hr hx]
   rfl
  rw[hn];rfl
 rw[qbr,ski_at hlt hb,iP hlt];unfold qdv linD remD;rw[qbe hlt,qbe hlt,hb,iN (by decide)];dsimp only;rw[iP (by decide),hx];exact lex_end (by omega) (lR _)
theorem remark_law {s:Bs} {T:List Tok} (h:qfk s=.ok T) (hl:s.length<=3800):∃T',qfk (s++[10])=.ok T'/\∀r:Bs,r.length<=100->(10:UInt8)∉r->qfk (s++[10,35,32]++r)=.ok T':=by
 obtain⟨e,h1,h2,h3⟩:=lexA_ex h;obtain⟨m,k1,k2⟩:=h3 [] (by rw[qcr]; simp; omega);rw[qcr,List.length_nil]at k1;have hr':∀r:Bs,s++[10,35,32]++r=s++10::35::32::r:=fun r=>by rw[List.append_assoc]; rfl
 have hp:∀r:Bs,s++10::35::32::r=(s++[10])++35::32::r:=fun r=>by rw[List.append_assoc]; rfl
 have hpl:(s++[10]).length=s.length+1:=by rw[lAq]; rfl
 rcases Nat.eq_zero_or_pos e with he|he
 . subst he
   refine⟨T++[lineT s.length],?_,fun r hr h10=>?_⟩
   . rw[k2,Nat.add_zero,lex_line (by omega),lex_end (by omega) (by rw[hpl]; omega)]
   . obtain⟨m',q1,q2⟩:=h3 (35::32::r) (by rw[qcr,List.length_cons,List.length_cons]; omega)
     rw[qcr,List.length_cons,List.length_cons]at q1;rw[hr',q2,Nat.add_zero,lex_line (by omega),hp,<- hpl];exact lex_remark (by omega) h10
 . have he:e=1:=by omega
   subst he;refine⟨T,?_,fun r hr h10=>?_⟩
   . rw[k2,lex_end (by omega) (by rw[hpl]; omega)]
   . obtain⟨m',q1,q2⟩:=h3 (35::32::r) (by rw[qcr,List.length_cons,List.length_cons]; omega)
     rw[qcr,List.length_cons,List.length_cons]at q1;rw[hr',q2,hp,<- hpl];exact lex_remark (by omega) h10
def Bef (t u:Tok):Prop:=t.at_<u.at_\/(t.at_=u.at_/\u.kind=3)
def OrdT (l:List Tok):Prop:=∀(i:Nat) (t u:Tok),l[i]?=some t->l[i+1]?=some u->Bef t u
theorem OrdT.push {l:List Tok} {a:Tok} (h:OrdT l) (hl:∀t,l.getLast?=some t->Bef t a):OrdT (l++[a]):=by
 intro i t u ht hu;by_cases h1:i+1<l.length
 . rw[List.getElem?_append_left (by omega)]at ht
   rw[List.getElem?_append_left h1]at hu;exact h i t u ht hu
 . have h2:i+1=l.length:=by
    have:=(List.getElem?_eq_some_iff.1 hu).1;rw[lAq,List.length_singleton]at this;omega
   rw[List.getElem?_append_left (by omega)]at ht;rw[h2,List.getElem?_append_right (lR _),Nat.sub_self]at hu;have hu':a=u:=Option.some.inj hu;subst hu';refine hl t ?_;rw[List.getLast?_eq_getElem?,<- ht]
   congr 1
   omega
def kap (t:Tok):Nat×Nat:=(t.kind,t.at_)
theorem OrdT.of_map {l l':List Tok} (h:OrdT l) (e:l'.map kap=l.map kap):OrdT l':=by
 intro i t u ht hu
 have g:∀(j:Nat) (x:Tok),l'[j]?=some x->∃y:Tok,l[j]?=some y/\kap y=kap x:=fun j x hx=>by
  have:=congrArg (fun l:List (Nat×Nat)=>l[j]?) e;simp only[List.getElem?_map,hx,Option.map_some]at this;cases hy:l[j]? with
  | none=>rw[hy]at this; cases this
  | some y=>rw[hy]at this; exact⟨y,rfl,(Option.some.inj this).symm⟩
 obtain⟨t',h1,h2⟩:=g _ _ ht;obtain⟨u',h3,h4⟩:=g _ _ hu;have:=h i t' u' h1 h3;have a1:t'.at_=t.at_:=congrArg Prod.snd h2;have a2:u'.at_=u.at_:=congrArg Prod.snd h4;have a3:u'.kind=u.kind:=congrArg Prod.fst h4;unfold Bef at *;rw[a1,a2,a3]at this;exact this
section
variable {s:Bs}
theorem setk_kap {toks:List Tok} {t:Nat} {y:Tok} (h:t<toks.length->kap y=kap (toks.getD t ⟨0,[],[],false,0⟩)):(toks.set t y).map kap=toks.map kap:=by
 rw[List.map_set];by_cases ht:t<toks.length
 . rw[h ht]
   refine List.ext_getElem? fun k=>?_;rw[List.getElem?_set];by_cases hk:t=k
   . subst hk
     rw[iP rfl,iP (by rw[lM]; exact ht),List.getElem?_map,List.getElem?_eq_getElem ht,List.getD_eq_getElem?_getD,List.getElem?_eq_getElem ht];rfl
   . rw[iN hk]
 . rw[List.set_eq_of_length_le (by rw[lM]; omega)]
theorem doc1_kap {w:Nat×Bs} {i j:Nat} {toks tk:List Tok} (h:qej s w i toks=.ok (tk,j)):tk.map kap=toks.map kap:=by
 unfold qej at h;split at h
 . cases h
 . dsimp only at h
   split at h
   . cases h
     exact setk_kap fun _=>rfl
   . split at h
     . cases h
     . cases h
       exact setk_kap fun _=>rfl
theorem docs_kap:∀{ws:List (Nat×Bs)} {i j:Nat} {toks tk:List Tok},qcz s ws i toks=.ok (tk,j)->tk.map kap=toks.map kap
 | [],i,j,toks,tk,h=>by unfold qcz at h; cases h; rfl
 | w::ws,i,j,toks,tk,h=>by
  rw[qc2]at h;split at h
  . cases h
  . rename_i hd
    rw[docs_kap h,doc1_kap hd]
structure Ord (i:Nat) (toks:List Tok):Prop where
 o:OrdT toks
 lt:∀t∈toks,t.at_<i
theorem Ord.add {i j k:Nat} {toks:List Tok} {t:Tok} (h:Ord i toks) (hi:i<=k) (ht:t.at_=k) (hk:k<j):Ord j (toks++[t]):=
 ⟨h.o.push fun u hu=>.inl (by have:=h.lt u (List.mem_of_getLast? hu); omega),fun u hu=>by
  rcases List.mem_append.1 hu with hu|hu
  . have:=h.lt u hu; omega
  . rw[List.mem_singleton]at hu; subst hu; omega⟩
theorem step_ord {i i0:Nat} {toks:List Tok} {waits:List (Nat×Bs)} {r:Nat×List Tok×List (Nat×Bs)} (h:qdv s i toks waits=.ok r) (hO:Ord i0 toks) (hi:i0<=i) (hr:i<r.1):Ord r.1 r.2.1:=by
 unfold qdv linD remD mrkD wrdD at h;split at h
 . rename_i r' hl
   split at hl
   . cases hl
     split at h
     . cases h
     . rename_i q hq
       cases h;dsimp only at hr ⊢;have e:=docs_kap (tk:=q.1) (j:=q.2) hq;have hA:=hO.add (j:=q.2) (t:=(⟨2,[],[],false,i⟩:Tok)) hi rfl hr;refine⟨hA.o.of_map e,fun t ht=>?_⟩;have hm:kap t∈(toks++[(⟨2,[],[],false,i⟩:Tok)]).map kap:=by rw[<- e]; exact List.mem_map_of_mem ht
       obtain⟨u,hu,hk⟩:=List.mem_map.1 hm;have a1:u.at_=t.at_:=congrArg Prod.snd hk;rw[<- a1];exact hA.lt u hu
   . cases hl
 . split at h
   . rename_i r' hl
     split at hl
     . cases hl
       cases h;exact⟨hO.o,fun t ht=>by have:=hO.lt t ht; dsimp only at hr ⊢; omega⟩
     . cases hl
   . split at h
     . rename_i r' hl
       split at hl
       . cases hl
         cases h;exact hO.add hi rfl hr
       . split at hl
         . cases hl
           cases h
         . cases hl
     . split at h
       . cases h
       . split at h
         . split at h
           . cases h
           . rename_i l j _ _ _
             cases h;dsimp only at hr ⊢;have hA:=hO.add (j:=j) (t:=⟨0,[],l,false,i⟩) hi rfl hr;have e:toks++[⟨0,[],l,false,i⟩,⟨3,[],[],l.any fun p=>p.kind==1,i⟩]=toks++[⟨0,[],l,false,i⟩]++[⟨3,[],[],l.any fun p=>p.kind==1,i⟩]:=by rw[List.append_assoc]; rfl
             rw[e];refine⟨hA.o.push fun u hu=>?_,fun u hu=>?_⟩
             . rw[List.getLast?_concat]at hu
               cases hu;exact .inr ⟨rfl,rfl⟩
             . rcases List.mem_append.1 hu with hu|hu
               . exact hA.lt u hu
               . rw[List.mem_singleton]at hu; subst hu; exact hr
         . cases h
           exact hO.add hi rfl hr
theorem lex_ord:∀(n i:Nat) (toks:List Tok) (waits:List (Nat×Bs)) (T:List Tok),i<=s.length->Inv s i toks waits->qi8 n s i toks waits=.ok T->Ord i toks->Ord s.length T
 | 0,i,toks,waits,T,_,_,h,_=>by unfold qi8 at h; cases h
 | n+1,i,toks,waits,T,hi,hI,h,hO=>by
  rw[qbr]at h;obtain⟨i1,i2,i3⟩:=qex (s.length+1) s i hi (by omega);have hIU:Inv s (qek (s.length+1) s i) toks waits:=⟨by have:=hI.t; omega,by have:=hI.w; omega,hI.ix,hI.tx⟩
  split at h
  . rename_i hlt
    split at h
    . cases h
    . rename_i q hq
      obtain⟨j1,j2,j3⟩:=qgy hIU hlt (i3 hlt).1 (i3 hlt).2 hq;exact lex_ord n _ _ _ _ j2 j3 h (step_ord hq hO i1 j1)
  . split at h
    . cases h
      exact⟨hO.o,fun t ht=>by have:=hO.lt t ht; omega⟩
    . cases h
theorem order_law {T:List Tok} (h:qfk s=.ok T):Ord s.length T:=
 lex_ord _ _ _ _ _ (Nat.zero_le _) (inv0 s) (lexA_ok h).2 ⟨fun i t u h=>(by simp at h),fun t h=>(by cases h)⟩
end
end Go.Proofs.YtafbipadnnmccaaDoor.W

namespace Go.Proofs.YtafbipadnnmccaaDoor.W
open Go.Proofs.YtafbipadnnmccaaDoor.Ev Go.RowKit
section
variable {K:FuncId->Option KF} {S U T:St}
def VwT (S:St) (v:V) (toks:List Tok):Prop:=(∀T,lnS v T=some (.int .i64 (toks.length:Int),T))/\toks.length<1000000000/\∀(i:Nat) (t:Tok),toks[i]?=some t->∃r c u rows Q,ixP 5 v (.int .i64 (i:Int))=some (.ptr r c)/\RV S u 49 6 rows/\PrAt S Q t.parts rows/\ld1 (.ptr r (c+0)) S=some (.int .i64 (t.kind:Int),S)/\ld1 (.ptr r (c+1)) S=some (sv t.text,S)/\ld1 (.ptr r (c+2)) S=some (u,S)/\ld1 (.ptr r (c+3)) S=some (.bool t.quoted,S)/\ld1 (.ptr r (c+4)) S=some (.int .i64 (t.at_:Int),S)
theorem vw_of (ho:S.on=false) {v:V} {rows:List (Tr V)} {Q:Nat->Prop} {toks:List Tok} (hv:RV S v 39 5 rows) (ht:TksAt S Q toks rows) (hs:toks.length<1000000000):VwT S v toks:=by
 refine⟨fun T=>by rw[<- ht.1]; exact hv.len T,hs,fun i t hi=>?_⟩;have hlt:=(List.getElem?_eq_some_iff.1 hi).1;have h1:=ht.1;obtain⟨r,hr1,hr2,hr3,hr4⟩:=hv.at (i:=i) (by omega)
 obtain⟨c,hg,u,ru,rfl,hu,hw,hb⟩:=ht.2 i t hi;exact⟨r,i*5,u,ru,Q,hr2,hu,hw,qcy ho hr3 hg (by decide) (rowT0 t u),qcy ho hr3 hg (by decide) (rowT1 t u),qcy ho hr3 hg (by decide) (rowT2 t u),qcy ho hr3 hg (by decide) (rowT3 t u),qcy ho hr3 hg (by decide) (rowT4 t u)⟩
set_option maxRecDepth 100000 in
theorem view_loop (hK:RefL K) (hL:Lg.KnLoc K) (m D:Nat) (N:Nat) (nk:Ac->St->Rs) (ek:Nat->Ac->St->Rs) {v v':V} {toks:List Tok} (ho:S.on=false) (hv:VwT S v toks) (hv':VwT S v' toks) (hdep:∀t∈toks,qd7 t.parts<=D) :
 ∀(l:List Tok) (j q:Nat),toks.drop j=l->l.length<q->
 L11_10 (ev E0 K (m+D+1)) N nk ek q v v' (.int .i64 (j:Int)) S=ek 0 (fr 81 []) S
 | l,j,0,_,hq=>absurd hq (Nat.not_lt_zero _)
 | [],j,q+1,hr,hq=>by
  have:=qem hr;rw[L11_10_eq,hv.1,b_s];dsimp only;rw[qiy,dF (by omega),b_s,i_b,c_f]
 | t::l,j,q+1,hr,hq=>by
  obtain⟨hlt,e1,e2,hm⟩:=qfo hr;have hti:toks[j]?=some t:=by rw[List.getElem?_eq_getElem hlt,e1]
  obtain⟨r,c,u,ru,Q,hr2,hu,hw,w0,w1,w2,w3,w4⟩:=hv.2.2 j t hti;obtain⟨r',c',u',ru',Q',hr2',hu',hw',x0,x1,x2,x3,x4⟩:=hv'.2.2 j t hti;have f0:∀i,faP i false 1 (.ptr r c)=some (.ptr r (c+i)):=fun i=>faPg i 0 _ false r;have f0':∀i,faP i false 1 (.ptr r' c')=some (.ptr r' (c'+i)):=fun i=>faPg i 0 _ false r';have a0:=fun L=>qb5 ho w0 L;have a1:=fun L=>qb5 ho w1 L;have a2:=fun L=>qb5 ho w2 L;have a3:=fun L=>qb5 ho w3 L;have a4:=fun L=>qb5 ho w4 L;have b0:=fun L=>qb5 ho x0 L;have b1:=fun L=>qb5 ho x1 L;have b2:=fun L=>qb5 ho x2 L;have b3:=fun L=>qb5 ho x3 L;have b4:=fun L=>qb5 ho x4 L;have hsm:=hv.2.1;obtain⟨L,hs⟩:=Lg.ev_lg hL (sam_run hK hL m D t.parts (hdep t hm) S u u' ru ru' Q Q' ho hu hw hu' hw') [];have hlp:=view_loop hK hL m D N nk ek ho hv hv' hdep l (j+1) q e2 (by simp only[List.length_cons]at hq; omega);rw[L11_10_eq,hv.1,b_s];dsimp only;rw[qiy,dT hlt,b_s,i_b,c_t];simp only[hr2,hr2',b_s,f0,f0',lons',llg',a0,a1,a2,a3,a4,b0,b1,b2,b3,b4,ne3s,ne9s,ne4s,g_f,c_t,c_f,p_b,nF,qmb];rw[hs,qc0];simp only[b_s,c_t,c_f,u_not,Bool.not_true,p_b,qmb];rw[qdd (pairs_same _ _ _ _ _ _ _ _ _ _ _ (qan _ _ _ _ _ _ _ (.inl rfl)) (qan _ _ _ _ _ _ _ (.inl rfl)) (qan _ _ _ _ _ _ _ (.inl rfl)) (qan _ _ _ _ _ _ _ (.inl rfl)) (qan _ _ _ _ _ _ _ (.inl rfl)))];rw[llg',qci ho,i_b,c_f,qeh (by omega),b_s,hlp]
theorem view_run (hK:RefL K) (hL:Lg.KnLoc K) (m D:Nat) {v v':V} {toks:List Tok} (ho:S.on=false) (hv:VwT S v toks) (hv':VwT S v' toks) (hdep:∀t∈toks,qd7 t.parts<=D):(ev E0 K (m+D+2)).f 11 [v,v'] S=some (.ret (.bool true),S):=by
 refine rv11 hK ?_;show F11 (ev E0 K (m+D+1)) qa3 v v' S=_;have hsm:=hv.2.1;rw[F11_eq,hv.1,b_s];dsimp only;rw[hv'.1,b_s];dsimp only;rw[ne3s,b_s,i_b,c_f,show(V.int .i64 0)=.int .i64 ((0:Nat):Int)from rfl,view_loop hK hL m D qa3 _ _ ho hv hv' hdep toks 0 qa3 rfl (by unfold qa3; omega),exB_same,R11_7_eq]
end
end Go.Proofs.YtafbipadnnmccaaDoor.W

namespace Go.Proofs.YtafbipadnnmccaaDoor.W
open Go.Proofs.YtafbipadnnmccaaDoor.Ev Go.RowKit
section
variable {K:FuncId->Option KF} {S U T:St}
theorem lex_len:∀(n:Nat) {s:Bs} (i:Nat) (toks:List Tok) (waits:List (Nat×Bs)) (T:List Tok),i<=s.length->Inv s i toks waits->qi8 n s i toks waits=.ok T->T.length<=2*s.length
 | 0,s,i,toks,waits,T,_,_,h=>by unfold qi8 at h; cases h
 | n+1,s,i,toks,waits,T,hi,hI,h=>by
  rw[qbr]at h;obtain⟨i1,i2,i3⟩:=qex (s.length+1) s i hi (by omega);have hIU:Inv s (qek (s.length+1) s i) toks waits:=⟨by have:=hI.t; omega,by have:=hI.w; omega,hI.ix,hI.tx⟩
  split at h
  . rename_i hlt
    split at h
    . cases h
    . rename_i q hq
      obtain⟨j1,j2,j3⟩:=qgy hIU hlt (i3 hlt).1 (i3 hlt).2 hq;exact lex_len n _ _ _ _ j2 j3 h
  . split at h
    . cases h
      have:=hI.t;omega
    . cases h
theorem lexA_len {s:Bs} {T:List Tok} (h:qfk s=.ok T):T.length<=2*s.length:=lex_len _ _ _ _ _ (Nat.zero_le _) (inv0 s) (lexA_ok h).2
theorem cat10 (c d:Bool) (a:Bs) (h:a.length<100000) (t:Bs) (ht:t.length<100000):qa5 E0 .add 9 c d (sv a) (sv t)=some (sv (a++t)):=qbj c d (by omega)
end
end Go.Proofs.YtafbipadnnmccaaDoor.W

namespace Go.Proofs.YtafbipadnnmccaaDoor.W
open Go.Proofs.YtafbipadnnmccaaDoor.Ev
set_option maxRecDepth 100000
noncomputable section
def C7:Code:=Tryd.f7.body.getD .skip
def B7:D:=(qaw C7 [[],[],[],[],[],[],[],[],[],[],[0,1,5,7],[],[0,1],[],[],[],[],[0,0,1],[4],[],[],[],[],[],[],[]]).1
def RL7:List Nat:=cellsOf Tryd.f7.results.toList
def R7_23 (self:EV) (N:Nat) (nk:Ac->St->Rs) (ek:Nat->Ac->St->Rs) (a:Ac) (S:St):Rs:=qbh [0,1] a fun a=>dr E0 self RL7 N (B7.r.r.r.r.r).r (mkK E0 self Tryd.f7 nk ek) a S
theorem R7_23_eq (self:EV) (N:Nat) (nk:Ac->St->Rs) (ek:Nat->Ac->St->Rs) ( v0 v1:V) (S:St):R7_23 self N nk ek (fr 129 [(0,v0),(1,v1)]) S =
(qbv v1 S).bind fun p26=>
(qjm minV p26.1 [(.int .i64 100)] p26.2).bind fun p27=>
(qai E0 9 v1 none (some p27.1) none p27.2).bind fun p28=>
callP (self.f 17 [p28.1,(sv [10]),(sv [])] p28.2) fun t29 S29=>
callP (self.f 13 [v0,(sv [92])] S29) fun t32 S32=>
ifK t32 (
some (.ret (.bool true),S32)) (
(qa5 E0 .add 9 false true v0 (sv [10,35,32])).bind fun t35=>
(qa5 E0 .add 9 false false t35 t29).bind fun t37=>
callP (self.f 8 [t37] S32) fun t38 S38=>
(qaa t38 0).bind fun t40=>
(qaa t38 1).bind fun t41=>
(qa5 E0 .add 9 false true v0 (sv [10])).bind fun t45=>
callP (self.f 8 [t45] S38) fun t46 S46=>
(qaa t46 0).bind fun t48=>
(qaa t46 1).bind fun t49=>
(qa5 E0 .eql 24 false true t41 .niliface).bind fun t53=>
(qa2 true t53).bind fun g55=>(bif g55 then some t49 else some (.tuple [])).bind fun t55=>
(qa2 true t53).bind fun g56=>(bif g56 then qa5 E0 .eql 24 false true t55 .niliface else some (.tuple [])).bind fun t56=>
(qam t53 (some t56) (some (.bool false))).bind fun t57=>
(qa2 true t57).bind fun g59=>(bif g59 then some t40 else some (.tuple [])).bind fun t59=>
(qa2 true t57).bind fun g60=>(bif g60 then some t48 else some (.tuple [])).bind fun t60=>
(qa2 true t57).bind fun g61=>callP (bif g61 then self.f 11 [t59,t60] S46 else some (.ret (.tuple []),S46)) fun t61 S61=>
(qam t57 (some t61) (some (.bool false))).bind fun t62=>
some (.ret t62,S61)):=by kernel_rfl
def L7_65 (self:EV) (N:Nat) (nk:Ac->St->Rs) (ek:Nat->Ac->St->Rs) (n:Nat) ( v0 v1 v5 v7:V) (S:St):Rs:=qdo [0,1,5,7] (dr E0 self RL7 N (B7.r.r.r.r.r.l.r.l.l)) (mkK E0 self Tryd.f7 nk ek) n (fr 129 [(0,v0),(1,v1),(5,v5),(7,v7)]) S
theorem L7_65_eq (self:EV) (N:Nat) (nk:Ac->St->Rs) (ek:Nat->Ac->St->Rs) (n:Nat) ( v0 v1 v5 v7:V) (S:St):L7_65 self N nk ek (n+1) v0 v1 v5 v7 S =
(lnS v5 S).bind fun p68=>
(qa5 E0 .lss 3 false false v7 p68.1).bind fun t69=>
ifK t69 (
(ixP 5 v5 v7).bind fun t72=>
(faP 4 false 1 t72).bind fun t73=>
(ld1 t73 (onS p68.2)).bind fun p74=>
(qa5 E0 .lss 3 false true p74.1 (.int .i64 0)).bind fun t75=>
(qa2 false t75).bind fun g77=>(bif g77 then some v5 else some (.tuple [])).bind fun t77=>
(qa2 false t75).bind fun g78=>(bif g78 then some v7 else some (.tuple [])).bind fun t78=>
(qa2 false t75).bind fun g79=>(bif g79 then ixP 5 t77 t78 else some (.tuple [])).bind fun t79=>
(qa2 false t75).bind fun g80=>(bif g80 then faP 4 false 1 t79 else some (.tuple [])).bind fun t80=>
(qa2 false t75).bind fun g81=>(bif g81 then ld1 t80 (onS p74.2)else some (.tuple [],(onS p74.2))).bind fun p81=>
(qa2 false t75).bind fun g82=>(bif g82 then some v0 else some (.tuple [])).bind fun t82=>
(qa2 false t75).bind fun g83=>(bif g83 then qbv t82 (onS p81.2)else some (.tuple [],(onS p81.2))).bind fun p83=>
(qa2 false t75).bind fun g84=>(bif g84 then qa5 E0 .geq 3 false false p81.1 p83.1 else some (.tuple [])).bind fun t84=>
(qam t75 (some (.bool true)) (some t84)).bind fun t85=>
(qa2 false t85).bind fun g87=>(bif g87 then some v7 else some (.tuple [])).bind fun t87=>
(qa2 false t85).bind fun g88=>(bif g88 then qa5 E0 .gtr 3 false true t87 (.int .i64 0)else some (.tuple [])).bind fun t88=>
(qa2 false t85).bind fun g89=>(bif g89 then some t88 else some (.tuple [])).bind fun t89=>
(qa2 true t89).bind fun g90=>(bif g90 then some v5 else some (.tuple [])).bind fun t90=>
(qa2 true t89).bind fun g91=>(bif g91 then some v7 else some (.tuple [])).bind fun t91=>
(qa2 true t89).bind fun g92=>(bif g92 then ixP 5 t90 t91 else some (.tuple [])).bind fun t92=>
(qa2 true t89).bind fun g93=>(bif g93 then faP 4 false 1 t92 else some (.tuple [])).bind fun t93=>
(qa2 true t89).bind fun g94=>(bif g94 then ld1 t93 (onS p83.2)else some (.tuple [],(onS p83.2))).bind fun p94=>
(qa2 true t89).bind fun g95=>(bif g95 then some v5 else some (.tuple [])).bind fun t95=>
(qa2 true t89).bind fun g96=>(bif g96 then some v7 else some (.tuple [])).bind fun t96=>
(qa2 true t89).bind fun g97=>(bif g97 then qa5 E0 .sub 3 false true t96 (.int .i64 1)else some (.tuple [])).bind fun t97=>
(qa2 true t89).bind fun g98=>(bif g98 then ixP 5 t95 t97 else some (.tuple [])).bind fun t98=>
(qa2 true t89).bind fun g99=>(bif g99 then faP 4 false 1 t98 else some (.tuple [])).bind fun t99=>
(qa2 true t89).bind fun g100=>(bif g100 then ld1 t99 (onS p94.2)else some (.tuple [],(onS p94.2))).bind fun p100=>
(qa2 true t89).bind fun g101=>(bif g101 then qa5 E0 .lss 3 false false p94.1 p100.1 else some (.tuple [])).bind fun t101=>
(qa2 false t85).bind fun g102=>(bif g102 then qam t89 (some t101) (some (.bool false))else some (.tuple [])).bind fun t102=>
(qam t85 (some (.bool true)) (some t102)).bind fun t103=>
(qa2 false t103).bind fun g105=>(bif g105 then some v7 else some (.tuple [])).bind fun t105=>
(qa2 false t103).bind fun g106=>(bif g106 then qa5 E0 .gtr 3 false true t105 (.int .i64 0)else some (.tuple [])).bind fun t106=>
(qa2 false t103).bind fun g107=>(bif g107 then some t106 else some (.tuple [])).bind fun t107=>
(qa2 true t107).bind fun g108=>(bif g108 then some v5 else some (.tuple [])).bind fun t108=>
(qa2 true t107).bind fun g109=>(bif g109 then some v7 else some (.tuple [])).bind fun t109=>
(qa2 true t107).bind fun g110=>(bif g110 then ixP 5 t108 t109 else some (.tuple [])).bind fun t110=>
(qa2 true t107).bind fun g111=>(bif g111 then faP 4 false 1 t110 else some (.tuple [])).bind fun t111=>
(qa2 true t107).bind fun g112=>(bif g112 then ld1 t111 (onS p100.2)else some (.tuple [],(onS p100.2))).bind fun p112=>
(qa2 true t107).bind fun g113=>(bif g113 then some v5 else some (.tuple [])).bind fun t113=>
(qa2 true t107).bind fun g114=>(bif g114 then some v7 else some (.tuple [])).bind fun t114=>
(qa2 true t107).bind fun g115=>(bif g115 then qa5 E0 .sub 3 false true t114 (.int .i64 1)else some (.tuple [])).bind fun t115=>
(qa2 true t107).bind fun g116=>(bif g116 then ixP 5 t113 t115 else some (.tuple [])).bind fun t116=>
(qa2 true t107).bind fun g117=>(bif g117 then faP 4 false 1 t116 else some (.tuple [])).bind fun t117=>
(qa2 true t107).bind fun g118=>(bif g118 then ld1 t117 (onS p112.2)else some (.tuple [],(onS p112.2))).bind fun p118=>
(qa2 true t107).bind fun g119=>(bif g119 then qa5 E0 .eql 3 false false p112.1 p118.1 else some (.tuple [])).bind fun t119=>
(qa2 false t103).bind fun g120=>(bif g120 then qam t107 (some t119) (some (.bool false))else some (.tuple [])).bind fun t120=>
(qa2 false t103).bind fun g121=>(bif g121 then some t120 else some (.tuple [])).bind fun t121=>
(qa2 true t121).bind fun g122=>(bif g122 then some v5 else some (.tuple [])).bind fun t122=>
(qa2 true t121).bind fun g123=>(bif g123 then some v7 else some (.tuple [])).bind fun t123=>
(qa2 true t121).bind fun g124=>(bif g124 then ixP 5 t122 t123 else some (.tuple [])).bind fun t124=>
(qa2 true t121).bind fun g125=>(bif g125 then faP 0 false 1 t124 else some (.tuple [])).bind fun t125=>
(qa2 true t121).bind fun g126=>(bif g126 then ld1 t125 (onS p118.2)else some (.tuple [],(onS p118.2))).bind fun p126=>
(qa2 true t121).bind fun g127=>(bif g127 then qa5 E0 .neq 3 false true p126.1 (.int .i64 3)else some (.tuple [])).bind fun t127=>
(qa2 false t103).bind fun g128=>(bif g128 then qam t121 (some t127) (some (.bool false))else some (.tuple [])).bind fun t128=>
(qam t103 (some (.bool true)) (some t128)).bind fun t129=>
qh7 [(11,[13]),(24,[30]),(42,[48])] p68.2 [[],[],[],[],p74.2.log,[],[],[],[],[],[],p81.2.log,[],p83.2.log,[],[],[],[],[],[],[],[],[],[],p94.2.log,[],[],[],[],[],p100.2.log,[],[],[],[],[],[],[],[],[],[],[],p112.2.log,[],[],[],[],[],p118.2.log,[],[],[],[],[],[],[],p126.2.log,[],[],[]] (onS p126.2) fun S130=>
ifK t129 (
some (.ret (.bool false),S130)) (
(qa5 E0 .add 3 false true v7 (.int .i64 1)).bind fun t133=>
L7_65 self N nk ek n v0 v1 v5 t133 S130)) (
ek 0 (fr 129 [(0,v0),(1,v1)]) p68.2):=by kernel_rfl
def F7 (self:EV) (N:Nat) (x0 x1:V) (S:St):Rs:=qd9 E0 self N Tryd.f7 B7 [x0,x1] S
theorem F7_eq (self:EV) (N:Nat) (x0 x1:V) (S:St):F7 self N x0 x1 S =
callP (self.f 12 [] S) fun t1 S1=>
(unV .not t1).bind fun t2=>
ifK t2 (
some (.ret (.bool false),S1)) (
(qbv x0 S1).bind fun p6=>
(qjm minV p6.1 [(.int .i64 3000)] p6.2).bind fun p7=>
(qai E0 9 x0 none (some p7.1) none p7.2).bind fun p8=>
callP (self.f 8 [p8.1] p8.2) fun t11 S11=>
(qaa t11 0).bind fun t13=>
(qaa t11 1).bind fun t14=>
(qa5 E0 .neq 24 false true t14 .niliface).bind fun t18=>
ifK t18 (
(lnS t13 S11).bind fun p20=>
(qa5 E0 .eql 3 false true p20.1 (.int .i64 0)).bind fun t21=>
some (.ret t21,p20.2)) (
L7_65 self N (R7_23 self N (qbz E0 self Tryd.f7) qav) (exB 0 (R7_23 self N (qbz E0 self Tryd.f7) qav) qav) N p8.1 x1 t13 (.int .i64 0) S11)):=by kernel_rfl
end
end Go.Proofs.YtafbipadnnmccaaDoor.W
namespace Go.Proofs.YtafbipadnnmccaaDoor.W
open Go.Proofs.YtafbipadnnmccaaDoor.Ev Go.RowKit
theorem rpl_no (c:UInt8) (new:Bs) (h:c∉new):∀t:Bs,c∉qlb c new t
 | []=>by simp[qlb]
 | x::t=>by
  have ih:=rpl_no c new h t;unfold qlb;by_cases hx:x=c
  . rw[iP hx]
    intro hm;rcases List.mem_append.1 hm with hm|hm
    . exact h hm
    . exact ih hm
  . rw[iN hx]
    intro hm;rcases List.mem_cons.1 hm with rfl|hm
    . exact hx rfl
    . exact ih hm
section
variable {K:FuncId->Option KF} {S U T:St}
theorem rv7 (h:K 7=none) {n:Nat} {args:List V} {s:St} {r:En×St} (e:qd9 E0 (ev E0 K n) qa3 Tryd.f7 B7 args s=some r):(ev E0 K (n+1)).f 7 args s=some r:=qa9 (c:=C7) (d:=B7) (by kernel_rfl) (by kernel_rfl) (qa4 C7 _ (by kernel_rfl)) h e
theorem lex_anyK (hK:RefL K) (d:Nat) (t:Bs) (ho:S.on=false) (hl:t.length<=4100) (hd:92000<=d):∃U v e rows,(ev E0 K (d+40)).f 8 [sv t] S=some (.ret (.tuple [v,e]),U)/\Grew (fun _=>False) S U/\((∃T,qfk t=.ok T/\e=.niliface/\RV U v 39 5 rows/\TksAt U (fun x=>S.next<=x/\x<U.next) T rows)\/(∃f x,qfk t=.error f/\v=.nilslice/\e=.iface 51 (.ptr x 0)/\rows=[])):=by
 have h8:=lex_run hK (d+19) t ho (by omega) (by omega);cases hA:qfk t with
 | ok toks=>
  rw[hA]at h8;obtain⟨U1,v,rT,r1,r2,r3,r4,r5⟩:=h8;exact⟨U1,v,.niliface,rT,r1,qe4 r5,.inl ⟨toks,rfl,rfl,r2,r3⟩⟩
 | error f=>
  rw[hA]at h8;obtain⟨U1,x,r1,r2,r3,r4,r5⟩:=h8;exact⟨U1,.nilslice,.iface 51 (.ptr x 0),[],r1,qe4 r5,.inr ⟨f,x,rfl,rfl,rfl,rfl⟩⟩
theorem ltz (n:Nat):qa5 E0 .lss 3 false true (.int .i64 (n:Int)) (.int .i64 0)=some (.bool false):=by
 rw[binV_ii,intsV_lss,dF (by omega)]
theorem gtz (n:Nat):qa5 E0 .gtr 3 false true (.int .i64 (n:Int)) (.int .i64 0)=some (.bool (decide (0<n))):=by
 rw[binV_ii,intsV_gtr]
 congr 2
 rw[decide_eq_decide];omega
theorem eqF (a b:Nat):qa5 E0 .eql 3 false false (.int .i64 (a:Int)) (.int .i64 (b:Int))=some (.bool (decide (a=b))):=by
 rw[binV_ii,intsV_eql]
 congr 2
 rw[decide_eq_decide];omega
theorem qms (a b c d e f g h:List LE) (h1:qb0 b c=false) (h2:qb0 d e=false) (h3:qb0 f g=false):qaf [[],[],[],[],a,[],[],[],[],[],[],b,[],c,[],[],[],[],[],[],[],[],[],[],d,[],[],[],[],[],e,[],[],[],[],[],[],[],[],[],[],[],f,[],[],[],[],[],g,[],[],[],[],[],[],[],h,[],[],[]] [(11,[13]),(24,[30]),(42,[48])]=true:=by
 show(bif (bif qb0 b c then true else false)then false else(bif (bif qb0 d e then true else false)then false else(bif (bif qb0 f g then true else false)then false else true)))=true;rw[h1,h2,h3];rfl
theorem qlv (a:List LE):qb0 a []=false:=qh4 (by simp)
set_option maxRecDepth 100000 in
theorem ord_step (self:EV) (N:Nat) (nk:Ac->St->Rs) (ek:Nat->Ac->St->Rs) (s:Bs) {v5:V} (v1:V) {toks:List Tok} (ho:S.on=false) (hv:VwT S v5 toks) (hO:Ord s.length toks) (j q:Nat) (hj:j<toks.length) :
 L7_65 self N nk ek (q+1) (sv s) v1 v5 (.int .i64 (j:Int)) S=L7_65 self N nk ek q (sv s) v1 v5 (.int .i64 ((j+1:Nat):Int)) S:=by
 have hsm:=hv.2.1;have htj:toks[j]?=some toks[j]:=List.getElem?_eq_getElem hj;generalize ht:toks[j]=t at htj;have htm:t∈toks:=ht▸List.getElem_mem hj;obtain⟨r,c,u,ru,Q,k1,_,_,w0,_,_,_,w4⟩:=hv.2.2 j t htj;have hlt:=hO.lt t htm;have f0:∀i,faP i false 1 (.ptr r c)=some (.ptr r (c+i)):=fun i=>faPg i 0 _ false r;have a0:=fun L=>qb5 ho w0 L;have a4:=fun L=>qb5 ho w4 L;have hgeq:qa5 E0 .geq 3 false false (.int .i64 (t.at_:Int)) (.int .i64 (s.length:Int))=some (.bool false):=by rw[geqN,dF (by omega)]
 have hl:∀T,qbv (sv s) T=some (.int .i64 (s.length:Int),T):=fun T=>ln_s s T;rcases Nat.eq_zero_or_pos j with h0|h0
 . have hg:qa5 E0 .gtr 3 false true (.int .i64 (j:Int)) (.int .i64 0)=some (.bool false):=by rw[gtz,dF (by omega)]
   rw[L7_65_eq,hv.1,b_s];dsimp only;rw[qiy,dT hj,b_s,i_b,c_t];simp only[k1,b_s,f0,lons',llg',a4,ltz,g_f,g_t,c_t,c_f,p_b,nF,hl,hgeq,hg,qmb];rw[qdd (qms _ _ _ _ _ _ _ _ (qlv _) (qlv _) (qlv _))];rw[qci ho,i_b,c_f,qeh (by omega),b_s]
 . have hg:qa5 E0 .gtr 3 false true (.int .i64 (j:Int)) (.int .i64 0)=some (.bool true):=by rw[gtz,dT h0]
   have hpj:toks[j-1]?=some toks[j-1]:=List.getElem?_eq_getElem (by omega);generalize hp:toks[j-1]=p at hpj;obtain⟨r',c',u',ru',Q',k1',_,_,x0,_,_,_,x4⟩:=hv.2.2 (j-1) p hpj;have f0':∀i,faP i false 1 (.ptr r' c')=some (.ptr r' (c'+i)):=fun i=>faPg i 0 _ false r';have b4:=fun L=>qb5 ho x4 L;have hb:Bef p t:=hO.o (j-1) p t hpj (by rw[show j-1+1=j by omega]; exact htj);have hsub:qa5 E0 .sub 3 false true (.int .i64 (j:Int)) (.int .i64 1)=some (.int .i64 ((j-1:Nat):Int)):=subC 1 (by omega) (by omega)
   have hlss:qa5 E0 .lss 3 false false (.int .i64 (t.at_:Int)) (.int .i64 (p.at_:Int))=some (.bool false):=by
    rw[qiy,dF (by rcases hb with hb|hb<;>omega)]
   rw[L7_65_eq,hv.1,b_s];dsimp only;rw[qiy,dT hj,b_s,i_b,c_t];rcases hb with hb|hb
   . have heq:qa5 E0 .eql 3 false false (.int .i64 (t.at_:Int)) (.int .i64 (p.at_:Int))=some (.bool false):=by rw[eqF,dF (by omega)]
     simp only[k1,k1',b_s,f0,f0',lons',llg',a4,b4,ltz,g_f,g_t,c_t,c_f,p_b,nF,hl,hgeq,hg,hsub,hlss,heq,qmb];rw[qdd (qms _ _ _ _ _ _ _ _ (qlv _) (qan _ _ _ _ _ _ _ (.inl rfl)) (qan _ _ _ _ _ _ _ (.inl rfl)))];rw[qci ho,i_b,c_f,qeh (by omega),b_s]
   . have heq:qa5 E0 .eql 3 false false (.int .i64 (t.at_:Int)) (.int .i64 (p.at_:Int))=some (.bool true):=by rw[eqF,dT (by omega)]
     have hk:qa5 E0 .neq 3 false true (.int .i64 (t.kind:Int)) (.int .i64 3)=some (.bool false):=by
      rw[show(V.int .i64 3)=.int .i64 ((3:Nat):Int)from rfl,i3ne,hb.2];rfl
     simp only[k1,k1',b_s,f0,f0',lons',llg',a0,a4,b4,ltz,g_f,g_t,c_t,c_f,p_b,nF,hl,hgeq,hg,hsub,hlss,heq,hk,qmb];rw[qdd (qms _ _ _ _ _ _ _ _ (qlv _) (qan _ _ _ _ _ _ _ (.inl rfl)) (qan _ _ _ _ _ _ _ (.inl rfl)))];rw[qci ho,i_b,c_f,qeh (by omega),b_s]
theorem ord_loop (self:EV) (N:Nat) (nk:Ac->St->Rs) (ek:Nat->Ac->St->Rs) (s:Bs) {v5:V} (v1:V) {toks:List Tok} (ho:S.on=false) (hv:VwT S v5 toks) (hO:Ord s.length toks) :
 ∀(k j q:Nat),j+k=toks.length->k<q->L7_65 self N nk ek q (sv s) v1 v5 (.int .i64 (j:Int)) S=ek 0 (fr 129 [(0,sv s),(1,v1)]) S
 | k,j,0,_,hq=>absurd hq (Nat.not_lt_zero _)
 | 0,j,q+1,hj,hq=>by
  rw[L7_65_eq,hv.1,b_s];dsimp only;rw[qiy,dF (by omega),b_s,i_b,c_f]
 | k+1,j,q+1,hj,hq=>by
  rw[ord_step self N nk ek s v1 ho hv hO j q (by omega)];exact ord_loop self N nk ek s v1 ho hv hO k (j+1) q (by omega) (by omega)
end
section
variable {S U T:St}
theorem ord_rest (d:Nat) (hd:92000<=d) (s r0:Bs) {X:List Tok} (ho:S.on=false) (hA:qfk s=.ok X) (hs:s.length<=3000) :
 ∃U,R7_23 (ev E0 KP (d+40)) qa3 (qbz E0 (ev E0 KP (d+40)) Tryd.f7) qav (fr 129 [(0,sv s),(1,sv r0)]) S=some (.ret (.bool true),U)/\Grew (fun _=>False) S U:=by
 have hmr:min r0.length 100<=r0.length:=Nat.min_le_left ..;have hrl:(r0.take (min r0.length 100)).length<=100:=by rw[List.length_take]; omega
 generalize hE0:R7_23 (ev E0 KP (d+40)) qa3 (qbz E0 (ev E0 KP (d+40)) Tryd.f7) qav (fr 129 [(0,sv s),(1,sv r0)]) S=R;have hE:=hE0;rw[R7_23_eq,ln_s,b_s]at hE;dsimp only at hE;rw[show(V.int .i64 100)=.int .i64 ((100:Nat):Int)from rfl,minL,b_s]at hE;dsimp only at hE;rw[qbb und9 r0 (qe9 .i64 hmr) hmr,b_s,List.drop_zero,Nat.sub_zero]at hE;dsimp only at hE;generalize r0.take (min r0.length 100)=r1 at *;obtain⟨U1,p1,p2⟩:=rpl_run kbP (S:=S) (d+35) r1 (by omega) 10 [] (by decide) (by decide) ho;have o1:=p2.on.trans ho;have hno:=rpl_no 10 [] (by decide) r1;have hlen:=rpl_len 10 [] r1;rw[List.length_nil,Nat.mul_zero]at hlen;rw[p1,callP_ret]at hE;generalize qlb 10 [] r1=r at *;rw[suf_run refP (d+38) s [92] U1 (by omega),callP_ret,i_b]at hE;by_cases hsf:sufD s [92]=true
 . rw[hsf,c_t]at hE
   exact⟨U1,hE.symm,p2⟩
 rw[show sufD s [92]=false by simpa using hsf,c_f]at hE;obtain⟨T',t1,t2⟩:=remark_law hA (by omega);have t3:=t2 r (by omega) hno;have l1:(s++[10,35,32]++r).length<=4100:=by rw[lAq,lAq]; simp only[List.length_cons,List.length_nil]; omega
 have l2:(s++[10]).length<=4100:=by rw[lAq]; simp only[List.length_cons,List.length_nil]; omega
 rw[cat10 _ _ _ (by omega) _ (by decide),b_s,cat10 _ _ _ (by rw[lAq]; simp only[List.length_cons,List.length_nil]; omega) _ (by omega),b_s]at hE;obtain⟨U2,va,ea,ra,q1,q2,q3⟩:=lex_anyK refP d (s++[10,35,32]++r) o1 l1 hd;have o2:=q2.on.trans o1;rw[q1,callP_ret,ex0,b_s,ex1,b_s,cat10 _ _ _ (by omega) _ (by decide),b_s]at hE;obtain⟨U3,vb,eb,rb,w1,w2,w3⟩:=lex_anyK refP d (s++[10]) o2 l2 hd;have o3:=w2.on.trans o2;rw[w1,callP_ret,ex0,b_s,ex1,b_s]at hE;rcases q3 with⟨Ta,hTa,rfl,ha,hta⟩|⟨f,x,hTa,rfl,rfl,rfl⟩
 . rw[t3]at hTa
   cases hTa;rcases w3 with⟨Tb,hTb,rfl,hb,htb⟩|⟨f,x,hTb,rfl,rfl,rfl⟩
   . rw[t1]at hTb
     cases hTb;have lT:=lexA_len t1;have hva:VwT U3 va T':=vw_of o3 (ha.grew (fun _ _ h=>h) w2) (hta.grew w2 (fun _ _ h=>h)) (by omega);have hvb:VwT U3 vb T':=vw_of o3 hb htb (by omega);have hsame:=view_run refP lgP (d+16) 22 o3 hva hvb (lexA_dep t1);refine⟨U3,?_,p2.trans (q2.trans w2)⟩;rw[<- hE,eql24n,b_s];simp only[g_t,b_s,c_t,p_b,eql24n];rw[hsame,callP_ret]
   . rw[t1]at hTb
     cases hTb
 . rw[t3]at hTa
   cases hTa
theorem order_run (d:Nat) (hd:92000<=d) (s0 r0:Bs) (ho:S.on=false) (hH:Hd S):∃U,(ev E0 KP (d+41)).f 7 [sv s0,sv r0] S=some (.ret (.bool true),U)/\Grew (fun _=>False) S U:=by
 have hms:min s0.length 3000<=s0.length:=Nat.min_le_left ..;have hsl:(s0.take (min s0.length 3000)).length<=3000:=by rw[List.length_take]; omega
 obtain⟨U0,w1,w2⟩:=works_run knP (S:=S) (d+17) (by omega) ho hH;have o0:=w2.on.trans ho;generalize hE0:F7 (ev E0 KP (d+40)) qa3 (sv s0) (sv r0) S=R;have hE:=hE0;rw[F7_eq,w1,callP_ret,u_not,b_s,i_b,Bool.not_true,c_f,ln_s,b_s]at hE;dsimp only at hE;rw[show(V.int .i64 3000)=.int .i64 ((3000:Nat):Int)from rfl,minL,b_s]at hE;dsimp only at hE;rw[qbb und9 s0 (qe9 .i64 hms) hms,b_s,List.drop_zero,Nat.sub_zero]at hE;dsimp only at hE;generalize s0.take (min s0.length 3000)=s at *
 suffices hq:∃U,R=some (.ret (.bool true),U)/\Grew (fun _=>False) S U by
  obtain⟨U,h1,h2⟩:=hq;exact⟨U,rv7 rfl (hE0.trans h1),h2⟩
 obtain⟨U1,v,e,rx,r1,r2,r3⟩:=lex_anyK refP d s o0 (by omega) hd;have o1:=r2.on.trans o0;have g1:=w2.trans r2;rw[r1,callP_ret,ex0,b_s,ex1,b_s]at hE;rcases r3 with⟨X,hA,rfl,hx,hxt⟩|⟨f,x,hA,rfl,rfl,rfl⟩
 . have lX:=lexA_len hA
   have hvw:=vw_of o1 hx hxt (by omega);rw[nd_neq,b_s,i_b,c_f,show(V.int .i64 0)=.int .i64 ((0:Nat):Int)from rfl,ord_loop _ qa3 _ _ s (sv r0) o1 hvw (order_law hA) X.length 0 qa3 (by omega) (by unfold qa3; omega),exB_same]at hE;obtain⟨U2,k1,k2⟩:=ord_rest d hd s r0 o1 hA (by omega);exact⟨U2,hE.symm.trans k1,g1.trans k2⟩
 . rw[nx_neq,b_s,i_b,c_t,show lnS .nilslice U1=some (.int .i64 0,U1)from rfl,b_s]at hE
   dsimp only at hE;rw[show qa5 E0 .eql 3 false true (.int .i64 0) (.int .i64 0)=some (.bool true)from rfl,b_s]at hE;exact⟨U1,hE.symm,g1⟩
end
end Go.Proofs.YtafbipadnnmccaaDoor.W
end
