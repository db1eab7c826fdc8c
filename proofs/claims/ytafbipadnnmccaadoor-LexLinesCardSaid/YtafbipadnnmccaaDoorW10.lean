/-
  WHAT THE FUNCTIONS COME TO: each is read by the evaluator,printed,and told as a function of data,part 10 of 12 (no condition).
-/
import Derived.Test.YtafbipadnnmccaaDoorW9
namespace Go.Proofs.YtafbipadnnmccaaDoor.W
open Go.Proofs.YtafbipadnnmccaaDoor.Ev Go.RowKit
def shwT (t:Tok):Bs:=if t.kind=0 then [91]++psL t.parts++[93]else if t.kind=2 then [47]else if t.kind=3 then [123]++t.text++(if t.quoted then []else [58]++psL t.parts)++[125]else [32]++t.text++[32]
def shwL:List Tok->Bs
 | []=>[]
 | t::l=>shwT t++shwL l
def shwD:Except Flt (List Tok)->Bs
 | .error _=>[63]
 | .ok l=>shwL l
def depT (l:List Tok):Bool:=l.all fun t=>Nat.ble (qcx t.parts) 30
theorem rowT0 (t:Tok) (v:V):(qe6 t v).get 0=some (.int .i64 (t.kind:Int)):=by unfold qe6; rw[Tr.get_ofList]; rfl
theorem rowT1 (t:Tok) (v:V):(qe6 t v).get 1=some (sv t.text):=by unfold qe6; rw[Tr.get_ofList]; rfl
theorem rowT2 (t:Tok) (v:V):(qe6 t v).get 2=some v:=by unfold qe6; rw[Tr.get_ofList]; rfl
theorem rowT3 (t:Tok) (v:V):(qe6 t v).get 3=some (.bool t.quoted):=by unfold qe6; rw[Tr.get_ofList]; rfl
theorem rowT4 (t:Tok) (v:V):(qe6 t v).get 4=some (.int .i64 (t.at_:Int)):=by unfold qe6; rw[Tr.get_ofList]; rfl
theorem eqKd (k c:Nat):qa5 E0 .eql 3 false true (.int .i64 (k:Int)) (.int .i64 (c:Int))=some (.bool (decide (k=c))):=by
 rw[binV_ii,intsV_eql]
 congr 2
 rw[Bool.eq_iff_iff];simp;omega
theorem u_not (b:Bool):unV .not (.bool b)=some (.bool (!b)):=Eq.trans rfl rfl
theorem nd_neq:qa5 E0 .neq 24 false true .niliface .niliface=some (.bool false):=by kernel_rfl
theorem nx_neq (x:Nat):qa5 E0 .neq 24 false true (.iface 51 (.ptr x 0)) .niliface=some (.bool true):=by kernel_rfl
theorem ln_nil (S:St):lnS .nilslice S=some (.int .i64 ((0:Nat):Int),S):=Eq.trans rfl rfl
theorem build_29 (c n:Nat):qaa E0 29 [(0,.int .i64 (c:Int)),(1,.int .i64 (n:Int))]=some (.agg 2 (qjx c n)):=by kernel_rfl
section
variable {K:FuncId->Option KF} {S U T:St}
theorem qd9 (g:Grew (fun x=>S.next<=x) S U):Grew (fun _=>False) S U:=⟨g.next,g.on,fun x hx _=>g.keep x hx (by omega)⟩
theorem shw_loop (hK:RefL K) (d:Nat) (N:Nat) (nk:Ac->St->Rs) (ek:Nat->Ac->St->Rs) {v:V} {rows:List (Tr V)} {Q:Nat->Prop} {toks:List Tok} :
 ∀(l:List Tok) (j q:Nat) (o:Bs) (S:St),S.on=false->RV S v 39 5 rows->TksAt S Q toks rows->(∀x,Q x->x<S.next)->toks.drop j=l->depT l=true->l.length<q->(o++shwL l).length<1000000000->
 ∃U,qg1 (ev E0 K (d+31)) N nk ek q v (sv o) (.int .i64 (j:Int)) S=ek 0 (fr 78 [(5,sv (o++shwL l))]) U/\Grew (fun _=>False) S U
 | l,j,0,o,S,_,_,_,_,_,_,hq,_=>by omega
 | [],j,q+1,o,S,ho,hv,ht,hQ,hr,hdp,hq,hl=>by
  have:=qdu hr;have h1:=ht.1;refine⟨S,?_,Grew.refl _ _⟩;rw[L14_16_eq,hv.len,b_s];dsimp only;rw[qkg,dF (by omega),b_s,i_b,c_f,shwL,List.append_nil]
 | t::l,j,q+1,o,S,ho,hv,ht,hQ,hr,hdp,hq,hl=>by
  obtain⟨hlt,e1,e2,_⟩:=qey hr;have h1:=ht.1;have hjl:j<rows.length:=by omega
  obtain⟨r,hr1,hr2,hr3,hr4⟩:=hv.at hjl;obtain⟨c,hg,v',rows',rfl,hv',hp',hb⟩:=ht.2 j t (by rw[List.getElem?_eq_getElem hlt,e1]);have f0:=qc1 ho hr3 hg (by decide) (rowT0 t v');have f1:=qc1 ho hr3 hg (by decide) (rowT1 t v');have f2:=qc1 ho hr3 hg (by decide) (rowT2 t v');have f3:=qc1 ho hr3 hg (by decide) (rowT3 t v');have fx:∀i,faP i false 1 (.ptr r (j*5))=some (.ptr r (j*5+i)):=fun i=>faPg i 0 _ false r
  have hj:j<9223372036854770000:=by
   have:=hr3.fit;unfold big at this;omega
  rw[depT,List.all_cons,Bool.and_eq_true_iff]at hdp;rw[shwL]at hl;simp only[lAq]at hl;have hE:qg1 (ev E0 K (d+31)) N nk ek (q+1) v (sv o) (.int .i64 (j:Int)) S=_:=L14_16_eq ..;rw[hv.len,b_s]at hE;dsimp only at hE;rw[qkg,dT hjl,b_s,i_b,c_t,hr2,b_s,fx,b_s,f0,b_s]at hE;dsimp only at hE;rw[show(V.int .i64 0)=.int .i64 ((0:Nat):Int)from rfl,eqKd,b_s,i_b]at hE
  have fin:∀(tx:Bs) (U:St),Grew (fun _=>False) S U->tx=o++shwT t->qg1 (ev E0 K (d+31)) N nk ek (q+1) v (sv o) (.int .i64 (j:Int)) S=qg1 (ev E0 K (d+31)) N nk ek q v (sv tx) (.int .i64 ((j+1:Nat):Int)) U->
   ∃U,qg1 (ev E0 K (d+31)) N nk ek (q+1) v (sv o) (.int .i64 (j:Int)) S=ek 0 (fr 78 [(5,sv (o++shwL (t::l)))]) U/\Grew (fun _=>False) S U:=fun tx U g htx he=>by
   subst htx;obtain⟨T,t1,t2⟩:=shw_loop hK d N nk ek l (j+1) q (o++shwT t) U (g.on.trans ho) (hv.grew (fun _ _ h=>h) g) (ht.grew g fun _ _ h=>h) (fun x hx=>Nat.lt_of_lt_of_le (hQ x hx) g.next) e2 hdp.2 (by simp only[List.length_cons]at hq; omega) (by simp only[lAq]; omega);refine⟨T,?_,g.trans t2⟩;rw[he,t1,shwL,List.append_assoc]
  have psh:(psL t.parts).length<1000000000->∃U,(ev E0 K (d+31)).f 36 [v'] S=some (.ret (sv (psL t.parts)),U)/\Grew (fun _=>False) S U:=fun hl=>psh_run hK d 30 t.parts (Nat.le_of_ble_eq_true hdp.1) S v' rows' Q ho hv' hp' hQ hl;unfold shwT at hl fin;by_cases k0:t.kind=0
  . rw[iP k0]at hl fin
    simp only[lAq,List.length_singleton]at hl;obtain⟨U,u1,u2⟩:=psh (by omega);rw[dT k0,c_t,qbg _ _ (by simp; omega),b_s,b_s,fx,b_s,f2,b_s]at hE;dsimp only at hE;rw[u1,callP_ret,qbg _ _ (by simp; omega),b_s,qbg _ _ (by simp; omega),b_s,qei (by omega),b_s]at hE;exact fin _ U u2 (by simp) hE
  . rw[iN k0]at hl fin
    rw[dF k0,c_f,show(V.int .i64 2)=.int .i64 ((2:Nat):Int)from rfl,eqKd,b_s,i_b]at hE;by_cases k2:t.kind=2
    . rw[iP k2]at hl fin
      simp only[List.length_singleton]at hl;rw[dT k2,c_t,qbg _ _ (by simp; omega),b_s,qei (by omega),b_s]at hE;exact fin _ S (Grew.refl _ _) rfl hE
    . rw[iN k2]at hl fin
      rw[dF k2,c_f,show(V.int .i64 3)=.int .i64 ((3:Nat):Int)from rfl,eqKd,b_s,i_b]at hE;by_cases k3:t.kind=3
      . rw[iP k3]at hl fin
        simp only[lAq,List.length_singleton]at hl;rw[dT k3,c_t,qbg _ _ (by simp; omega),b_s,b_s,fx,b_s,f1,b_s]at hE;dsimp only at hE;rw[qbg _ _ (by simp; omega),b_s,b_s,fx,b_s,f3,b_s]at hE;dsimp only at hE;rw[u_not,b_s,i_b]at hE;cases hq':t.quoted with
        | true=>
         rw[hq']at hE fin;rw[Bool.not_true,c_f,qbg _ _ (by simp; omega),b_s,qei (by omega),b_s]at hE;exact fin _ S (Grew.refl _ _) (by simp) hE
        | false=>
         rw[hq']at hE fin hl;simp only[Bool.false_eq_true,if_false,lAq,List.length_singleton]at hl;obtain⟨U,u1,u2⟩:=psh (by omega);rw[nF,c_t,qbg _ _ (by simp; omega),b_s,b_s,fx,b_s,f2,b_s]at hE;dsimp only at hE;rw[u1,callP_ret,qbg _ _ (by simp; omega),b_s,qbg _ _ (by simp; omega),b_s,qei (by omega),b_s]at hE;exact fin _ U u2 (by simp) hE
      . rw[iN k3]at hl fin
        simp only[lAq,List.length_singleton]at hl;rw[dF k3,c_f,qbg _ _ (by simp; omega),b_s,b_s,fx,b_s,f1,b_s]at hE;dsimp only at hE;rw[qbg _ _ (by simp; omega),b_s,qbg _ _ (by simp; omega),b_s,qei (by omega),b_s]at hE;exact fin _ S (Grew.refl _ _) (by simp) hE
def depA:Except Flt (List Tok)->Bool
 | .error _=>true
 | .ok l=>depT l
theorem toks_small {v:V} {rows:List (Tr V)} {Q:Nat->Prop} {toks:List Tok} (hv:RV S v 39 5 rows) (ht:TksAt S Q toks rows):toks.length<qa3:=by
 have h1:=ht.1;rcases hv with⟨h,_⟩|⟨r,h2,_,_,_⟩
 . rw[h]at h1
   simp at h1;unfold qa3;omega
 . have:=h2.fit
   unfold big at this;unfold qa3;omega
theorem shown_run (hK:RefL K) (d:Nat) (s:Bs) (ho:S.on=false) (hs:s.length<=5000) (hd:18*s.length+600<=d) (hdp:depA (qfb s)=true) (hl:(shwD (qfb s)).length<1000000000):∃U,(ev E0 K (d+22)).f 14 [sv s] S=some (.ret (sv (shwD (qfb s))),U)/\Grew (fun _=>False) S U:=by
 have hq:=lex_run hK d s ho hs hd;have hE:F14 (ev E0 K (d+21)) qa3 (sv s) S=_:=F14_eq ..;cases hA:qfb s with
 | error e=>
  rw[hA]at hq;obtain⟨U,x,h1,h2,h3,h4,h5⟩:=hq;refine⟨U,rv14 hK ?_,(qd9 h5)⟩;show F14 (ev E0 K (d+21)) qa3 (sv s) S=_;rw[hE,h1,callP_ret,ex0,b_s,ex1,b_s,nx_neq,b_s,i_b,c_t];rfl
 | ok toks=>
  rw[hA]at hq hdp hl;obtain⟨U,v,rT,h1,h2,h3,h4,h5⟩:=hq;obtain⟨d',rfl⟩:∃d',d=d'+10:=⟨d-10,by omega⟩
  obtain⟨T,t1,t2⟩:=shw_loop hK d' qa3 (R14_12 (ev E0 K (d'+31)) qa3 (qcn E0 (ev E0 K (d'+31)) Tryd.f14) qb0) (exB 0 (R14_12 (ev E0 K (d'+31)) qa3 (qcn E0 (ev E0 K (d'+31)) Tryd.f14) qb0) qb0) toks 0 qa3 [] U (h5.on.trans ho) h2 h3 (fun x hx=>hx.2) rfl hdp (toks_small h2 h3) (by rw[List.nil_append]; exact hl);refine⟨T,rv14 hK ?_,(qd9 h5).trans t2⟩;show F14 (ev E0 K (d'+31)) qa3 (sv s) S=_;rw[hE,h1,callP_ret,ex0,b_s,ex1,b_s,nd_neq,b_s,i_b,c_f];rw[show(V.int .i64 0)=.int .i64 ((0:Nat):Int)from rfl,t1,exB_same,R14_12_eq,List.nil_append];rfl
theorem qj3 (hX:KnX K) (d:Nat) (s:Bs) {c n:Nat} (ho:S.on=false) (hH:Hd S) (hs:s.length<=5000) (hd:18*s.length+600<=d) (hA:qfb s=.error (c,n)) (hc:c≠0):∃U,(ev E0 K (d+22)).f 15 [sv s,.int .i64 (c:Int),.int .i64 (n:Int)] S=some (.ret (.bool true),U)/\Grew (fun _=>False) S U:=by
 have hq:=lex_run hX.r d s ho hs hd;rw[hA]at hq;obtain⟨U,x,h1,h2,h3,h4,h5⟩:=hq;have h6:=(qd9 h5)
 have hE:F15 (ev E0 K (d+21)) qa3 (sv s) (.int .i64 (c:Int)) (.int .i64 (n:Int)) S=_:=F15_eq ..;obtain⟨T,t1,t2⟩:=told_yes hX (d+19) (h5.on.trans ho) (hH.grew (fun h=>h) h6) h2 h4 hc;refine⟨T,rv15 hX.r ?_,h6.trans t2⟩;show F15 (ev E0 K (d+21)) qa3 (sv s) (.int .i64 (c:Int)) (.int .i64 (n:Int)) S=_;rw[hE,h1,callP_ret,ex0,b_s,ex1,b_s,ln_nil,b_s];dsimp only;rw[show(V.int .i64 0)=.int .i64 ((0:Nat):Int)from rfl,eqKd,dT rfl,b_s];simp only[g_t,b_s,c_t,build_29,t1,callP_ret,p_b]
end
theorem i3eq (w k:Nat):qa5 E0 .eql 3 false true (.int .i64 (w:Int)) (.int .i64 (k:Int))=some (.bool (decide (w=k))):=by
 rw[binV_ii,intsV_eql]
 congr 2
 simp;omega
section
variable {K:FuncId->Option KF} {S:St}
end
section
variable {K:FuncId->Option KF} {S T U:St}
theorem i3ne (w k:Nat):qa5 E0 .neq 3 false true (.int .i64 (w:Int)) (.int .i64 (k:Int))=some (.bool (w != k)):=by
 rw[binV_ii,intsV_neq]
 congr 2
 rw[Bool.eq_iff_iff];simp;omega
theorem minL (a b:Nat) (S:St):qjc minV (.int .i64 (a:Int)) [.int .i64 (b:Int)] S=some (.int .i64 ((min a b:Nat):Int),S):=by
 rw[foldK_min]
 congr 3
 omega
end
theorem subF {a b:Nat} (h:b<=a) (ha:a<9223372036854775808):qa5 E0 .sub 3 false false (.int .i64 (a:Int)) (.int .i64 (b:Int))=some (.int .i64 ((a-b:Nat):Int)):=by
 rw[binV_ii,intsV_sub,qg0 (by omega) (by omega),Int.natCast_sub h]
theorem fa4 (b:Nat):faP 4 false 1 (.ptr b 0)=some (.ptr b 4):=Eq.trans rfl rfl
section
variable {K:FuncId->Option KF} {S U T:St} {i k N P:Nat} {s:Bs} {X Y:Tr V} {n:Nat}
end
end Go.Proofs.YtafbipadnnmccaaDoor.W






namespace Go.Proofs.YtafbipadnnmccaaDoor.W
open Go.Proofs.YtafbipadnnmccaaDoor.Ev
theorem qfq (p u:Bs) (i:Nat):(p++u).drop (p.length+i)=u.drop i:=by
 rw[List.drop_append,List.drop_eq_nil_of_le (by omega),List.nil_append]
 congr 1
 omega
theorem qhi (p u:Bs) (i:Nat):byt (p++u) (p.length+i)=byt u i:=by
 unfold byt;rw[List.getD_eq_getElem?_getD,List.getD_eq_getElem?_getD,List.getElem?_append_right (by omega),show p.length+i-p.length=i by omega]
theorem qd5 (p u:Bs) (i:Nat) (t:Bs):atD (p++u) (p.length+i) t=atD u i t:=by
 unfold atD;rw[qfq]
theorem idxD_sh (p u:Bs) (i:Nat) (c:UInt8):qf0 (p++u) (p.length+i) c=(qf0 u i c).map (p.length+·):=by
 unfold qf0;rw[qfq,Option.map_map]
 congr 1
 funext x
 show x+(p.length+i)=p.length+(x+i)
 omega
theorem lt_sh (p u:Bs) (i:Nat) (h:i<u.length):p.length+i<(p++u).length:=by rw[lAq]; omega
theorem qkn (n:Nat) (s:Bs) (i d:Nat) (h:s.length<=i):qhf n s i d=none:=by
 cases n with
 | zero=>unfold qhf; rfl
 | succ n=>unfold qhf; rw[iN (by omega)]
theorem ql0 (n:Nat) (s:Bs) (i:Nat) (h:s.length<=i):qkj n s i=none:=by
 cases n with
 | zero=>unfold qkj; rfl
 | succ n=>unfold qkj; rw[iN (by omega)]
theorem sh_clo (p u:Bs):∀n,(∀n' i d,u.length+1<=n+i->u.length+1<=n'+i->qhf n' (p++u) (p.length+i) d=(qhf n u i d).map (p.length+·))/\(∀n' i,u.length+1<=n+i->u.length+1<=n'+i->qkj n' (p++u) (p.length+i)=(qkj n u i).map (p.length+·))
 | 0=>⟨fun n' i d h _=>by rw[qkn n' _ _ _ (by rw[lAq]; omega),qkn 0 u i d (by omega)]; rfl,fun n' i h _=>by rw[ql0 n' _ _ (by rw[lAq]; omega),ql0 0 u i (by omega)]; rfl⟩
 | n+1=>by
  obtain⟨hC,hQ⟩:=sh_clo p u n;refine⟨fun n' i d h h'=>?_,fun n' i h h'=>?_⟩
  . by_cases hlt:i<u.length
    . obtain⟨k,rfl⟩:∃k,n'=k+1:=⟨n'-1,by omega⟩
      unfold qhf;rw[iP (lt_sh p u i hlt),iP hlt,qhi];by_cases h92:byt u i=92
      . rw[iP h92,iP h92]
        exact hC k (i+2) d (by omega) (by omega)
      rw[iN h92,iN h92];by_cases h39:byt u i=39
      . rw[iP h39,iP h39,show p.length+i+1=p.length+(i+1)from rfl,idxD_sh]
        cases hx:qf0 u (i+1) 39 with
        | none=>rfl
        | some j=>
         have:=qdo hx;exact hC k (j+1) d (by omega) (by omega)
      rw[iN h39,iN h39];by_cases h34:byt u i=34
      . rw[iP h34,iP h34,show p.length+i+1=p.length+(i+1)from rfl,hQ k (i+1) (by omega) (by omega)]
        cases hx:qkj n u (i+1)with
        | none=>rfl
        | some j=>
         have:=(clo_le n).2 _ _ _ hx;exact hC k j d (by omega) (by omega)
      rw[iN h34,iN h34];by_cases h40:byt u i=40
      . rw[iP h40,iP h40]
        exact hC k (i+1) (d+1) (by omega) (by omega)
      rw[iN h40,iN h40];by_cases h41:byt u i=41
      . rw[iP h41,iP h41]
        by_cases h1:d=1
        . rw[iP h1,iP h1]; rfl
        . rw[iN h1,iN h1]
          exact hC k (i+1) (d-1) (by omega) (by omega)
      . rw[iN h41,iN h41]
        exact hC k (i+1) d (by omega) (by omega)
    . rw[qkn n' _ _ _ (by rw[lAq]; omega),qkn (n+1) u i d (by omega)]; rfl
  . by_cases hlt:i<u.length
    . obtain⟨k,rfl⟩:∃k,n'=k+1:=⟨n'-1,by omega⟩
      unfold qkj;rw[iP (lt_sh p u i hlt),iP hlt,qhi,qd5];by_cases h92:byt u i=92
      . rw[iP h92,iP h92]
        exact hQ k (i+2) (by omega) (by omega)
      rw[iN h92,iN h92];by_cases h34:byt u i=34
      . rw[iP h34,iP h34]; rfl
      rw[iN h34,iN h34];by_cases h36:atD u i [36,40]=true
      . rw[iP h36,iP h36,show p.length+i+2=p.length+(i+2)from rfl,hC k (i+2) 1 (by omega) (by omega)]
        cases hx:qhf n u (i+2) 1 with
        | none=>rfl
        | some j=>
         have:=(clo_le n).1 _ _ _ _ hx;exact hQ k j (by omega) (by omega)
      . rw[iN h36,iN h36]
        exact hQ k (i+1) (by omega) (by omega)
    . rw[ql0 n' _ _ (by rw[lAq]; omega),ql0 (n+1) u i (by omega)]; rfl
def shR (m:Nat):Except Flt (List Part×Nat)->Except Flt (List Part×Nat)
 | .ok q=>.ok (q.1,m+q.2)
 | .error e=>.error (e.1,m+e.2)
def shD (m:Nat):Except Flt (Option (Part×Nat))->Except Flt (Option (Part×Nat))
 | .ok none=>.ok none
 | .ok (some q)=>.ok (some (q.1,m+q.2))
 | .error e=>.error (e.1,m+e.2)
end Go.Proofs.YtafbipadnnmccaaDoor.W





namespace Go.Proofs.YtafbipadnnmccaaDoor.W
open Go.Proofs.YtafbipadnnmccaaDoor.Ev Go.RowKit
theorem wA0:shwD (qfb [101,99,104,111,32,97,39,98,32,99,39,34,100,36,120,34,32,50,62,102])=[91,101,99,104,111,93,91,97,46,113,98,32,99,46,113,81,100,46,36,81,120,93,32,50,62,32,91,102,93]:=by kernel_rfl
theorem wB0:depA (qfb [101,99,104,111,32,97,39,98,32,99,39,34,100,36,120,34,32,50,62,102])=true:=by kernel_rfl
theorem wA1:shwD (qfb [97,59,98,38,38,99,32,35,32,120,10])=[91,97,93,32,59,32,91,98,93,32,38,38,32,91,99,93,47]:=by kernel_rfl
theorem wB1:depA (qfb [97,59,98,38,38,99,32,35,32,120,10])=true:=by kernel_rfl
theorem wA2:shwD (qfb [36,123,120,58,45,97,32,98,125,34,36,123,35,121,125,34,32,36,40,102,32,39,41,39,32,41])=[91,36,120,58,45,60,97,32,98,62,46,36,81,121,108,101,110,93,91,40,102,32,39,41,39,32,93]:=by kernel_rfl
theorem wB2:depA (qfb [36,123,120,58,45,97,32,98,125,34,36,123,35,121,125,34,32,36,40,102,32,39,41,39,32,41])=true:=by kernel_rfl
theorem wA3:shwD (qfb [99,97,116,32,60,60,69,59,120,10,104,105,32,36,121,10,69,10])=[91,99,97,116,93,32,60,60,32,91,69,93,123,104,105,32,36,121,10,58,113,81,104,105,32,46,36,81,121,46,113,81,10,125,32,59,32,91,120,93,47]:=by kernel_rfl
theorem wB3:depA (qfb [99,97,116,32,60,60,69,59,120,10,104,105,32,36,121,10,69,10])=true:=by kernel_rfl
theorem wC0:qfb [39,97]=.error (19,0):=by kernel_rfl
theorem wC1:qfb [97,32,38]=.error (19,2):=by kernel_rfl
theorem wC2:qfb [34,36,123,120,34]=.error (19,1):=by kernel_rfl
theorem wC3:qfb [96]=.error (19,0):=by kernel_rfl
theorem eqS_t (c d:Bool) (a:Bs):qa5 E0 .eql 9 c d (sv a) (sv a)=some (.bool true):=by
 rw[eqStr];simp
section
variable {K:FuncId->Option KF} {S U T:St}
theorem qj1 (hK:RefL K) (d:Nat) {s t:Bs} (h1:shwD (qfb s)=t) (h2:depA (qfb s)=true) (ho:S.on=false) (hs:s.length<=5000) (hd:18*s.length+600<=d) (ht:t.length<1000000000):∃U,(ev E0 K (d+22)).f 14 [sv s] S=some (.ret (sv t),U)/\Grew (fun _=>False) S U:=by
 subst h1;exact shown_run hK d s ho hs hd h2 ht
theorem works_run (hX:KnX K) (d:Nat) (hd:1200<=d) (ho:S.on=false) (hH:Hd S):∃U,(ev E0 K (d+23)).f 12 [] S=some (.ret (.bool true),U)/\Grew (fun _=>False) S U:=by
 obtain⟨S0,a0,g0⟩:=qj1 (S:=S) hX.r d wA0 wB0 ho (by simp) (by simp; omega) (by simp);have o0:=g0.on.trans ho;obtain⟨S1,a1,g1⟩:=qj1 (S:=S0) hX.r d wA1 wB1 o0 (by simp) (by simp; omega) (by simp);have o1:=g1.on.trans o0;obtain⟨S2,a2,g2⟩:=qj1 (S:=S1) hX.r d wA2 wB2 o1 (by simp) (by simp; omega) (by simp);have o2:=g2.on.trans o1;obtain⟨S3,a3,g3⟩:=qj1 (S:=S2) hX.r d wA3 wB3 o2 (by simp) (by simp; omega) (by simp);have o3:=g3.on.trans o2;have hH3:=(((hH.grew (fun h=>h) g0).grew (fun h=>h) g1).grew (fun h=>h) g2).grew (fun h=>h) g3;obtain⟨S4,a4,g4⟩:=qj3 hX (S:=S3) d [39,97] o3 hH3 (by simp) (by simp; omega) wC0 (by decide);have o4:=g4.on.trans o3;have hH4:=hH3.grew (fun h=>h) g4;obtain⟨S5,a5,g5⟩:=qj3 hX (S:=S4) d [97,32,38] o4 hH4 (by simp) (by simp; omega) wC1 (by decide);have o5:=g5.on.trans o4;have hH5:=hH4.grew (fun h=>h) g5;obtain⟨S6,a6,g6⟩:=qj3 hX (S:=S5) d [34,36,123,120,34] o5 hH5 (by simp) (by simp; omega) wC2 (by decide);have o6:=g6.on.trans o5;have hH6:=hH5.grew (fun h=>h) g6;obtain⟨S7,a7,g7⟩:=qj3 hX (S:=S6) d [96] o6 hH6 (by simp) (by simp; omega) wC3 (by decide);have o7:=g7.on.trans o6;have hH7:=hH6.grew (fun h=>h) g7;refine⟨S7,rv12 hX.r ?_,((((((g0.trans g1).trans g2).trans g3).trans g4).trans g5).trans g6).trans g7⟩;show F12 (ev E0 K (d+22)) qa3 S=_;rw[F12_eq,a0,callP_ret,eqS_t,b_s];simp only[g_t,b_s,c_t,p_b,callP_ret,eqS_t,a1,a2,a3]
 rw[show(V.int .i64 19)=.int .i64 ((19:Nat):Int)from rfl];rw[show(V.int .i64 0)=.int .i64 ((0:Nat):Int)from rfl,a4,callP_ret];simp only[g_t,b_s,c_t,p_b,callP_ret];rw[show(V.int .i64 2)=.int .i64 ((2:Nat):Int)from rfl,a5,callP_ret];simp only[g_t,b_s,c_t,p_b,callP_ret];rw[show(V.int .i64 1)=.int .i64 ((1:Nat):Int)from rfl,a6,callP_ret];simp only[g_t,b_s,c_t,p_b,callP_ret];rw[a7,callP_ret]
end
theorem knAs_lg (tE tP rT tErr gB bT:Nat) (args:List V):Lg.LocP fun s=>(knAs tE tP rT tErr gB bT).run args s:=by
 unfold knAs;dsimp only;split
 . exact Lg.LocP.ret _
 . refine Lg.Loc.cond ?_ Lg.Loc.none
   unfold asHit;refine Lg.Loc.bind (Lg.loc_ld _ _) fun q=>?_;dsimp only;exact Lg.Loc.cond (Lg.Loc.bindS (Lg.loc_stK _ _ _ _) (Lg.LocP.ret _)) Lg.Loc.none
 . exact Lg.Loc.none
theorem kfIs_lg (args:List V):Lg.LocP fun s=>kfIs.run args s:=by
 unfold kfIs;dsimp only;split
 . refine Lg.Loc.cond ?_ Lg.Loc.none
   refine Lg.Loc.bind (Lg.loc_ld _ _) fun q=>?_;dsimp only;exact Lg.Loc.cond (Lg.LocP.ret _) Lg.Loc.none
 . exact Lg.Loc.none
theorem lgX:Lg.KnLoc KX:=((Lg.knLoc_nil).add 32 fun _=>knAs_lg _ _ _ _ _ _ _).add 33 fun _=>kfIs_lg _
theorem lg_log (S:St) (l:List LE):(S.lg l).log=l:=Eq.trans rfl rfl
theorem lons' (S:St):onS S=S.lg []:=Eq.trans rfl rfl
theorem llg' (S:St) (l m:List LE):(S.lg l).lg m=S.lg m:=Eq.trans rfl rfl
theorem ne3s (n:Nat):qa5 E0 .neq 3 false false (.int .i64 (n:Int)) (.int .i64 (n:Int))=some (.bool false):=by
 rw[binV_ii,intsV_neq]
 congr 2
 simp
theorem ne9s (t:Bs):qa5 E0 .neq 9 false false (sv t) (sv t)=some (.bool false):=by
 rw[neStr];simp
theorem ne4s (b:Bool):qa5 E0 .neq 4 false false (.bool b) (.bool b)=some (.bool false):=by
 cases b<;>kernel_rfl
theorem pairs_same (a b c d e f g h i j k:List LE) (h1:qb7 a b=false) (h2:qb7 c d=false) (h3:qb7 e f=false) (h4:qb7 g h=false) (h5:qb7 i j=false):qag [[],[],[],[],a,[],[],[],[],b,[],[],[],[],[],[],c,[],[],[],[],d,[],[],[],[],[],[],[],e,[],[],[],[],f,[],[],[],[],[],[],[],g,[],[],[],[],h,[],[],[],[],[],[],[],i,[],[],[],[],j,k,[],[]] [(4,[9]),(16,[21]),(29,[34]),(42,[47]),(55,[60])]=true:=by
 show(bif (bif qb7 a b then true else false)then false else(bif (bif qb7 c d then true else false)then false else(bif (bif qb7 e f then true else false)then false else(bif (bif qb7 g h then true else false)then false else(bif (bif qb7 i j then true else false)then false else true)))))=true;rw[h1,h2,h3,h4,h5];rfl
section
variable {K:FuncId->Option KF} {S U T:St}
def SamOk (K:FuncId->Option KF) (d:Nat) (l:List Part):Prop:=∀(S:St) (v v':V) (rows rows':List (Tr V)) (Q Q':Nat->Prop),S.on=false->RV S v 49 6 rows->PrAt S Q l rows->RV S v' 49 6 rows'->PrAt S Q' l rows'->(ev E0 K d).f 34 [v,v'] S=some (.ret (.bool true),S)
set_option maxRecDepth 100000 in
theorem sam_loop (hL:Lg.KnLoc K) (d n:Nat) (ih:∀w,qcx w<n->SamOk K d w) (N:Nat) (nk:Ac->St->Rs) (ek:Nat->Ac->St->Rs) {v v':V} {rows rows':List (Tr V)} {Q Q':Nat->Prop} (ho:S.on=false) (hv:RV S v 49 6 rows) (hv':RV S v' 49 6 rows') :
 ∀(l:List Part) (j q:Nat) (rest rest':List (Tr V)),rows.drop j=rest->PrAt S Q l rest->rows'.drop j=rest'->PrAt S Q' l rest'->qcx l<=n->l.length<q->
 L34_10 (ev E0 K d) N nk ek q v v' (.int .i64 (j:Int)) S=ek 0 (fr 81 []) S
 | l,j,0,rest,rest',_,_,_,_,_,hq=>absurd hq (Nat.not_lt_zero _)
 | [],j,q+1,rest,rest',hr,hp,hr',hp',hn,hq=>by
  simp only[PrAt]at hp;rw[hp]at hr;have:=qdu hr;rw[L34_10_eq,hv.len,b_s];dsimp only;rw[qkg,dF (by omega),b_s,i_b,c_f]
 | .mk k t o qd w::l,j,q+1,rest,rest',hr,hp,hr',hp',hn,hq=>by
  simp only[PrAt]at hp hp';obtain⟨c,rs,rfl,hc,hpt⟩:=hp;obtain⟨c',rs',rfl,hc',hpt'⟩:=hp';simp only[PtAt]at hc hc';obtain⟨u,ru,rfl,hu,hw,hb⟩:=hc;obtain⟨u',ru',rfl,hu',hw',hb'⟩:=hc';obtain⟨hlt,e1,e2,_⟩:=qey hr;obtain⟨hlt',e1',e2',_⟩:=qey hr';obtain⟨r,hr1,hr2,hr3,hr4⟩:=hv.at hlt;obtain⟨r',hr1',hr2',hr3',hr4'⟩:=hv'.at hlt';have hg:rows[j]?=some (qdn k t o qd u):=by rw[List.getElem?_eq_getElem hlt,e1]
  have hg':rows'[j]?=some (qdn k t o qd u'):=by rw[List.getElem?_eq_getElem hlt',e1']
  have f0:∀i,faP i false 1 (.ptr r (j*6))=some (.ptr r (j*6+i)):=fun i=>faPg i 0 _ false r;have f0':∀i,faP i false 1 (.ptr r' (j*6))=some (.ptr r' (j*6+i)):=fun i=>faPg i 0 _ false r';have a0:=fun L=>qbb ho (qc1 ho hr3 hg (by decide) (rowP0 k t o qd u)) L;have a1:=fun L=>qbb ho (qc1 ho hr3 hg (by decide) (rowP1 k t o qd u)) L;have a2:=fun L=>qbb ho (qc1 ho hr3 hg (by decide) (rowP2 k t o qd u)) L;have a3:=fun L=>qbb ho (qc1 ho hr3 hg (by decide) (rowP3 k t o qd u)) L;have a4:=fun L=>qbb ho (qc1 ho hr3 hg (by decide) (rowP4 k t o qd u)) L;have b0:=fun L=>qbb ho (qc1 ho hr3' hg' (by decide) (rowP0 k t o qd u')) L;have b1:=fun L=>qbb ho (qc1 ho hr3' hg' (by decide) (rowP1 k t o qd u')) L;have b2:=fun L=>qbb ho (qc1 ho hr3' hg' (by decide) (rowP2 k t o qd u')) L;have b3:=fun L=>qbb ho (qc1 ho hr3' hg' (by decide) (rowP3 k t o qd u')) L;have b4:=fun L=>qbb ho (qc1 ho hr3' hg' (by decide) (rowP4 k t o qd u')) L
  have hd':qcx w<n:=by
   simp only[qcx,depP]at hn;omega
  have hdl:qcx l<=n:=by
   simp only[qcx]at hn;omega
  have hj:j<9223372036854770000:=by
   have:=hr3.fit;unfold big at this;omega
  obtain⟨L,hs⟩:=Lg.ev_lg hL (ih w hd' S u u' ru ru' Q Q' ho hu hw hu' hw') [];have hlp:=sam_loop hL d n ih N nk ek ho hv hv' l (j+1) q rs rs' e2 hpt e2' hpt' hdl (by simp only[List.length_cons]at hq; omega);rw[L34_10_eq,hv.len,b_s];dsimp only;rw[qkg,dT hlt,b_s,i_b,c_t];simp only[hr2,hr2',b_s,f0,f0',lons',llg',a0,a1,a2,a3,a4,b0,b1,b2,b3,b4,ne3s,ne9s,ne4s,g_f,c_t,c_f,p_b,nF,lg_log];rw[hs,qby];simp only[b_s,c_t,c_f,u_not,Bool.not_true,p_b,lg_log];rw[qez (pairs_same _ _ _ _ _ _ _ _ _ _ _ (qat _ _ _ _ _ _ _ (.inl rfl)) (qat _ _ _ _ _ _ _ (.inl rfl)) (qat _ _ _ _ _ _ _ (.inl rfl)) (qat _ _ _ _ _ _ _ (.inl rfl)) (qat _ _ _ _ _ _ _ (.inl rfl)))];rw[llg',qd2 ho,i_b,c_f,qei (by omega),b_s,hlp]
theorem sam_run (hK:RefL K) (hL:Lg.KnLoc K) (m:Nat):∀(n:Nat) (l:List Part),qcx l<=n->SamOk K (m+n+1) l
 | n,l,hn=>by
  intro S v v' rows rows' Q Q' ho hv hp hv' hp'
  have ih:∀w,qcx w<n->SamOk K (m+n) w:=fun w hw=>by
   obtain⟨n',rfl⟩:∃n',n=n'+1:=⟨n-1,by omega⟩
   exact sam_run hK hL m n' w (by omega)
  have hlq:l.length<qa3:=by
   have h1:=hp.len;rcases hv with⟨h,_⟩|⟨r,h2,_,_,_⟩
   . rw[h]at h1
     simp at h1;unfold qa3;omega
   . have:=h2.fit
     unfold big at this;unfold qa3;omega
  refine rv34 hK ?_;show F34 (ev E0 K (m+n)) qa3 v v' S=_;rw[F34_eq,hv.len,b_s];dsimp only;rw[hv'.len,b_s];dsimp only;rw[hp.len,hp'.len,ne3s,b_s,i_b,c_f,show(V.int .i64 0)=.int .i64 ((0:Nat):Int)from rfl,sam_loop hL (m+n) n ih qa3 _ _ ho hv hv' l 0 qa3 rows rows' rfl hp rfl hp' hn hlq,exB_same,R34_7_eq]
end
end Go.Proofs.YtafbipadnnmccaaDoor.W
namespace Go.Proofs.YtafbipadnnmccaaDoor.W
open Go.Proofs.YtafbipadnnmccaaDoor.Ev
theorem depL_app (a b:List Part):qcx (a++b)=max (qcx a) (qcx b):=by
 induction a with
 | nil=>rw[List.nil_append,qcx]; omega
 | cons p l ih=>rw[List.cons_append,qcx,qcx,ih]; omega
theorem depL_one (p:Part):qcx [p]=depP p:=by rw[qcx,qcx]; omega
theorem depL_leaf (k:Nat) (t o:Bs) (q:Bool):qcx [.mk k t o q []]=1:=by rw[depL_one,depP,qcx]
theorem dep_flu (w:Nat) (out:List Part) (text:Bs) {D:Nat} (h:qcx out<=D) (hD:1<=D):qcx (qkc w out text)<=D:=by
 unfold qkc;split
 . exact h
 . rw[depL_app,depL_leaf]; omega
theorem pars_dep:∀n,(∀s w deep i out text l j,qal n s w deep i out text=.ok (l,j)->deep<=20->qcx out<=22-deep->qcx l<=22-deep)/\(∀s w deep i p j,qj5 n s w deep i=.ok (some (p,j))->deep<=20->depP p<=22-deep)
 | 0=>⟨fun s w deep i out text l j h=>by(unfold qal at h; cases h),fun s w deep i p j h=>by(unfold qj5 at h; cases h)⟩
 | n+1=>by
  obtain⟨hP,hD⟩:=pars_dep n;refine⟨fun s w deep i out text l j h hd ho=>?_,fun s w deep i p j h hd=>?_⟩
  . have hf:=dep_flu w out text ho (by omega)
    have leaf:∀(o:List Part),qcx o<=22-deep->∀(p:Part),depP p<=22-deep->qcx (o++[p])<=22-deep:=fun o h p hp=>by rw[depL_app,depL_one]; omega
    unfold qal at h;split at h
    . split at h
      . exact hP _ _ _ _ _ _ _ _ h hd ho
      . split at h
        . split at h
          . cases h
          . split at h
            . exact hP _ _ _ _ _ _ _ _ h hd ho
            . exact hP _ _ _ _ _ _ _ _ h hd (leaf _ hf _ (by rw[depP,qcx]; omega))
        . split at h
          . split at h
            . cases h
            . exact hP _ _ _ _ _ _ _ _ h hd ho
            . rename_i p k hk
              exact hP _ _ _ _ _ _ _ _ h hd (leaf _ hf _ (hD _ _ _ _ _ _ hk hd))
          . split at h
            . cases h
            . split at h
              . split at h
                . cases h
                . exact hP _ _ _ _ _ _ _ _ h hd (leaf _ hf _ (by rw[depP,qcx]; omega))
              . split at h
                . split at h
                  . cases h
                  . rename_i l' k hk
                    have h1:=hP _ _ _ _ _ _ _ _ hk hd (by rw[qcx]; omega);split at h
                    . refine hP _ _ _ _ _ _ _ _ h hd ?_
                      rw[depL_app];split
                      . rw[depL_leaf]; omega
                      . omega
                    . cases h
                . exact hP _ _ _ _ _ _ _ _ h hd ho
    . cases h
      exact hf
  . unfold qj5 at h
    split at h
    . cases h
    . split at h
      . split at h
        . cases h
        . cases h
          rw[depP,qcx]; omega
      . split at h
        . split at h
          . cases h
          . rename_i hdp
            split at h
            . cases h
              rw[depP,qcx]; omega
            . dsimp only at h
              split at h
              . cases h
              . split at h
                . cases h
                  rw[depP,qcx]; omega
                . split at h
                  . cases h
                  . split at h
                    . cases h
                    . rename_i l k hk
                      have h2:=hP _ _ _ _ _ _ _ _ hk (by omega) (by rw[qcx]; omega);split at h
                      . cases h
                        rw[depP]; omega
                      . cases h
        . dsimp only at h
          split at h
          . cases h
          . cases h
            rw[depP,qcx]; omega
def DepT (toks:List Tok):Prop:=∀t∈toks,qcx t.parts<=22
theorem DepT.push {toks:List Tok} (h:DepT toks) {t:Tok} (ht:qcx t.parts<=22):DepT (toks++[t]):=fun x hx=>by
 rcases List.mem_append.1 hx with hx|hx
 . exact h x hx
 . cases List.mem_singleton.1 hx; exact ht
theorem DepT.set {toks:List Tok} (h:DepT toks) (i:Nat) {t:Tok} (ht:qcx t.parts<=22):DepT (toks.set i t):=fun x hx=>by
 rcases List.mem_or_eq_of_mem_set hx with hx|rfl
 . exact h x hx
 . exact ht
theorem docs_dep:∀{s:Bs} {ws:List (Nat×Bs)} {i j:Nat} {toks tk:List Tok},qcm s ws i toks=.ok (tk,j)->DepT toks->(∀w∈ws,w.1<toks.length)->DepT tk
 | s,[],i,j,toks,tk,h,ht,hw=>by
  unfold qcm at h;cases h;exact ht
 | s,w::ws,i,j,toks,tk,h,ht,hw=>by
  rw[qbf]at h;split at h
  . cases h
  . rename_i t j' hq
    have hwl:=hw w (List.mem_cons_self ..)
    have hx:qcx (toks.getD w.1 ⟨0,[],[],false,0⟩).parts<=22:=by
     refine ht _ ?_;rw[List.getD_eq_getElem?_getD,List.getElem?_eq_getElem hwl];exact List.getElem_mem hwl
    have hd:DepT t/\t.length=toks.length:=by
     unfold qd8 at hq;split at hq
     . cases hq
     . dsimp only at hq
       split at hq
       . cases hq
         exact⟨ht.set _ hx,List.length_set ..⟩
       . split at hq
         . cases hq
         . rename_i l jj hp
           cases hq;exact⟨ht.set _ ((pars_dep _).1 _ _ _ _ _ _ _ _ hp (by omega) (by rw[qcx]; omega)),List.length_set ..⟩
    exact docs_dep h hd.1 (fun w' hw'=>by rw[hd.2]; exact hw w' (mO _ hw'))
theorem step_dep {s:Bs} {i:Nat} {toks:List Tok} {waits:List (Nat×Bs)} {q:Nat×List Tok×List (Nat×Bs)} (h:qd4 s i toks waits=.ok q) (ht:DepT toks) (hw:∀w∈waits,w.1<toks.length):DepT q.2.1:=by
 unfold qd4 linD remD mrkD wrdD at h;split at h
 . rename_i r hl
   split at hl
   . cases hl
     split at h
     . cases h
     . rename_i q2 hd
       cases h;obtain⟨t,j⟩:=q2;exact docs_dep hd (ht.push (t:=⟨2,[],[],false,i⟩) (by show qcx []<=22; rw[qcx]; omega)) (fun w hw'=>by have:=hw w hw'; rw[lAq]; omega)
   . cases hl
 . split at h
   . rename_i r hl
     split at hl
     . cases hl
       cases h;exact ht
     . cases hl
   . split at h
     . rename_i r hl
       split at hl
       . cases hl
         cases h;exact ht.push (t:=⟨1,_,[],false,i⟩) (by show qcx []<=22; rw[qcx]; omega)
       . split at hl
         . cases hl
           cases h
         . cases hl
     . split at h
       . cases h
       . rename_i l j hp
         have hdl:=(pars_dep _).1 _ _ _ _ _ _ _ _ hp (by omega) (by rw[qcx]; omega);split at h
         . split at h
           . cases h
           . cases h
             have:=(ht.push (t:=⟨0,[],l,false,i⟩) hdl).push (t:=⟨3,[],[],l.any fun p=>p.kind==1,i⟩) (by show qcx []<=22; rw[qcx]; omega)
             rwa [List.append_assoc]at this
         . cases h
           exact ht.push (t:=⟨0,[],l,false,i⟩) hdl
theorem lexD_dep:∀(n:Nat) {s:Bs} {i:Nat} {toks tk:List Tok} {waits:List (Nat×Bs)},qi2 n s i toks waits=.ok tk->Inv s i toks waits->i<=s.length->DepT toks->DepT tk
 | 0,s,i,toks,tk,waits,h,hI,hi,ht=>by unfold qi2 at h; cases h
 | n+1,s,i,toks,tk,waits,h,hI,hi,ht=>by
  rw[qbq]at h;obtain⟨i1,i2,i3⟩:=qe0 (s.length+1) s i hi (by omega);generalize qeh (s.length+1) s i=i' at *;have hIU:Inv s i' toks waits:=⟨by have:=hI.t; omega,by have:=hI.w; omega,hI.ix,hI.tx⟩
  split at h
  . rename_i hlt
    cases hst:qd4 s i' toks waits with
    | error e=>rw[hst]at h; cases h
    | ok r=>
     rw[hst]at h;obtain⟨j1,j2,j3⟩:=qfi hIU hlt (i3 hlt).1 (i3 hlt).2 hst;exact lexD_dep n h j3 j2 (step_dep hst ht hI.ix)
  . split at h
    . cases h; exact ht
    . cases h
theorem lexA_dep {s:Bs} {tk:List Tok} (h:qfb s=.ok tk):DepT tk:=by
 unfold qfb at h;split at h
 . cases h
 . exact lexD_dep _ h ⟨by simp,by simp,fun w hw=>by simp at hw,fun x hx=>by simp at hx⟩ (Nat.zero_le _) (fun t ht=>by simp at ht)
end Go.Proofs.YtafbipadnnmccaaDoor.W

namespace Go.Proofs.YtafbipadnnmccaaDoor.W
open Go.Proofs.YtafbipadnnmccaaDoor.Ev
theorem ql2 (p u:Bs):∀n,(∀n' w deep i out text,i<=u.length->2*(u.length-i)+1<=n->2*(u.length-i)+1<=n'->qal n' (p++u) w deep (p.length+i) out text=shR p.length (qal n u w deep i out text))/\(∀n' w deep i,i<u.length->2*(u.length-i)<=n->2*(u.length-i)<=n'->qj5 n' (p++u) w deep (p.length+i)=shD p.length (qj5 n u w deep i))
 | 0=>⟨fun n' w deep i out text hi hn hn'=>by omega,fun n' w deep i hi hn hn'=>by omega⟩
 | n+1=>by
  obtain⟨hP,hD⟩:=ql2 p u n;refine⟨fun n' w deep i out text hi hn hn'=>?_,fun n' w deep i hi hn hn'=>?_⟩
  . obtain⟨n',rfl⟩:∃k,n'=k+1:=⟨n'-1,by omega⟩
    unfold qal;rw[qd5,show p.length+i+1=p.length+(i+1)from rfl,idxD_sh];by_cases hc:i<u.length/\qkb w (byt u i)=false
    . rw[iP (show p.length+i<(p++u).length/\qkb w (byt (p++u) (p.length+i))=false from⟨lt_sh p u i hc.1,by rw[qhi]; exact hc.2⟩),iP hc,qhi,qhi]
      have hlt:=hc.1;by_cases h1:atD u i [92,10]=true
      . have:=qax h1 (by decide)
        simp only[List.length_cons,List.length_nil]at this;rw[iP h1,iP h1];exact hP n' w deep (i+2) out text (by omega) (by omega) (by omega)
      rw[iN h1,iN h1];by_cases h92:byt u i=92
      . rw[iP h92,iP h92]
        by_cases hle:u.length<=i+1
        . rw[iP hle,iP (show(p++u).length<=p.length+(i+1) by rw[lAq]; omega)]; rfl
        . rw[iN hle,iN (show ¬(p++u).length<=p.length+(i+1) by rw[lAq]; omega)]
          by_cases hw:inD w=true
          . rw[iP hw,iP hw]
            exact hP n' w deep (i+2) out _ (by omega) (by omega) (by omega)
          . rw[iN hw,iN hw]
            exact hP n' w deep (i+2) _ [] (by omega) (by omega) (by omega)
      rw[iN h92,iN h92];by_cases h36:byt u i=36
      . rw[iP h36,iP h36,hD n' w deep i hlt (by omega) (by omega)]
        cases hx:qj5 n u w deep i with
        | error e=>rfl
        | ok r=>
         cases r with
         | none=>exact hP n' w deep (i+1) out _ (by omega) (by omega) (by omega)
         | some q=>
          have:=(qee n).2 _ _ _ _ _ _ hx;exact hP n' w deep q.2 _ [] (by omega) (by omega) (by omega)
      rw[iN h36,iN h36];by_cases hb:(decide (byt u i=96)||(byt u i==34&&w==4))=true
      . rw[iP hb,iP hb]; rfl
      rw[iN hb,iN hb];by_cases h39:(decide (byt u i=39)&&!inD w)=true
      . rw[iP h39,iP h39]
        cases hx:qf0 u (i+1) 39 with
        | none=>rfl
        | some k=>
         have hk:=qdo hx
         have e:((p++u).drop (p.length+(i+1))).take (p.length+k-(p.length+(i+1)))=(u.drop (i+1)).take (k-(i+1)):=by
          rw[qfq]
          congr 1
          omega
         show qal n' (p++u) w deep (p.length+k+1) (qkc w out text++[.mk 1 (((p++u).drop (p.length+(i+1))).take (p.length+k-(p.length+(i+1)))) [] false []]) []=_;rw[e];exact hP n' w deep (k+1) _ [] (by omega) (by omega) (by omega)
      rw[iN h39,iN h39];by_cases h34:(decide (byt u i=34)&&!inD w)=true
      . rw[iP h34,iP h34,hP n' 1 deep (i+1) [] [] (by omega) (by omega) (by omega)]
        cases hx:qal n u 1 deep (i+1) [] []with
        | error e=>rfl
        | ok q=>
         obtain⟨l,j⟩:=q;have hj:=(qee n).1 _ _ _ _ _ _ _ _ hx (by omega);show(if atD (p++u) (p.length+j) [34]=true then qal n' (p++u) w deep (p.length+j+1) (qkc w out text++if l.isEmpty=true then [.mk 1 [] [] true []]else l) []else .error (19,p.length+i))=shR p.length (if atD u j [34]=true then qal n u w deep (j+1) (qkc w out text++if l.isEmpty=true then [.mk 1 [] [] true []]else l) []else .error (19,i));rw[qd5];by_cases ha:atD u j [34]=true
         . have:=qax ha (by decide)
           simp only[List.length_cons,List.length_nil]at this;rw[iP ha,iP ha];exact hP n' w deep (j+1) _ [] (by omega) (by omega) (by omega)
         . rw[iN ha,iN ha]; rfl
      . rw[iN h34,iN h34]
        exact hP n' w deep (i+1) out _ (by omega) (by omega) (by omega)
    . rw[iN hc,iN (show ¬(p.length+i<(p++u).length/\qkb w (byt (p++u) (p.length+i))=false) by rw[qhi,lAq]; exact fun h=>hc ⟨by omega,h.2⟩)]; rfl
  . obtain⟨n',rfl⟩:∃k,n'=k+1:=⟨n'-1,by omega⟩
    unfold qj5;rw[qd5,qd5,qd5];by_cases h1:atD u i [36,40,40]=true
    . rw[iP h1,iP h1]; rfl
    rw[iN h1,iN h1];by_cases h2:atD u i [36,40]=true
    . have:=qax h2 (by decide)
      simp only[List.length_cons,List.length_nil]at this;rw[iP h2,iP h2,show p.length+i+2=p.length+(i+2)from rfl,(sh_clo p u (2*u.length)).1 (2*(p++u).length) (i+2) 1 (by omega) (by rw[lAq]; omega)];cases hx:qhf (2*u.length) u (i+2) 1 with
      | none=>rfl
      | some j=>
       have hj:=(clo_le _).1 _ _ _ _ hx;show Except.ok (some (Part.mk 3 (((p++u).drop (p.length+(i+2))).take (p.length+j-1-(p.length+(i+2)))) [] (inD w) [],p.length+j))=Except.ok (some (Part.mk 3 ((u.drop (i+2)).take (j-1-(i+2))) [] (inD w) [],p.length+j));rw[qfq,show p.length+j-1-(p.length+(i+2))=j-1-(i+2) by omega]
    rw[iN h2,iN h2];by_cases h3:atD u i [36,123]=true
    . have h3l:=qax h3 (by decide)
      simp only[List.length_cons,List.length_nil]at h3l;rw[iP h3,iP h3];by_cases hd:20<=deep
      . rw[iP hd,iP hd]; rfl
      rw[iN hd,iN hd];rw[show p.length+i+2=p.length+(i+2)from rfl,show p.length+i+3=p.length+(i+3)from rfl,qd5,qfq,qfq,show p.length+(i+3)+qbr (u.drop (i+3)) [63,64,42]=p.length+(i+3+qbr (u.drop (i+3)) [63,64,42]) by omega,qd5];by_cases hl:(atD u (i+2) [35]&&qbr (u.drop (i+3)) [63,64,42] != 0&&atD u (i+3+qbr (u.drop (i+3)) [63,64,42]) [125])=true
      . rw[iP hl,iP hl]; rfl
      rw[iN hl,iN hl];dsimp only;rw[show p.length+(i+2)+qbr (u.drop (i+2)) [63,35,64,42]=p.length+(i+2+qbr (u.drop (i+2)) [63,35,64,42]) by omega];by_cases hm:qbr (u.drop (i+2)) [63,35,64,42]=0
      . rw[iP hm,iP hm]; rfl
      rw[iN hm,iN hm,qd5];by_cases hb:atD u (i+2+qbr (u.drop (i+2)) [63,35,64,42]) [125]=true
      . rw[iP hb,iP hb]; rfl
      rw[iN hb,iN hb];rw[show(fun o=>atD (p++u) (p.length+(i+2+qbr (u.drop (i+2)) [63,35,64,42])) o)=fun o=>atD u (i+2+qbr (u.drop (i+2)) [63,35,64,42]) o from funext fun o=>qd5 ..];cases hf:opsT.find? fun o=>atD u (i+2+qbr (u.drop (i+2)) [63,35,64,42]) o with
      | none=>rfl
      | some o=>
       have hfa:=find_at hf;dsimp only;rw[show p.length+(i+2+qbr (u.drop (i+2)) [63,35,64,42])+o.length=p.length+(i+2+qbr (u.drop (i+2)) [63,35,64,42]+o.length) by omega,hP n' (if inD w then 4 else 3) (deep+1) _ [] [] hfa.2.1 (by omega) (by omega)];cases hx:qal n u (if inD w then 4 else 3) (deep+1) (i+2+qbr (u.drop (i+2)) [63,35,64,42]+o.length) [] []with
       | error e=>rfl
       | ok q=>
        obtain⟨l,j⟩:=q;show(if atD (p++u) (p.length+j) [125]=true then Except.ok (some (Part.mk 2 ((u.drop (i+2)).take (qbr (u.drop (i+2)) [63,35,64,42])) o (inD w) l,p.length+j+1))else .error (19,p.length+i))=shD p.length (if atD u j [125]=true then Except.ok (some (Part.mk 2 ((u.drop (i+2)).take (qbr (u.drop (i+2)) [63,35,64,42])) o (inD w) l,j+1))else .error (19,i));rw[qd5];by_cases ha:atD u j [125]=true
        . rw[iP ha,iP ha]; rfl
        . rw[iN ha,iN ha]; rfl
    . rw[iN h3,iN h3]
      dsimp only;rw[show p.length+i+1=p.length+(i+1)from rfl,qfq];by_cases hm:qbr (u.drop (i+1)) [63,35,64,42]=0
      . rw[iP hm,iP hm]; rfl
      . rw[iN hm,iN hm]
        show Except.ok (some (_,p.length+(i+1)+_))=Except.ok (some (_,p.length+(i+1+_)));rw[Nat.add_assoc p.length (i+1)]
def sft (m:Nat) (t:Tok):Tok:={t with at_:=m+t.at_}
def mvW (k:Nat) (w:Nat×Bs):Nat×Bs:=(k+w.1,w.2)
def mvT (T0:List Tok) (m:Nat) (toks:List Tok):List Tok:=T0++toks.map (sft m)
def shE {α β:Type} (m:Nat) (f:α->β):Except Flt α->Except Flt β
 | .ok a=>.ok (f a)
 | .error e=>.error (e.1,m+e.2)
theorem qjn (n:Nat) (s:Bs) (i:Nat) (h:s.length<=i):qeh n s i=i:=by
 cases n with
 | zero=>rfl
 | succ n=>
  unfold qeh
  have hb:byt s i=0:=by
   unfold byt;rw[List.getD_eq_getElem?_getD,List.getElem?_eq_none h];rfl
  have ha:atD s i [92,10]=false:=by
   unfold atD;rw[List.drop_eq_nil_of_le h];rfl
  rw[iN (by omega),iN (by rw[hb]; decide),ha,iN (by decide)]
theorem sh_ski (p u:Bs):∀n n' i,u.length+1<=n+i->u.length+1<=n'+i->qeh n' (p++u) (p.length+i)=p.length+qeh n u i
 | 0,n',i,h,h'=>by rw[qjn n' _ _ (by rw[lAq]; omega),qjn 0 u i (by omega)]
 | n+1,n',i,h,h'=>by
  by_cases hlt:i<u.length
  . obtain⟨k,rfl⟩:∃k,n'=k+1:=⟨n'-1,by omega⟩
    unfold qeh;by_cases h32:byt u i=32
    . rw[iP (show byt (p++u) (p.length+i)=32/\p.length+i<(p++u).length from⟨by rw[qhi]; exact h32,lt_sh p u i hlt⟩),iP (show byt u i=32/\i<u.length from⟨h32,hlt⟩)]
      exact sh_ski p u n k (i+1) (by omega) (by omega)
    . rw[iN (show ¬(byt (p++u) (p.length+i)=32/\p.length+i<(p++u).length)from fun h=>h32 (by rw[<- qhi p u i]; exact h.1)),qhi,qd5,iN (show ¬(byt u i=32/\i<u.length)from fun h=>h32 h.1)]
      by_cases h9:byt u i=9
      . rw[iP h9,iP h9]
        exact sh_ski p u n k (i+1) (by omega) (by omega)
      . rw[iN h9,iN h9]
        by_cases ha:atD u i [92,10]=true
        . rw[iP ha,iP ha]
          exact sh_ski p u n k (i+2) (by omega) (by omega)
        . rw[iN ha,iN ha]
  . rw[qjn n' _ _ (by rw[lAq]; omega),qjn (n+1) u i (by omega)]
theorem digM_sh (p u:Bs) (i:Nat):qj9 (p++u) (p.length+i)=qj9 u i:=by
 unfold qj9;rw[qhi,show p.length+i+1=p.length+(i+1)from rfl,qd5,qd5]
theorem markD_sh (p u:Bs) (i:Nat):qec (p++u) (p.length+i)=qec u i:=by
 rw[qdw,qdw,digM_sh,show(fun o=>atD (p++u) (p.length+i+if qj9 u i then 1 else 0) o)=fun o=>atD u (i+if qj9 u i then 1 else 0) o from funext fun o=>by rw[Nat.add_assoc,qd5]]
theorem idxE_sh (p u:Bs) (i:Nat) (c:UInt8):(qf0 (p++u) (p.length+i) c).getD (p++u).length=p.length+(qf0 u i c).getD u.length:=by
 rw[idxD_sh,lAq];cases qf0 u i c<;>rfl
theorem sub_sh (p u:Bs) (i k:Nat):((p++u).drop (p.length+i)).take (p.length+k-(p.length+i))=(u.drop i).take (k-i):=by
 rw[qfq]
 congr 1
 omega
theorem qh4 (n:Nat) (s last:Bs) (i:Nat) (h:s.length<=i):qju n s last i=none:=by
 cases n with
 | zero=>rfl
 | succ n=>unfold qju; rw[iN (by omega)]
theorem docD_sh (p u last:Bs):∀n n' i,u.length+1<=n+i->u.length+1<=n'+i->qju n' (p++u) last (p.length+i)=(qju n u last i).map fun q=>(p.length+q.1,p.length+q.2)
 | 0,n',i,h,h'=>by rw[qh4 n' _ _ _ (by rw[lAq]; omega),qh4 0 u last i (by omega)]; rfl
 | n+1,n',i,h,h'=>by
  by_cases hlt:i<u.length
  . obtain⟨k,rfl⟩:∃k,n'=k+1:=⟨n'-1,by omega⟩
    unfold qju;rw[iP hlt,iP (lt_sh p u i hlt)];dsimp only;rw[idxE_sh,sub_sh,lAq]
    have hge:i<=(qf0 u i 10).getD u.length:=by
     cases hx:qf0 u i 10 with
     | none=>exact Nat.le_of_lt hlt
     | some k=>exact(qdo hx).1
    generalize (qf0 u i 10).getD u.length=e at *;rw[show min (p.length+e+1) (p.length+u.length)=p.length+min (e+1) u.length by omega];by_cases hb:((u.drop i).take (e-i)==last)=true
    . rw[iP hb,iP hb]; rfl
    . rw[iN hb,iN hb]
      exact docD_sh p u last n k (min (e+1) u.length) (by omega) (by omega)
  . rw[qh4 n' _ _ _ (by rw[lAq]; omega),qh4 (n+1) u last i (by omega)]; rfl
theorem mv_getD (T0:List Tok) (m:Nat) (toks:List Tok) (i:Nat) (h:i<toks.length):(mvT T0 m toks).getD (T0.length+i) ⟨0,[],[],false,0⟩=sft m (toks.getD i ⟨0,[],[],false,0⟩):=by
 unfold mvT;rw[List.getD_eq_getElem?_getD,List.getD_eq_getElem?_getD,List.getElem?_append_right (by omega),show T0.length+i-T0.length=i by omega,List.getElem?_map,List.getElem?_eq_getElem h];rfl
theorem mv_set (T0:List Tok) (m:Nat) (toks:List Tok) (i:Nat) (y:Tok):(mvT T0 m toks).set (T0.length+i) (sft m y)=mvT T0 m (toks.set i y):=by
 unfold mvT;rw[List.set_append_right _ _ (by omega),show T0.length+i-T0.length=i by omega,List.map_set]
theorem doc1_sh (p u:Bs) (T0:List Tok) (w:Nat×Bs) (i:Nat) (toks:List Tok) (hi:i<=u.length) (hw:w.1<toks.length):qd8 (p++u) (mvW T0.length w) (p.length+i) (mvT T0 p.length toks)=shE p.length (fun q=>(mvT T0 p.length q.1,p.length+q.2)) (qd8 u w i toks):=by
 unfold qd8;rw[show(mvW T0.length w).2=w.2 from rfl,show(mvW T0.length w).1=T0.length+w.1 from rfl,docD_sh p u w.2 (u.length+1) _ i (by omega) (by rw[lAq]; omega)];cases hd:qju (u.length+1) u w.2 i with
 | none=>
  show Except.error (19,(p++u).length)=Except.error (19,p.length+u.length);rw[lAq]
 | some q=>
  obtain⟨k,j⟩:=q;have hk:=qja _ _ _ _ _ _ hd;simp only[Option.map_some];rw[mv_getD _ _ _ _ hw,sub_sh];generalize toks.getD w.1 ⟨0,[],[],false,0⟩=x;show(if x.quoted=true then _ else _)=_;by_cases hq:x.quoted=true
  . rw[iP hq,iP hq]
    show Except.ok (_,_)=Except.ok (_,_);rw[<- mv_set];rfl
  . rw[iN hq,iN hq]
    have ht:(p++u).take (p.length+k)=p++u.take k:=by rw[List.take_append,List.take_of_length_le (by omega),show p.length+k-p.length=k by omega]
    have hul:(u.take k).length=k:=by rw[List.length_take]; omega
    rw[ht,(ql2 p (u.take k) (qc0 u)).1 (qc0 (p++u)) 2 0 i [] [] (by omega) (by rw[hul]; unfold qc0; omega) (by rw[hul]; unfold qc0; rw[lAq]; omega)];cases qal (qc0 u) (u.take k) 2 0 i [] []with
    | error e=>rfl
    | ok r=>
     show Except.ok (_,_)=Except.ok (_,_);rw[<- mv_set];rfl
theorem docs_sh (p u:Bs) (T0:List Tok):∀(ws:List (Nat×Bs)) (i:Nat) (toks:List Tok),i<=u.length->(∀w∈ws,w.1<toks.length)->qcm (p++u) (ws.map (mvW T0.length)) (p.length+i) (mvT T0 p.length toks)=shE p.length (fun q=>(mvT T0 p.length q.1,p.length+q.2)) (qcm u ws i toks)
 | [],i,toks,hi,hw=>rfl
 | w::ws,i,toks,hi,hw=>by
  rw[List.map_cons,qbf,qbf,doc1_sh p u T0 w i toks hi (hw w (List.mem_cons_self ..))];cases hd:qd8 u w i toks with
  | error e=>rfl
  | ok q=>
   obtain⟨tk,j⟩:=q
   have hj:j<=u.length/\tk.length=toks.length:=by
    unfold qd8 at hd;split at hd
    . cases hd
    . rename_i k j' hdd
      have:=qja _ _ _ _ _ _ hdd;dsimp only at hd;split at hd
      . cases hd
        exact⟨this.2.2.2,List.length_set ..⟩
      . split at hd
        . cases hd
        . cases hd
          exact⟨this.2.2.2,List.length_set ..⟩
   exact docs_sh p u T0 ws j tk hj.1 fun w' hw'=>by rw[hj.2]; exact hw w' (mO _ hw')
theorem docQ_mv (T0:List Tok) (m:Nat) (toks:List Tok) (h:docQ T0=false):docQ (mvT T0 m toks)=docQ toks:=by
 unfold mvT docQ at *;rcases List.eq_nil_or_concat toks with rfl|⟨l,t,rfl⟩
 . rw[List.map_nil,List.append_nil,h]
   rfl
 . rw[List.concat_eq_append,List.map_append,List.map_singleton,<- List.append_assoc,List.getLast?_concat,List.getLast?_concat]
   rfl
theorem mv_push (T0:List Tok) (m:Nat) (toks:List Tok) (t:Tok):mvT T0 m toks++[sft m t]=mvT T0 m (toks++[t]):=by
 unfold mvT;rw[List.map_append,List.append_assoc];rfl
theorem mv_len (T0:List Tok) (m:Nat) (toks:List Tok):(mvT T0 m toks).length=T0.length+toks.length:=by
 unfold mvT;rw[lAq,lM]
def mvS (T0:List Tok) (m:Nat) (q:Nat×List Tok×List (Nat×Bs)):Nat×List Tok×List (Nat×Bs):=(m+q.1,mvT T0 m q.2.1,q.2.2.map (mvW T0.length))
theorem step_sh (p u:Bs) (T0:List Tok) (h0:docQ T0=false) {i:Nat} {toks:List Tok} {waits:List (Nat×Bs)} (hi:i<u.length) (hw:∀w∈waits,w.1<toks.length):qd4 (p++u) (p.length+i) (mvT T0 p.length toks) (waits.map (mvW T0.length))=shE p.length (mvS T0 p.length) (qd4 u i toks waits):=by
 unfold qd4 linD remD mrkD wrdD;rw[qd5,qd5,qd5,markD_sh,idxE_sh];by_cases h10:atD u i [10]=true
 . rw[iP h10,iP h10]
   dsimp only;rw[show p.length+i+1=p.length+(i+1)from rfl,show(⟨2,[],[],false,p.length+i⟩:Tok)=sft p.length ⟨2,[],[],false,i⟩from rfl,mv_push,docs_sh p u T0 waits (i+1) _ (by omega) (fun w hw'=>by have:=hw w hw'; rw[lAq]; omega)];cases qcm u waits (i+1) (toks++[⟨2,[],[],false,i⟩])with
   | error e=>rfl
   | ok q=>rfl
 rw[iN h10,iN h10];dsimp only;by_cases h35:atD u i [35]=true
 . rw[iP h35,iP h35]
   rfl
 rw[iN h35,iN h35];dsimp only;by_cases hm:qec u i≠0
 . rw[iP hm,iP hm]
   show Except.ok _=Except.ok _;have e:((p++u).drop (p.length+i)).take (qec u i)=(u.drop i).take (qec u i):=by rw[qfq]
   rw[e,show(⟨1,(u.drop i).take (qec u i),[],false,p.length+i⟩:Tok)=sft p.length ⟨1,(u.drop i).take (qec u i),[],false,i⟩from rfl,mv_push,Nat.add_assoc];rfl
 rw[iN hm,iN hm];by_cases h38:atD u i [38]=true
 . rw[iP h38,iP h38]
   rfl
 rw[iN h38,iN h38];dsimp only;rw[(ql2 p u (qc0 u)).1 (qc0 (p++u)) 0 0 i [] [] (by omega) (by unfold qc0; omega) (by unfold qc0; rw[lAq]; omega),docQ_mv T0 _ _ h0,mv_len];cases qal (qc0 u) u 0 0 i [] []with
 | error e=>rfl
 | ok q=>
  obtain⟨l,j⟩:=q;show(if docQ toks=true then(if(l.any fun p=>p.kind != 0&&p.kind != 1)=true then Except.error (19,p.length+i)else .ok (p.length+j,mvT T0 p.length toks++[⟨0,[],l,false,p.length+i⟩,⟨3,[],[],l.any fun p=>p.kind==1,p.length+i⟩],waits.map (mvW T0.length)++[(T0.length+toks.length+1,(l.map Part.text).flatten)]))else .ok (p.length+j,mvT T0 p.length toks++[⟨0,[],l,false,p.length+i⟩],waits.map (mvW T0.length)))=shE p.length (mvS T0 p.length) (if docQ toks=true then(if(l.any fun p=>p.kind != 0&&p.kind != 1)=true then Except.error (19,i)else .ok (j,toks++[⟨0,[],l,false,i⟩,⟨3,[],[],l.any fun p=>p.kind==1,i⟩],waits++[(toks.length+1,(l.map Part.text).flatten)]))else .ok (j,toks++[⟨0,[],l,false,i⟩],waits));cases docQ toks with
  | true=>
   rw[iP rfl,iP rfl];by_cases ha:(l.any fun p=>p.kind != 0&&p.kind != 1)=true
   . rw[iP ha,iP ha]; rfl
   . rw[iN ha,iN ha]
     show Except.ok _=Except.ok _;unfold mvS mvT mvW;simp[sft,Nat.add_assoc]
  | false=>
   rw[iN (by simp),iN (by simp)];show Except.ok _=Except.ok _;unfold mvS mvT mvW;simp[sft]
theorem lex_sh (p u:Bs) (T0:List Tok) (h0:docQ T0=false):∀n n' i toks waits,i<=u.length->u.length+1<=n+i->u.length+1<=n'+i->Inv u i toks waits->qi2 n' (p++u) (p.length+i) (mvT T0 p.length toks) (waits.map (mvW T0.length))=shE p.length (mvT T0 p.length) (qi2 n u i toks waits)
 | 0,n',i,toks,waits,hi,hn,hn',hI=>by omega
 | n+1,n',i,toks,waits,hi,hn,hn',hI=>by
  obtain⟨n',rfl⟩:∃k,n'=k+1:=⟨n'-1,by omega⟩
  rw[qbq,qbq,sh_ski p u (u.length+1) _ i (by omega) (by rw[lAq]; omega)];obtain⟨i1,i2,i3⟩:=qe0 (u.length+1) u i hi (by omega);generalize qeh (u.length+1) u i=i' at *;have hIU:Inv u i' toks waits:=⟨by have:=hI.t; omega,by have:=hI.w; omega,hI.ix,hI.tx⟩
  by_cases hlt:i'<u.length
  . rw[iP hlt,iP (lt_sh p u i' hlt),step_sh p u T0 h0 hlt hI.ix]
    cases hst:qd4 u i' toks waits with
    | error e=>rfl
    | ok r=>
     obtain⟨j1,j2,j3⟩:=qfi hIU hlt (i3 hlt).1 (i3 hlt).2 hst;exact lex_sh p u T0 h0 n n' r.1 r.2.1 r.2.2 j2 (by omega) (by omega) j3
  . rw[iN hlt,iN (show ¬p.length+i'<(p++u).length by rw[lAq]; omega)]
    by_cases hw:waits=[]
    . subst hw
      rfl
    . rw[iN hw,iN (by simpa using hw),lAq]
      rfl
end Go.Proofs.YtafbipadnnmccaaDoor.W
