/-
  WHAT THE FUNCTIONS COME TO: each is read by the evaluator,printed,and told as a function of data,part 12 of 13 (no condition).
-/
import Derived.Test.YtafbipadnnmccaaDoorW11
namespace Go.Proofs.YtafbipadnnmccaaDoor.W
open Go.Proofs.YtafbipadnnmccaaDoor.Ev
theorem qi3 (p u:Bs) (i:Nat):(p++u).drop (p.length+i)=u.drop i:=by
 rw[List.drop_append,List.drop_eq_nil_of_le (by omega),List.nil_append]
 congr 1
 omega
theorem qlp (p u:Bs) (i:Nat):byt (p++u) (p.length+i)=byt u i:=by
 unfold byt;rw[List.getD_eq_getElem?_getD,List.getD_eq_getElem?_getD,List.getElem?_append_right (by omega),show p.length+i-p.length=i by omega]
theorem qgc (p u:Bs) (i:Nat) (t:Bs):atD (p++u) (p.length+i) t=atD u i t:=by
 unfold atD;rw[qi3]
theorem idxD_sh (p u:Bs) (i:Nat) (c:UInt8):qfj (p++u) (p.length+i) c=(qfj u i c).map (p.length+·):=by
 unfold qfj;rw[qi3,Option.map_map]
 congr 1
 funext x
 show x+(p.length+i)=p.length+(x+i)
 omega
theorem lt_sh (p u:Bs) (i:Nat) (h:i<u.length):p.length+i<(p++u).length:=by rw[lAq]; omega
theorem qkw (n:Nat) (s:Bs) (i d:Nat) (h:s.length<=i):qhi n s i d=none:=by
 cases n with
 | zero=>unfold qhi; rfl
 | succ n=>unfold qhi; rw[iN (by omega)]
theorem ql9 (n:Nat) (s:Bs) (i:Nat) (h:s.length<=i):qkt n s i=none:=by
 cases n with
 | zero=>unfold qkt; rfl
 | succ n=>unfold qkt; rw[iN (by omega)]
theorem sh_clo (p u:Bs):∀n,(∀n' i d,u.length+1<=n+i->u.length+1<=n'+i->qhi n' (p++u) (p.length+i) d=(qhi n u i d).map (p.length+·))/\(∀n' i,u.length+1<=n+i->u.length+1<=n'+i->qkt n' (p++u) (p.length+i)=(qkt n u i).map (p.length+·))
 | 0=>⟨fun n' i d h _=>by rw[qkw n' _ _ _ (by rw[lAq]; omega),qkw 0 u i d (by omega)]; rfl,fun n' i h _=>by rw[ql9 n' _ _ (by rw[lAq]; omega),ql9 0 u i (by omega)]; rfl⟩
 | n+1=>by
  obtain⟨hC,hQ⟩:=sh_clo p u n;refine⟨fun n' i d h h'=>?_,fun n' i h h'=>?_⟩
  . by_cases hlt:i<u.length
    . obtain⟨k,rfl⟩:∃k,n'=k+1:=⟨n'-1,by omega⟩
      unfold qhi;rw[iP (lt_sh p u i hlt),iP hlt,qlp];by_cases h92:byt u i=92
      . rw[iP h92,iP h92]
        exact hC k (i+2) d (by omega) (by omega)
      rw[iN h92,iN h92];by_cases h39:byt u i=39
      . rw[iP h39,iP h39,show p.length+i+1=p.length+(i+1)from rfl,idxD_sh]
        cases hx:qfj u (i+1) 39 with
        | none=>rfl
        | some j=>
         have:=qeb hx;exact hC k (j+1) d (by omega) (by omega)
      rw[iN h39,iN h39];by_cases h34:byt u i=34
      . rw[iP h34,iP h34,show p.length+i+1=p.length+(i+1)from rfl,hQ k (i+1) (by omega) (by omega)]
        cases hx:qkt n u (i+1)with
        | none=>rfl
        | some j=>
         have:=(clo_le n).2 _ _ _ hx;exact hC k j d (by omega) (by omega)
      rw[iN h34,iN h34];by_cases h40:byt u i=40
      . rw[iP h40,iP h40]
        exact hC k (i+1) (d+1) (by omega) (by omega)
      rw[iN h40,iN h40];by_cases h41:byt u i=41
      . rw[iP h41,iP h41]
        by_cases h1:d=1
        . rw[iP h1,iP h1]; rfl
        . rw[iN h1,iN h1]
          exact hC k (i+1) (d-1) (by omega) (by omega)
      . rw[iN h41,iN h41]
        exact hC k (i+1) d (by omega) (by omega)
    . rw[qkw n' _ _ _ (by rw[lAq]; omega),qkw (n+1) u i d (by omega)]; rfl
  . by_cases hlt:i<u.length
    . obtain⟨k,rfl⟩:∃k,n'=k+1:=⟨n'-1,by omega⟩
      unfold qkt;rw[iP (lt_sh p u i hlt),iP hlt,qlp,qgc];by_cases h92:byt u i=92
      . rw[iP h92,iP h92]
        exact hQ k (i+2) (by omega) (by omega)
      rw[iN h92,iN h92];by_cases h34:byt u i=34
      . rw[iP h34,iP h34]; rfl
      rw[iN h34,iN h34];by_cases h36:atD u i [36,40]=true
      . rw[iP h36,iP h36,show p.length+i+2=p.length+(i+2)from rfl,hC k (i+2) 1 (by omega) (by omega)]
        cases hx:qhi n u (i+2) 1 with
        | none=>rfl
        | some j=>
         have:=(clo_le n).1 _ _ _ _ hx;exact hQ k j (by omega) (by omega)
      . rw[iN h36,iN h36]
        exact hQ k (i+1) (by omega) (by omega)
    . rw[ql9 n' _ _ (by rw[lAq]; omega),ql9 (n+1) u i (by omega)]; rfl
def shR (m:Nat):Except Flt (List Part×Nat)->Except Flt (List Part×Nat)
 | .ok q=>.ok (q.1,m+q.2)
 | .error e=>.error (e.1,m+e.2)
def shD (m:Nat):Except Flt (Option (Part×Nat))->Except Flt (Option (Part×Nat))
 | .ok none=>.ok none
 | .ok (some q)=>.ok (some (q.1,m+q.2))
 | .error e=>.error (e.1,m+e.2)
end Go.Proofs.YtafbipadnnmccaaDoor.W





namespace Go.Proofs.YtafbipadnnmccaaDoor.W
open Go.Proofs.YtafbipadnnmccaaDoor.Ev Go.RowKit
theorem qmb (S:St) (l:List LE):(S.lg l).log=l:=Eq.trans rfl rfl
theorem lons' (S:St):onS S=S.lg []:=Eq.trans rfl rfl
theorem llg' (S:St) (l m:List LE):(S.lg l).lg m=S.lg m:=Eq.trans rfl rfl
theorem ne3s (n:Nat):qa5 E0 .neq 3 false false (.int .i64 (n:Int)) (.int .i64 (n:Int))=some (.bool false):=by
 rw[binV_ii,intsV_neq]
 congr 2
 simp
theorem ne9s (t:Bs):qa5 E0 .neq 9 false false (sv t) (sv t)=some (.bool false):=by
 rw[neStr];simp
theorem ne4s (b:Bool):qa5 E0 .neq 4 false false (.bool b) (.bool b)=some (.bool false):=by
 cases b<;>kernel_rfl
theorem pairs_same (a b c d e f g h i j k:List LE) (h1:qb0 a b=false) (h2:qb0 c d=false) (h3:qb0 e f=false) (h4:qb0 g h=false) (h5:qb0 i j=false):qaf [[],[],[],[],a,[],[],[],[],b,[],[],[],[],[],[],c,[],[],[],[],d,[],[],[],[],[],[],[],e,[],[],[],[],f,[],[],[],[],[],[],[],g,[],[],[],[],h,[],[],[],[],[],[],[],i,[],[],[],[],j,k,[],[]] [(4,[9]),(16,[21]),(29,[34]),(42,[47]),(55,[60])]=true:=by
 show(bif (bif qb0 a b then true else false)then false else(bif (bif qb0 c d then true else false)then false else(bif (bif qb0 e f then true else false)then false else(bif (bif qb0 g h then true else false)then false else(bif (bif qb0 i j then true else false)then false else true)))))=true;rw[h1,h2,h3,h4,h5];rfl
section
variable {K:FuncId->Option KF} {S U T:St}
def SamOk (K:FuncId->Option KF) (d:Nat) (l:List Part):Prop:=∀(S:St) (v v':V) (rows rows':List (Tr V)) (Q Q':Nat->Prop),S.on=false->RV S v 49 6 rows->PrAt S Q l rows->RV S v' 49 6 rows'->PrAt S Q' l rows'->(ev E0 K d).f 34 [v,v'] S=some (.ret (.bool true),S)
set_option maxRecDepth 100000 in
theorem sam_loop (hL:Lg.KnLoc K) (d n:Nat) (ih:∀w,qd7 w<n->SamOk K d w) (N:Nat) (nk:Ac->St->Rs) (ek:Nat->Ac->St->Rs) {v v':V} {rows rows':List (Tr V)} {Q Q':Nat->Prop} (ho:S.on=false) (hv:RV S v 49 6 rows) (hv':RV S v' 49 6 rows') :
 ∀(l:List Part) (j q:Nat) (rest rest':List (Tr V)),rows.drop j=rest->PrAt S Q l rest->rows'.drop j=rest'->PrAt S Q' l rest'->qd7 l<=n->l.length<q->
 L34_10 (ev E0 K d) N nk ek q v v' (.int .i64 (j:Int)) S=ek 0 (fr 81 []) S
 | l,j,0,rest,rest',_,_,_,_,_,hq=>absurd hq (Nat.not_lt_zero _)
 | [],j,q+1,rest,rest',hr,hp,hr',hp',hn,hq=>by
  simp only[PrAt]at hp;rw[hp]at hr;have:=qem hr;rw[L34_10_eq,hv.len,b_s];dsimp only;rw[qiy,dF (by omega),b_s,i_b,c_f]
 | .mk k t o qd w::l,j,q+1,rest,rest',hr,hp,hr',hp',hn,hq=>by
  simp only[PrAt]at hp hp';obtain⟨c,rs,rfl,hc,hpt⟩:=hp;obtain⟨c',rs',rfl,hc',hpt'⟩:=hp';simp only[PtAt]at hc hc';obtain⟨u,ru,rfl,hu,hw,hb⟩:=hc;obtain⟨u',ru',rfl,hu',hw',hb'⟩:=hc';obtain⟨hlt,e1,e2,_⟩:=qfo hr;obtain⟨hlt',e1',e2',_⟩:=qfo hr';obtain⟨r,hr1,hr2,hr3,hr4⟩:=hv.at hlt;obtain⟨r',hr1',hr2',hr3',hr4'⟩:=hv'.at hlt';have hg:rows[j]?=some (qds k t o qd u):=by rw[List.getElem?_eq_getElem hlt,e1]
  have hg':rows'[j]?=some (qds k t o qd u'):=by rw[List.getElem?_eq_getElem hlt',e1']
  have f0:∀i,faP i false 1 (.ptr r (j*6))=some (.ptr r (j*6+i)):=fun i=>faPg i 0 _ false r;have f0':∀i,faP i false 1 (.ptr r' (j*6))=some (.ptr r' (j*6+i)):=fun i=>faPg i 0 _ false r';have a0:=fun L=>qb5 ho (qcy ho hr3 hg (by decide) (rowP0 k t o qd u)) L;have a1:=fun L=>qb5 ho (qcy ho hr3 hg (by decide) (rowP1 k t o qd u)) L;have a2:=fun L=>qb5 ho (qcy ho hr3 hg (by decide) (rowP2 k t o qd u)) L;have a3:=fun L=>qb5 ho (qcy ho hr3 hg (by decide) (rowP3 k t o qd u)) L;have a4:=fun L=>qb5 ho (qcy ho hr3 hg (by decide) (rowP4 k t o qd u)) L;have b0:=fun L=>qb5 ho (qcy ho hr3' hg' (by decide) (rowP0 k t o qd u')) L;have b1:=fun L=>qb5 ho (qcy ho hr3' hg' (by decide) (rowP1 k t o qd u')) L;have b2:=fun L=>qb5 ho (qcy ho hr3' hg' (by decide) (rowP2 k t o qd u')) L;have b3:=fun L=>qb5 ho (qcy ho hr3' hg' (by decide) (rowP3 k t o qd u')) L;have b4:=fun L=>qb5 ho (qcy ho hr3' hg' (by decide) (rowP4 k t o qd u')) L
  have hd':qd7 w<n:=by
   simp only[qd7,depP]at hn;omega
  have hdl:qd7 l<=n:=by
   simp only[qd7]at hn;omega
  have hj:j<9223372036854770000:=by
   have:=hr3.fit;unfold big at this;omega
  obtain⟨L,hs⟩:=Lg.ev_lg hL (ih w hd' S u u' ru ru' Q Q' ho hu hw hu' hw') [];have hlp:=sam_loop hL d n ih N nk ek ho hv hv' l (j+1) q rs rs' e2 hpt e2' hpt' hdl (by simp only[List.length_cons]at hq; omega);rw[L34_10_eq,hv.len,b_s];dsimp only;rw[qiy,dT hlt,b_s,i_b,c_t];simp only[hr2,hr2',b_s,f0,f0',lons',llg',a0,a1,a2,a3,a4,b0,b1,b2,b3,b4,ne3s,ne9s,ne4s,g_f,c_t,c_f,p_b,nF,qmb];rw[hs,qc0];simp only[b_s,c_t,c_f,u_not,Bool.not_true,p_b,qmb];rw[qdd (pairs_same _ _ _ _ _ _ _ _ _ _ _ (qan _ _ _ _ _ _ _ (.inl rfl)) (qan _ _ _ _ _ _ _ (.inl rfl)) (qan _ _ _ _ _ _ _ (.inl rfl)) (qan _ _ _ _ _ _ _ (.inl rfl)) (qan _ _ _ _ _ _ _ (.inl rfl)))];rw[llg',qci ho,i_b,c_f,qeh (by omega),b_s,hlp]
theorem sam_run (hK:RefL K) (hL:Lg.KnLoc K) (m:Nat):∀(n:Nat) (l:List Part),qd7 l<=n->SamOk K (m+n+1) l
 | n,l,hn=>by
  intro S v v' rows rows' Q Q' ho hv hp hv' hp'
  have ih:∀w,qd7 w<n->SamOk K (m+n) w:=fun w hw=>by
   obtain⟨n',rfl⟩:∃n',n=n'+1:=⟨n-1,by omega⟩
   exact sam_run hK hL m n' w (by omega)
  have hlq:l.length<qa3:=by
   have h1:=hp.len;rcases hv with⟨h,_⟩|⟨r,h2,_,_,_⟩
   . rw[h]at h1
     simp at h1;unfold qa3;omega
   . have:=h2.fit
     unfold big at this;unfold qa3;omega
  refine rv34 hK ?_;show F34 (ev E0 K (m+n)) qa3 v v' S=_;rw[F34_eq,hv.len,b_s];dsimp only;rw[hv'.len,b_s];dsimp only;rw[hp.len,hp'.len,ne3s,b_s,i_b,c_f,show(V.int .i64 0)=.int .i64 ((0:Nat):Int)from rfl,sam_loop hL (m+n) n ih qa3 _ _ ho hv hv' l 0 qa3 rows rows' rfl hp rfl hp' hn hlq,exB_same,R34_7_eq]
end
end Go.Proofs.YtafbipadnnmccaaDoor.W
namespace Go.Proofs.YtafbipadnnmccaaDoor.W
open Go.Proofs.YtafbipadnnmccaaDoor.Ev
theorem depL_app (a b:List Part):qd7 (a++b)=max (qd7 a) (qd7 b):=by
 induction a with
 | nil=>rw[List.nil_append,qd7]; omega
 | cons p l ih=>rw[List.cons_append,qd7,qd7,ih]; omega
theorem depL_one (p:Part):qd7 [p]=depP p:=by rw[qd7,qd7]; omega
theorem depL_leaf (k:Nat) (t o:Bs) (q:Bool):qd7 [.mk k t o q []]=1:=by rw[depL_one,depP,qd7]
theorem dep_flu (w:Nat) (out:List Part) (text:Bs) {D:Nat} (h:qd7 out<=D) (hD:1<=D):qd7 (qkl w out text)<=D:=by
 unfold qkl;split
 . exact h
 . rw[depL_app,depL_leaf]; omega
theorem pars_dep:∀n,(∀s w deep i out text l j,qaq n s w deep i out text=.ok (l,j)->deep<=20->qd7 out<=22-deep->qd7 l<=22-deep)/\(∀s w deep i p j,qjh n s w deep i=.ok (some (p,j))->deep<=20->depP p<=22-deep)
 | 0=>⟨fun s w deep i out text l j h=>by(unfold qaq at h; cases h),fun s w deep i p j h=>by(unfold qjh at h; cases h)⟩
 | n+1=>by
  obtain⟨hP,hD⟩:=pars_dep n;refine⟨fun s w deep i out text l j h hd ho=>?_,fun s w deep i p j h hd=>?_⟩
  . have hf:=dep_flu w out text ho (by omega)
    have leaf:∀(o:List Part),qd7 o<=22-deep->∀(p:Part),depP p<=22-deep->qd7 (o++[p])<=22-deep:=fun o h p hp=>by rw[depL_app,depL_one]; omega
    unfold qaq at h;split at h
    . split at h
      . exact hP _ _ _ _ _ _ _ _ h hd ho
      . split at h
        . split at h
          . cases h
          . split at h
            . exact hP _ _ _ _ _ _ _ _ h hd ho
            . exact hP _ _ _ _ _ _ _ _ h hd (leaf _ hf _ (by rw[depP,qd7]; omega))
        . split at h
          . split at h
            . cases h
            . exact hP _ _ _ _ _ _ _ _ h hd ho
            . rename_i p k hk
              exact hP _ _ _ _ _ _ _ _ h hd (leaf _ hf _ (hD _ _ _ _ _ _ hk hd))
          . split at h
            . cases h
            . split at h
              . split at h
                . cases h
                . exact hP _ _ _ _ _ _ _ _ h hd (leaf _ hf _ (by rw[depP,qd7]; omega))
              . split at h
                . split at h
                  . cases h
                  . rename_i l' k hk
                    have h1:=hP _ _ _ _ _ _ _ _ hk hd (by rw[qd7]; omega);split at h
                    . refine hP _ _ _ _ _ _ _ _ h hd ?_
                      rw[depL_app];split
                      . rw[depL_leaf]; omega
                      . omega
                    . cases h
                . exact hP _ _ _ _ _ _ _ _ h hd ho
    . cases h
      exact hf
  . unfold qjh at h
    split at h
    . cases h
    . split at h
      . split at h
        . cases h
        . cases h
          rw[depP,qd7]; omega
      . split at h
        . split at h
          . cases h
          . rename_i hdp
            split at h
            . cases h
              rw[depP,qd7]; omega
            . dsimp only at h
              split at h
              . cases h
              . split at h
                . cases h
                  rw[depP,qd7]; omega
                . split at h
                  . cases h
                  . split at h
                    . cases h
                    . rename_i l k hk
                      have h2:=hP _ _ _ _ _ _ _ _ hk (by omega) (by rw[qd7]; omega);split at h
                      . cases h
                        rw[depP]; omega
                      . cases h
        . dsimp only at h
          split at h
          . cases h
          . cases h
            rw[depP,qd7]; omega
def DepT (toks:List Tok):Prop:=∀t∈toks,qd7 t.parts<=22
theorem DepT.push {toks:List Tok} (h:DepT toks) {t:Tok} (ht:qd7 t.parts<=22):DepT (toks++[t]):=fun x hx=>by
 rcases List.mem_append.1 hx with hx|hx
 . exact h x hx
 . cases List.mem_singleton.1 hx; exact ht
theorem DepT.set {toks:List Tok} (h:DepT toks) (i:Nat) {t:Tok} (ht:qd7 t.parts<=22):DepT (toks.set i t):=fun x hx=>by
 rcases List.mem_or_eq_of_mem_set hx with hx|rfl
 . exact h x hx
 . exact ht
theorem docs_dep:∀{s:Bs} {ws:List (Nat×Bs)} {i j:Nat} {toks tk:List Tok},qcz s ws i toks=.ok (tk,j)->DepT toks->(∀w∈ws,w.1<toks.length)->DepT tk
 | s,[],i,j,toks,tk,h,ht,hw=>by
  unfold qcz at h;cases h;exact ht
 | s,w::ws,i,j,toks,tk,h,ht,hw=>by
  rw[qc2]at h;split at h
  . cases h
  . rename_i t j' hq
    have hwl:=hw w (List.mem_cons_self ..)
    have hx:qd7 (toks.getD w.1 ⟨0,[],[],false,0⟩).parts<=22:=by
     refine ht _ ?_;rw[List.getD_eq_getElem?_getD,List.getElem?_eq_getElem hwl];exact List.getElem_mem hwl
    have hd:DepT t/\t.length=toks.length:=by
     unfold qej at hq;split at hq
     . cases hq
     . dsimp only at hq
       split at hq
       . cases hq
         exact⟨ht.set _ hx,List.length_set ..⟩
       . split at hq
         . cases hq
         . rename_i l jj hp
           cases hq;exact⟨ht.set _ ((pars_dep _).1 _ _ _ _ _ _ _ _ hp (by omega) (by rw[qd7]; omega)),List.length_set ..⟩
    exact docs_dep h hd.1 (fun w' hw'=>by rw[hd.2]; exact hw w' (mO _ hw'))
theorem step_dep {s:Bs} {i:Nat} {toks:List Tok} {waits:List (Nat×Bs)} {q:Nat×List Tok×List (Nat×Bs)} (h:qdv s i toks waits=.ok q) (ht:DepT toks) (hw:∀w∈waits,w.1<toks.length):DepT q.2.1:=by
 unfold qdv linD remD mrkD wrdD at h;split at h
 . rename_i r hl
   split at hl
   . cases hl
     split at h
     . cases h
     . rename_i q2 hd
       cases h;obtain⟨t,j⟩:=q2;exact docs_dep hd (ht.push (t:=⟨2,[],[],false,i⟩) (by show qd7 []<=22; rw[qd7]; omega)) (fun w hw'=>by have:=hw w hw'; rw[lAq]; omega)
   . cases hl
 . split at h
   . rename_i r hl
     split at hl
     . cases hl
       cases h;exact ht
     . cases hl
   . split at h
     . rename_i r hl
       split at hl
       . cases hl
         cases h;exact ht.push (t:=⟨1,_,[],false,i⟩) (by show qd7 []<=22; rw[qd7]; omega)
       . split at hl
         . cases hl
           cases h
         . cases hl
     . split at h
       . cases h
       . rename_i l j hp
         have hdl:=(pars_dep _).1 _ _ _ _ _ _ _ _ hp (by omega) (by rw[qd7]; omega);split at h
         . split at h
           . cases h
           . cases h
             have:=(ht.push (t:=⟨0,[],l,false,i⟩) hdl).push (t:=⟨3,[],[],l.any fun p=>p.kind==1,i⟩) (by show qd7 []<=22; rw[qd7]; omega)
             rwa [List.append_assoc]at this
         . cases h
           exact ht.push (t:=⟨0,[],l,false,i⟩) hdl
theorem lexD_dep:∀(n:Nat) {s:Bs} {i:Nat} {toks tk:List Tok} {waits:List (Nat×Bs)},qi8 n s i toks waits=.ok tk->Inv s i toks waits->i<=s.length->DepT toks->DepT tk
 | 0,s,i,toks,tk,waits,h,hI,hi,ht=>by unfold qi8 at h; cases h
 | n+1,s,i,toks,tk,waits,h,hI,hi,ht=>by
  rw[qbr]at h;obtain⟨i1,i2,i3⟩:=qex (s.length+1) s i hi (by omega);generalize qek (s.length+1) s i=i' at *;have hIU:Inv s i' toks waits:=⟨by have:=hI.t; omega,by have:=hI.w; omega,hI.ix,hI.tx⟩
  split at h
  . rename_i hlt
    cases hst:qdv s i' toks waits with
    | error e=>rw[hst]at h; cases h
    | ok r=>
     rw[hst]at h;obtain⟨j1,j2,j3⟩:=qgy hIU hlt (i3 hlt).1 (i3 hlt).2 hst;exact lexD_dep n h j3 j2 (step_dep hst ht hI.ix)
  . split at h
    . cases h; exact ht
    . cases h
theorem lexA_dep {s:Bs} {tk:List Tok} (h:qfk s=.ok tk):DepT tk:=by
 unfold qfk at h;split at h
 . cases h
 . exact lexD_dep _ h ⟨by simp,by simp,fun w hw=>by simp at hw,fun x hx=>by simp at hx⟩ (Nat.zero_le _) (fun t ht=>by simp at ht)
end Go.Proofs.YtafbipadnnmccaaDoor.W

namespace Go.Proofs.YtafbipadnnmccaaDoor.W
open Go.Proofs.YtafbipadnnmccaaDoor.Ev
theorem sh_pars2 (p u:Bs):∀n,(∀n' w deep i out text,i<=u.length->2*(u.length-i)+1<=n->2*(u.length-i)+1<=n'->qaq n' (p++u) w deep (p.length+i) out text=shR p.length (qaq n u w deep i out text))/\(∀n' w deep i,i<u.length->2*(u.length-i)<=n->2*(u.length-i)<=n'->qjh n' (p++u) w deep (p.length+i)=shD p.length (qjh n u w deep i))
 | 0=>⟨fun n' w deep i out text hi hn hn'=>by omega,fun n' w deep i hi hn hn'=>by omega⟩
 | n+1=>by
  obtain⟨hP,hD⟩:=sh_pars2 p u n;refine⟨fun n' w deep i out text hi hn hn'=>?_,fun n' w deep i hi hn hn'=>?_⟩
  . obtain⟨n',rfl⟩:∃k,n'=k+1:=⟨n'-1,by omega⟩
    unfold qaq;rw[qgc,show p.length+i+1=p.length+(i+1)from rfl,idxD_sh];by_cases hc:i<u.length/\qkk w (byt u i)=false
    . rw[iP (show p.length+i<(p++u).length/\qkk w (byt (p++u) (p.length+i))=false from⟨lt_sh p u i hc.1,by rw[qlp]; exact hc.2⟩),iP hc,qlp,qlp]
      have hlt:=hc.1;by_cases h1:atD u i [92,10]=true
      . have:=qb2 h1 (by decide)
        simp only[List.length_cons,List.length_nil]at this;rw[iP h1,iP h1];exact hP n' w deep (i+2) out text (by omega) (by omega) (by omega)
      rw[iN h1,iN h1];by_cases h92:byt u i=92
      . rw[iP h92,iP h92]
        by_cases hle:u.length<=i+1
        . rw[iP hle,iP (show(p++u).length<=p.length+(i+1) by rw[lAq]; omega)]; rfl
        . rw[iN hle,iN (show ¬(p++u).length<=p.length+(i+1) by rw[lAq]; omega)]
          by_cases hw:inD w=true
          . rw[iP hw,iP hw]
            exact hP n' w deep (i+2) out _ (by omega) (by omega) (by omega)
          . rw[iN hw,iN hw]
            exact hP n' w deep (i+2) _ [] (by omega) (by omega) (by omega)
      rw[iN h92,iN h92];by_cases h36:byt u i=36
      . rw[iP h36,iP h36,hD n' w deep i hlt (by omega) (by omega)]
        cases hx:qjh n u w deep i with
        | error e=>rfl
        | ok r=>
         cases r with
         | none=>exact hP n' w deep (i+1) out _ (by omega) (by omega) (by omega)
         | some q=>
          have:=(qee n).2 _ _ _ _ _ _ hx;exact hP n' w deep q.2 _ [] (by omega) (by omega) (by omega)
      rw[iN h36,iN h36];by_cases hb:(decide (byt u i=96)||(byt u i==34&&w==4))=true
      . rw[iP hb,iP hb]; rfl
      rw[iN hb,iN hb];by_cases h39:(decide (byt u i=39)&&!inD w)=true
      . rw[iP h39,iP h39]
        cases hx:qfj u (i+1) 39 with
        | none=>rfl
        | some k=>
         have hk:=qeb hx
         have e:((p++u).drop (p.length+(i+1))).take (p.length+k-(p.length+(i+1)))=(u.drop (i+1)).take (k-(i+1)):=by
          rw[qi3]
          congr 1
          omega
         show qaq n' (p++u) w deep (p.length+k+1) (qkl w out text++[.mk 1 (((p++u).drop (p.length+(i+1))).take (p.length+k-(p.length+(i+1)))) [] false []]) []=_;rw[e];exact hP n' w deep (k+1) _ [] (by omega) (by omega) (by omega)
      rw[iN h39,iN h39];by_cases h34:(decide (byt u i=34)&&!inD w)=true
      . rw[iP h34,iP h34,hP n' 1 deep (i+1) [] [] (by omega) (by omega) (by omega)]
        cases hx:qaq n u 1 deep (i+1) [] []with
        | error e=>rfl
        | ok q=>
         obtain⟨l,j⟩:=q;have hj:=(qee n).1 _ _ _ _ _ _ _ _ hx (by omega);show(if atD (p++u) (p.length+j) [34]=true then qaq n' (p++u) w deep (p.length+j+1) (qkl w out text++if l.isEmpty=true then [.mk 1 [] [] true []]else l) []else .error (19,p.length+i))=shR p.length (if atD u j [34]=true then qaq n u w deep (j+1) (qkl w out text++if l.isEmpty=true then [.mk 1 [] [] true []]else l) []else .error (19,i));rw[qgc];by_cases ha:atD u j [34]=true
         . have:=qb2 ha (by decide)
           simp only[List.length_cons,List.length_nil]at this;rw[iP ha,iP ha];exact hP n' w deep (j+1) _ [] (by omega) (by omega) (by omega)
         . rw[iN ha,iN ha]; rfl
      . rw[iN h34,iN h34]
        exact hP n' w deep (i+1) out _ (by omega) (by omega) (by omega)
    . rw[iN hc,iN (show ¬(p.length+i<(p++u).length/\qkk w (byt (p++u) (p.length+i))=false) by rw[qlp,lAq]; exact fun h=>hc ⟨by omega,h.2⟩)]; rfl
  . obtain⟨n',rfl⟩:∃k,n'=k+1:=⟨n'-1,by omega⟩
    unfold qjh;rw[qgc,qgc,qgc];by_cases h1:atD u i [36,40,40]=true
    . rw[iP h1,iP h1]; rfl
    rw[iN h1,iN h1];by_cases h2:atD u i [36,40]=true
    . have:=qb2 h2 (by decide)
      simp only[List.length_cons,List.length_nil]at this;rw[iP h2,iP h2,show p.length+i+2=p.length+(i+2)from rfl,(sh_clo p u (2*u.length)).1 (2*(p++u).length) (i+2) 1 (by omega) (by rw[lAq]; omega)];cases hx:qhi (2*u.length) u (i+2) 1 with
      | none=>rfl
      | some j=>
       have hj:=(clo_le _).1 _ _ _ _ hx;show Except.ok (some (Part.mk 3 (((p++u).drop (p.length+(i+2))).take (p.length+j-1-(p.length+(i+2)))) [] (inD w) [],p.length+j))=Except.ok (some (Part.mk 3 ((u.drop (i+2)).take (j-1-(i+2))) [] (inD w) [],p.length+j));rw[qi3,show p.length+j-1-(p.length+(i+2))=j-1-(i+2) by omega]
    rw[iN h2,iN h2];by_cases h3:atD u i [36,123]=true
    . have h3l:=qb2 h3 (by decide)
      simp only[List.length_cons,List.length_nil]at h3l;rw[iP h3,iP h3];by_cases hd:20<=deep
      . rw[iP hd,iP hd]; rfl
      rw[iN hd,iN hd];rw[show p.length+i+2=p.length+(i+2)from rfl,show p.length+i+3=p.length+(i+3)from rfl,qgc,qi3,qi3,show p.length+(i+3)+qbs (u.drop (i+3)) [63,64,42]=p.length+(i+3+qbs (u.drop (i+3)) [63,64,42]) by omega,qgc];by_cases hl:(atD u (i+2) [35]&&qbs (u.drop (i+3)) [63,64,42] != 0&&atD u (i+3+qbs (u.drop (i+3)) [63,64,42]) [125])=true
      . rw[iP hl,iP hl]; rfl
      rw[iN hl,iN hl];dsimp only;rw[show p.length+(i+2)+qbs (u.drop (i+2)) [63,35,64,42]=p.length+(i+2+qbs (u.drop (i+2)) [63,35,64,42]) by omega];by_cases hm:qbs (u.drop (i+2)) [63,35,64,42]=0
      . rw[iP hm,iP hm]; rfl
      rw[iN hm,iN hm,qgc];by_cases hb:atD u (i+2+qbs (u.drop (i+2)) [63,35,64,42]) [125]=true
      . rw[iP hb,iP hb]; rfl
      rw[iN hb,iN hb];rw[show(fun o=>atD (p++u) (p.length+(i+2+qbs (u.drop (i+2)) [63,35,64,42])) o)=fun o=>atD u (i+2+qbs (u.drop (i+2)) [63,35,64,42]) o from funext fun o=>qgc ..];cases hf:opsT.find? fun o=>atD u (i+2+qbs (u.drop (i+2)) [63,35,64,42]) o with
      | none=>rfl
      | some o=>
       have hfa:=find_at hf;dsimp only;rw[show p.length+(i+2+qbs (u.drop (i+2)) [63,35,64,42])+o.length=p.length+(i+2+qbs (u.drop (i+2)) [63,35,64,42]+o.length) by omega,hP n' (if inD w then 4 else 3) (deep+1) _ [] [] hfa.2.1 (by omega) (by omega)];cases hx:qaq n u (if inD w then 4 else 3) (deep+1) (i+2+qbs (u.drop (i+2)) [63,35,64,42]+o.length) [] []with
       | error e=>rfl
       | ok q=>
        obtain⟨l,j⟩:=q;show(if atD (p++u) (p.length+j) [125]=true then Except.ok (some (Part.mk 2 ((u.drop (i+2)).take (qbs (u.drop (i+2)) [63,35,64,42])) o (inD w) l,p.length+j+1))else .error (19,p.length+i))=shD p.length (if atD u j [125]=true then Except.ok (some (Part.mk 2 ((u.drop (i+2)).take (qbs (u.drop (i+2)) [63,35,64,42])) o (inD w) l,j+1))else .error (19,i));rw[qgc];by_cases ha:atD u j [125]=true
        . rw[iP ha,iP ha]; rfl
        . rw[iN ha,iN ha]; rfl
    . rw[iN h3,iN h3]
      dsimp only;rw[show p.length+i+1=p.length+(i+1)from rfl,qi3];by_cases hm:qbs (u.drop (i+1)) [63,35,64,42]=0
      . rw[iP hm,iP hm]; rfl
      . rw[iN hm,iN hm]
        show Except.ok (some (_,p.length+(i+1)+_))=Except.ok (some (_,p.length+(i+1+_)));rw[Nat.add_assoc p.length (i+1)]
theorem ski_end (n:Nat) (s:Bs) (i:Nat) (h:s.length<=i):qek n s i=i:=by
 cases n with
 | zero=>rfl
 | succ n=>
  unfold qek
  have hb:byt s i=0:=by
   unfold byt;rw[List.getD_eq_getElem?_getD,List.getElem?_eq_none h];rfl
  have ha:atD s i [92,10]=false:=by
   unfold atD;rw[List.drop_eq_nil_of_le h];rfl
  rw[iN (by omega),iN (by rw[hb]; decide),ha,iN (by decide)]
theorem doc_none (n:Nat) (s last:Bs) (i:Nat) (h:s.length<=i):docD n s last i=none:=by
 cases n with
 | zero=>rfl
 | succ n=>unfold docD; rw[iN (by omega)]
section
variable {s x:Bs}
theorem qk1 {i:Nat} (h:i<s.length):byt (s++10::x) i=byt s i:=by
 unfold byt;rw[List.getD_eq_getElem?_getD,List.getD_eq_getElem?_getD,List.getElem?_append_left h]
theorem byt_nl:byt (s++10::x) s.length=10:=by
 unfold byt;rw[List.getD_eq_getElem?_getD,List.getElem?_append_right (lR _),Nat.sub_self];rfl
theorem qcr:(s++10::x).length=s.length+1+x.length:=by rw[lAq,List.length_cons]; omega
theorem lt_ex {i:Nat} (h:i<s.length):i<(s++10::x).length:=by rw[qcr]; omega
theorem qfp {i:Nat} (h:i<=s.length):(s++10::x).drop i=s.drop i++10::x:=List.drop_append_of_le_length h
theorem qgz {i n:Nat} (h:i+n<=s.length):((s++10::x).drop i).take n=(s.drop i).take n:=by
 rw[qfp (by omega),List.take_append_of_le_length (by rw[List.length_drop]; omega)]
theorem takek_ex {k:Nat} (h:k<=s.length):(s++10::x).take k=s.take k:=List.take_append_of_le_length h
theorem qe8 {i:Nat} {t:Bs} (h10:(10:UInt8)∉t) (hi:i<=s.length):atD (s++10::x) i t=atD s i t:=by
 unfold atD;rw[qfp hi];generalize s.drop i=u;by_cases hl:t.length<=u.length
 . rw[List.take_append_of_le_length hl]
 . have h1:((u++10::x).take t.length==t)=false:=by
    rw[beq_eq_false_iff_ne];intro h;refine h10 ?_;rw[<- h,List.take_append];refine List.mem_append_right _ ?_;obtain⟨k,hk⟩:∃k,t.length-u.length=k+1:=⟨t.length-u.length-1,by omega⟩
    rw[hk,List.take_succ_cons];exact List.mem_cons_self ..
   have h2:(u.take t.length==t)=false:=by
    rw[beq_eq_false_iff_ne];intro h;have:=congrArg List.length h;rw[List.length_take]at this;omega
   rw[h1,h2]
theorem atD_ex2 {i:Nat} {t:Bs} (hi:i+t.length<=s.length):atD (s++10::x) i t=atD s i t:=by
 unfold atD;rw[qgz hi]
theorem nam_ex:∀(u:Bs) (n:Nat),namD (u++10::x) n=namD u n
 | [],n=>by
  show namD (10::x) n=n;unfold namD;rw[show letD 10=false from rfl,show digD 10=false from rfl,Bool.and_false,Bool.or_false,iN (by simp)]
 | c::u,n=>by
  rw[List.cons_append];unfold namD;rw[nam_ex u (n+1)]
theorem par_ex {u m:Bs} (h10:m.contains 10=false):qbs (u++10::x) m=qbs u m:=by
 unfold qbs;rw[nam_ex];cases u with
 | nil=>
  rw[List.nil_append];show(if namD [] 0=0 then(if(digD 10||m.contains 10)=true then 1 else 0)else namD [] 0)=_;rw[h10,show digD 10=false from rfl];rfl
 | cons c u=>rfl
theorem idx_ex {i k:Nat} {c:UInt8} (hi:i<=s.length) (h:qfj s i c=some k):qfj (s++10::x) i c=some k:=by
 unfold qfj at *;rw[qfp hi,List.findIdx?_append];cases hf:(s.drop i).findIdx? (·==c)with
 | none=>rw[hf]at h; cases h
 | some j=>rw[hf]at h; exact h
theorem idx_nl {i:Nat} (hi:i<=s.length):(qfj (s++10::x) i 10).getD (s++10::x).length=(qfj s i 10).getD s.length:=by
 cases h:qfj s i 10 with
 | some k=>rw[idx_ex hi h]; rfl
 | none=>
  unfold qfj at *;rw[qfp hi,List.findIdx?_append];cases hf:(s.drop i).findIdx? (·==10)with
  | some j=>rw[hf]at h; cases h
  | none=>
   rw[List.findIdx?_cons];simp only[show((10:UInt8)==10)=true from rfl,↓reduceIte,Option.map_some,Option.none_or,Option.getD_some,Option.getD_none,List.length_drop];omega
theorem qjl {α:Type} {f g:α->Bool}:∀{l:List α},(∀a∈l,f a=g a)->l.find? f=l.find? g
 | [],_=>rfl
 | a::l,h=>by
  rw[List.find?_cons,List.find?_cons,h a (List.mem_cons_self ..),qjl fun b hb=>h b (mO _ hb)]
theorem clo_ex:∀n,(∀n' i d j,n<=n'->qhi n s i d=some j->qhi n' (s++10::x) i d=some j)/\(∀n' i j,n<=n'->qkt n s i=some j->qkt n' (s++10::x) i=some j)
 | 0=>⟨fun n' i d j _ h=>(by unfold qhi at h; cases h),fun n' i j _ h=>by unfold qkt at h; cases h⟩
 | n+1=>by
  obtain⟨hC,hQ⟩:=clo_ex n;refine⟨fun n' i d j hn h=>?_,fun n' i j hn h=>?_⟩
  . obtain⟨k,rfl⟩:∃k,n'=k+1:=⟨n'-1,by omega⟩
    unfold qhi at h ⊢;by_cases hlt:i<s.length
    . rw[iP hlt]at h
      rw[iP (lt_ex hlt),qk1 hlt];by_cases h92:byt s i=92
      . rw[iP h92]at h ⊢
        exact hC k _ _ _ (by omega) h
      rw[iN h92]at h ⊢;by_cases h39:byt s i=39
      . rw[iP h39]at h ⊢
        cases hx:qfj s (i+1) 39 with
        | none=>rw[hx]at h; cases h
        | some j'=>
         rw[hx]at h;rw[idx_ex (by omega) hx];exact hC k _ _ _ (by omega) h
      rw[iN h39]at h ⊢;by_cases h34:byt s i=34
      . rw[iP h34]at h ⊢
        cases hx:qkt n s (i+1)with
        | none=>rw[hx]at h; cases h
        | some j'=>
         rw[hx]at h;rw[hQ k _ _ (by omega) hx];exact hC k _ _ _ (by omega) h
      rw[iN h34]at h ⊢;by_cases h40:byt s i=40
      . rw[iP h40]at h ⊢
        exact hC k _ _ _ (by omega) h
      rw[iN h40]at h ⊢;by_cases h41:byt s i=41
      . rw[iP h41]at h ⊢
        by_cases h1:d=1
        . rw[iP h1]at h ⊢
          exact h
        . rw[iN h1]at h ⊢
          exact hC k _ _ _ (by omega) h
      . rw[iN h41]at h ⊢
        exact hC k _ _ _ (by omega) h
    . rw[iN hlt]at h
      cases h
  . obtain⟨k,rfl⟩:∃k,n'=k+1:=⟨n'-1,by omega⟩
    unfold qkt at h ⊢;by_cases hlt:i<s.length
    . rw[iP hlt]at h
      rw[iP (lt_ex hlt),qk1 hlt,qe8 (by decide) (Nat.le_of_lt hlt)];by_cases h92:byt s i=92
      . rw[iP h92]at h ⊢
        exact hQ k _ _ (by omega) h
      rw[iN h92]at h ⊢;by_cases h34:byt s i=34
      . rw[iP h34]at h ⊢
        exact h
      rw[iN h34]at h ⊢;by_cases h36:atD s i [36,40]=true
      . rw[iP h36]at h ⊢
        cases hx:qhi n s (i+2) 1 with
        | none=>rw[hx]at h; cases h
        | some j'=>
         rw[hx]at h;rw[hC k _ _ _ (by omega) hx];exact hQ k _ _ (by omega) h
      . rw[iN h36]at h ⊢
        exact hQ k _ _ (by omega) h
    . rw[iN hlt]at h
      cases h
theorem ops_10:∀o∈opsT,(10:UInt8)∉o:=by decide
theorem mar_10:∀o∈marT,(10:UInt8)∉o:=by decide
theorem at92_ex {i:Nat} (hi:i<s.length) (h:¬(byt s i=92/\s.length<=i+1)):atD (s++10::x) i [92,10]=atD s i [92,10]:=by
 by_cases hl:i+1<s.length
 . exact atD_ex2 (by simp only[List.length_cons,List.length_nil]; omega)
 . have h92:byt s i≠92:=fun hb=>h ⟨hb,by omega⟩
   have h1:atD s i [92,10]=false:=by
    cases ha:atD s i [92,10]with
    | false=>rfl
    | true=>
     have:=qb2 ha (by decide);simp only[List.length_cons,List.length_nil]at this;omega
   have h2:atD (s++10::x) i [92,10]=false:=by
    unfold atD;rw[qfp (Nat.le_of_lt hi),List.drop_eq_getElem_cons hi,beq_eq_false_iff_ne];intro h;refine h92 ?_;have h3:=congrArg (fun l=>l.getD 0 (0:UInt8)) h;have h4:s[i]=92:=h3;unfold byt;rw[List.getD_eq_getElem?_getD,List.getElem?_eq_getElem hi];exact h4
   rw[h1,h2]
theorem pars_ex:∀n,(∀n' w deep i out text l j,n<=n'->i<=s.length->(j<s.length\/w=0)->qaq n s w deep i out text=.ok (l,j)->qaq n' (s++10::x) w deep i out text=.ok (l,j))/\(∀n' w deep i r,n<=n'->i<s.length->qjh n s w deep i=.ok r->qjh n' (s++10::x) w deep i=.ok r)
 | 0=>⟨fun n' w deep i out text l j _ _ _ h=>(by unfold qaq at h; cases h),fun n' w deep i r _ _ h=>by unfold qjh at h; cases h⟩
 | n+1=>by
  obtain⟨hP,hD⟩:=pars_ex n;obtain⟨lP,lD⟩:=qee n;refine⟨fun n' w deep i out text l j hn hi hj h=>?_,fun n' w deep i r hn hi h=>?_⟩
  . obtain⟨k,rfl⟩:∃k,n'=k+1:=⟨n'-1,by omega⟩
    unfold qaq at h ⊢;by_cases hc:i<s.length/\qkk w (byt s i)=false
    . have hlt:=hc.1
      rw[iP hc]at h;rw[iP (show i<(s++10::x).length/\qkk w (byt (s++10::x) i)=false from⟨lt_ex hlt,by rw[qk1 hlt]; exact hc.2⟩),qk1 hlt]
      have hb:¬(byt s i=92/\s.length<=i+1):=fun hb=>by
       rw[iN (fun ha=>by
        have:=qb2 ha (by decide);simp only[List.length_cons,List.length_nil]at this
        omega),iP hb.1,iP hb.2]at h
       cases h
      rw[at92_ex hlt hb];by_cases h1:atD s i [92,10]=true
      . have:=qb2 h1 (by decide)
        simp only[List.length_cons,List.length_nil]at this;rw[iP h1]at h ⊢;exact hP k _ _ _ _ _ _ _ (by omega) (by omega) hj h
      rw[iN h1]at h ⊢;by_cases h92:byt s i=92
      . have hl:i+1<s.length:=by
         rcases Nat.lt_or_ge (i+1) s.length with hl|hl
         . exact hl
         . exact absurd ⟨h92,hl⟩ hb
        rw[iP h92,iN (by omega)]at h;rw[iP h92,iN (by rw[qcr]; omega),qk1 hl];by_cases hw:inD w=true
        . rw[iP hw]at h ⊢
          exact hP k _ _ _ _ _ _ _ (by omega) (by omega) hj h
        . rw[iN hw]at h ⊢
          exact hP k _ _ _ _ _ _ _ (by omega) (by omega) hj h
      rw[iN h92]at h ⊢;by_cases h36:byt s i=36
      . rw[iP h36]at h ⊢
        cases hx:qjh n s w deep i with
        | error e=>rw[hx]at h; cases h
        | ok r=>
         rw[hx]at h;rw[hD k _ _ _ _ (by omega) hlt hx];cases r with
         | none=>exact hP k _ _ _ _ _ _ _ (by omega) (by omega) hj h
         | some q=>
          have:=lD _ _ _ _ _ _ hx;exact hP k _ _ _ _ _ _ _ (by omega) this.2 hj h
      rw[iN h36]at h ⊢;by_cases hb6:(decide (byt s i=96)||(byt s i==34&&w==4))=true
      . rw[iP hb6]at h
        cases h
      rw[iN hb6]at h ⊢;by_cases h39:(decide (byt s i=39)&&!inD w)=true
      . rw[iP h39]at h ⊢
        cases hx:qfj s (i+1) 39 with
        | none=>rw[hx]at h; cases h
        | some k'=>
         have hk:=qeb hx;rw[hx]at h;rw[idx_ex (by omega) hx];dsimp only at h ⊢;rw[qgz (by omega)];exact hP k _ _ _ _ _ _ _ (by omega) (by omega) hj h
      rw[iN h39]at h ⊢;by_cases h34:(decide (byt s i=34)&&!inD w)=true
      . rw[iP h34]at h ⊢
        cases hx:qaq n s 1 deep (i+1) [] []with
        | error e=>rw[hx]at h; cases h
        | ok q=>
         obtain⟨l',j'⟩:=q;have hj':=lP _ _ _ _ _ _ _ _ hx (by omega);rw[hx]at h;dsimp only at h;by_cases ha:atD s j' [34]=true
         . have hlt':=qb2 ha (by decide)
           simp only[List.length_cons,List.length_nil]at hlt';rw[iP ha]at h;rw[hP k _ _ _ _ _ _ _ (by omega) (by omega) (.inl (by omega)) hx];dsimp only;rw[qe8 (by decide) (by omega),iP ha];exact hP k _ _ _ _ _ _ _ (by omega) (by omega) hj h
         . rw[iN ha]at h
           cases h
      . rw[iN h34]at h ⊢
        exact hP k _ _ _ _ _ _ _ (by omega) (by omega) hj h
    . rw[iN hc]at h
      cases h
      rw[iN (show ¬(i<(s++10::x).length/\qkk w (byt (s++10::x) i)=false)from fun hc'=>by
       rcases Nat.lt_or_ge i s.length with hl|hl
       . rw[qk1 hl]at hc'
         exact hc ⟨hl,hc'.2⟩
       . have hw:w=0:=by omega
         have he:i=s.length:=by omega
         subst hw he;rw[byt_nl]at hc'
         exact absurd hc'.2 (by decide))]
  . obtain⟨k,rfl⟩:∃k,n'=k+1:=⟨n'-1,by omega⟩
    unfold qjh at h ⊢;rw[qe8 (by decide) (Nat.le_of_lt hi),qe8 (by decide) (Nat.le_of_lt hi),qe8 (by decide) (Nat.le_of_lt hi)];by_cases h1:atD s i [36,40,40]=true
    . rw[iP h1]at h
      cases h
    rw[iN h1]at h ⊢;by_cases h2:atD s i [36,40]=true
    . have h2l:=qb2 h2 (by decide)
      simp only[List.length_cons,List.length_nil]at h2l;rw[iP h2]at h ⊢;cases hx:qhi (2*s.length) s (i+2) 1 with
      | none=>rw[hx]at h; cases h
      | some j=>
       have hj:=(clo_le _).1 _ _ _ _ hx;rw[hx]at h;rw[(clo_ex (2*s.length)).1 (2*(s++10::x).length) _ _ _ (by rw[qcr]; omega) hx];dsimp only at h ⊢;rw[qgz (by omega)];exact h
    rw[iN h2]at h ⊢;by_cases h3:atD s i [36,123]=true
    . have h3l:=qb2 h3 (by decide)
      simp only[List.length_cons,List.length_nil]at h3l;rw[iP h3]at h ⊢;by_cases hd:20<=deep
      . rw[iP hd]at h
        cases h
      rw[iN hd]at h ⊢;rw[qe8 (by decide) (show i+2<=s.length by omega),qfp (show i+2<=s.length by omega),par_ex (show([63,35,64,42]:Bs).contains 10=false from rfl)]
      have hlen:(atD s (i+2) [35]&&qbs ((s++10::x).drop (i+3)) [63,64,42] != 0&&atD (s++10::x) (i+3+qbs ((s++10::x).drop (i+3)) [63,64,42]) [125])=(atD s (i+2) [35]&&qbs (s.drop (i+3)) [63,64,42] != 0&&atD s (i+3+qbs (s.drop (i+3)) [63,64,42]) [125])/\(atD s (i+2) [35]=true->qbs ((s++10::x).drop (i+3)) [63,64,42]=qbs (s.drop (i+3)) [63,64,42]):=by
       cases h35:atD s (i+2) [35]with
       | false=>exact⟨rfl,fun h=>by cases h⟩
       | true=>
        have h35l:=qb2 h35 (by decide);simp only[List.length_cons,List.length_nil]at h35l;have hp:qbs ((s++10::x).drop (i+3)) [63,64,42]=qbs (s.drop (i+3)) [63,64,42]:=by rw[qfp (by omega),par_ex (show([63,64,42]:Bs).contains 10=false from rfl)]
        refine⟨?_,fun _=>hp⟩;rw[hp];by_cases hz:qbs (s.drop (i+3)) [63,64,42]=0
        . rw[hz]; rfl
        . have:=par_le s (i+3) [63,64,42] hz
          rw[qe8 (by decide) this]
      rw[hlen.1];by_cases hl:(atD s (i+2) [35]&&qbs (s.drop (i+3)) [63,64,42] != 0&&atD s (i+3+qbs (s.drop (i+3)) [63,64,42]) [125])=true
      . rw[iP hl]at h ⊢
        simp only[bA,bne_iff_ne]at hl;have hz:=par_le s (i+3) [63,64,42] hl.1.2;rw[hlen.2 hl.1.1,qgz (by omega)];exact h
      rw[iN hl]at h ⊢;dsimp only at h ⊢;by_cases hm:qbs (s.drop (i+2)) [63,35,64,42]=0
      . rw[iP hm]at h
        cases h
      have hml:=par_le s (i+2) _ hm;have htk:(s.drop (i+2)++10::x).take (qbs (s.drop (i+2)) [63,35,64,42])=(s.drop (i+2)).take (qbs (s.drop (i+2)) [63,35,64,42]):=List.take_append_of_le_length (by rw[List.length_drop]; omega);rw[iN hm]at h ⊢;rw[qe8 (by decide) hml,htk,qjl (fun o ho=>qe8 (ops_10 o ho) hml)];by_cases hb:atD s (i+2+qbs (s.drop (i+2)) [63,35,64,42]) [125]=true
      . rw[iP hb]at h ⊢
        exact h
      rw[iN hb]at h ⊢;cases hf:opsT.find? fun o=>atD s (i+2+qbs (s.drop (i+2)) [63,35,64,42]) o with
      | none=>rw[hf]at h; cases h
      | some o=>
       have hfa:=find_at hf;rw[hf]at h;dsimp only at h ⊢;cases hx:qaq n s (if inD w then 4 else 3) (deep+1) (i+2+qbs (s.drop (i+2)) [63,35,64,42]+o.length) [] []with
       | error e=>rw[hx]at h; cases h
       | ok q=>
        obtain⟨l',j'⟩:=q;have hj':=lP _ _ _ _ _ _ _ _ hx hfa.2.1;rw[hx]at h;dsimp only at h;by_cases ha:atD s j' [125]=true
        . have hlt':=qb2 ha (by decide)
          simp only[List.length_cons,List.length_nil]at hlt';rw[iP ha]at h;rw[hP k _ _ _ _ _ _ _ (by omega) hfa.2.1 (.inl (by omega)) hx];dsimp only;rw[qe8 (by decide) (by omega),iP ha];exact h
        . rw[iN ha]at h
          cases h
    . rw[iN h3]at h ⊢
      dsimp only at h ⊢;rw[qfp (show i+1<=s.length by omega),par_ex (show([63,35,64,42]:Bs).contains 10=false from rfl)];by_cases hm:qbs (s.drop (i+1)) [63,35,64,42]=0
      . rw[iP hm]at h ⊢
        exact h
      . have hml:=par_le s (i+1) _ hm
        rw[iN hm]at h ⊢;rw[List.take_append_of_le_length (by rw[List.length_drop]; omega)];exact h
end
section
variable {s x:Bs}
theorem qn9 {n:Nat} {a b:UInt8} {u v:Bs} (h:List.take (n+1) (a::u)=b::v):a=b:=by
 rw[List.take_succ_cons]at h;exact(List.cons.inj h).1
theorem dig_ex {i:Nat} (hi:i<s.length):digM (s++10::x) i=digM s i:=by
 unfold digM;rw[qk1 hi,qe8 (by decide) (by omega),qe8 (by decide) (by omega)]
theorem mark_ex {i:Nat} (hi:i<s.length):qhk (s++10::x) i=qhk s i:=by
 rw[qfs,qfs,dig_ex hi,qjl (fun o ho=>qe8 (mar_10 o ho) (show i+(if digM s i then 1 else 0)<=s.length by split<;>omega))]
theorem docD_ex {last:Bs}:∀(n:Nat) (i k j:Nat),docD n s last i=some (k,j)->∃e,e<=1/\(e=1->j=s.length)/\∀(y:Bs) n',n<=n'->docD n' (s++10::y) last i=some (k,j+e)
 | 0,i,k,j,h=>by unfold docD at h; cases h
 | n+1,i,k,j,h=>by
  unfold docD at h;by_cases hlt:i<s.length
  . rw[iP hlt]at h
    dsimp only at h
    have hge:i<=(qfj s i 10).getD s.length/\(qfj s i 10).getD s.length<=s.length:=by
     cases hx:qfj s i 10 with
     | none=>exact⟨Nat.le_of_lt hlt,lR _⟩
     | some k=>exact⟨(qeb hx).1,Nat.le_of_lt (qeb hx).2⟩
    by_cases hb:((s.drop i).take ((qfj s i 10).getD s.length-i)==last)=true
    . rw[iP hb]at h
      cases h;refine⟨if(qfj s i 10).getD s.length=s.length then 1 else 0,by split<;>omega,fun he=>by(split at he<;>omega),fun y n' hn=>?_⟩;obtain⟨k,rfl⟩:∃k,n'=k+1:=⟨n'-1,by omega⟩
      unfold docD;rw[iP (lt_ex hlt)];dsimp only;rw[idx_nl (Nat.le_of_lt hlt),qgz (by omega),iP hb,qcr]
      congr 2
      split<;>omega
    . rw[iN hb]at h
      have hlt2:(qfj s i 10).getD s.length<s.length:=by
       rcases Nat.lt_or_ge ((qfj s i 10).getD s.length) s.length with hl|hl
       . exact hl
       . rw[doc_none n s last _ (by omega)]at h
         cases h
      obtain⟨e,h1,h2,h3⟩:=docD_ex n _ _ _ h;refine⟨e,h1,h2,fun y n' hn=>?_⟩;obtain⟨k',rfl⟩:∃k,n'=k+1:=⟨n'-1,by omega⟩
      unfold docD;rw[iP (lt_ex hlt)];dsimp only;rw[idx_nl (Nat.le_of_lt hlt),qgz (by omega),iN hb,qcr,show min ((qfj s i 10).getD s.length+1) (s.length+1+y.length)=min ((qfj s i 10).getD s.length+1) s.length by omega];exact h3 y k' (by omega)
  . rw[iN hlt]at h
    cases h
theorem pars_fuel (p:Bs) {n n':Nat} {w deep i:Nat} {out:List Part} {text:Bs} (hi:i<=p.length) (hn:2*(p.length-i)+1<=n) (hn':2*(p.length-i)+1<=n'):qaq n' p w deep i out text=qaq n p w deep i out text:=by
 have h:=(sh_pars2 [] p n).1 n' w deep i out text hi hn hn';rw[List.nil_append,List.length_nil,Nat.zero_add]at h;rw[h];cases qaq n p w deep i out text with
 | error e=>show Except.error (e.1,0+e.2)=_; rw[Nat.zero_add]
 | ok q=>show Except.ok (q.1,0+q.2)=_; rw[Nat.zero_add]
theorem doc1_ex {w:Nat×Bs} {i j:Nat} {toks tk:List Tok} (h:qej s w i toks=.ok (tk,j)):∃e,e<=1/\(e=1->j=s.length)/\∀y,qej (s++10::y) w i toks=.ok (tk,j+e):=by
 unfold qej at h;cases hd:docD (s.length+1) s w.2 i with
 | none=>rw[hd]at h; cases h
 | some q=>
  obtain⟨k,j'⟩:=q;have hk:=docD_le _ _ _ _ _ _ hd;rw[hd]at h;dsimp only at h;obtain⟨e,h1,h2,h3⟩:=docD_ex _ _ _ _ hd
  have hj:j=j':=by
   split at h
   . cases h; rfl
   . split at h
     . cases h
     . cases h; rfl
  subst hj;refine⟨e,h1,h2,fun y=>?_⟩;unfold qej;rw[h3 y _ (by rw[qcr]; omega)];dsimp only;have hul:(s.take k).length=k:=by rw[List.length_take]; omega
  rw[qgz (by omega),takek_ex hk.2.1,pars_fuel (s.take k) (n:=qd8 s) (n':=qd8 (s++10::y)) (by omega) (by rw[hul]; unfold qd8; omega) (by rw[hul]; unfold qd8; rw[qcr]; omega)];split at h
  . rename_i hq
    rw[iP hq];cases h;rfl
  . rename_i hq
    rw[iN hq];split at h
    . cases h
    . cases h
      rfl
theorem doc1_past {w:Nat×Bs} {i:Nat} {toks:List Tok} (hi:s.length<=i):qej s w i toks=.error (19,s.length):=by
 unfold qej;rw[doc_none _ _ _ _ hi]
theorem docs_ex:∀{ws:List (Nat×Bs)} {i j:Nat} {toks tk:List Tok},qcz s ws i toks=.ok (tk,j)->∃e,e<=1/\(e=1->j=s.length/\ws≠[])/\∀y,qcz (s++10::y) ws i toks=.ok (tk,j+e)
 | [],i,j,toks,tk,h=>by
  unfold qcz at h;cases h;exact⟨0,by omega,fun h=>by omega,fun y=>by unfold qcz; rfl⟩
 | w::ws,i,j,toks,tk,h=>by
  rw[qc2]at h;cases hd:qej s w i toks with
  | error e=>rw[hd]at h; cases h
  | ok q=>
   obtain⟨t,j'⟩:=q;rw[hd]at h;dsimp only at h;obtain⟨e,h1,h2,h3⟩:=doc1_ex hd;rcases Nat.eq_zero_or_pos e with he|he
   . subst he
     obtain⟨e',g1,g2,g3⟩:=docs_ex h;refine⟨e',g1,fun he=>⟨(g2 he).1,by simp⟩,fun y=>?_⟩;rw[qc2,h3 y];exact g3 y
   . have he1:e=1:=by omega
     subst he1;have hj:=h2 rfl;cases ws with
     | nil=>
      unfold qcz at h;cases h;refine⟨1,by omega,fun _=>⟨hj,by simp⟩,fun y=>?_⟩;rw[qc2,h3 y];unfold qcz;rfl
     | cons w' ws=>
      rw[qc2,doc1_past (by omega)]at h;cases h
def qhj (toks:List Tok):Bool:=toks.any fun t=>t.kind==3
theorem here_eq {a b:List Tok} (h:a.map Tok.kind=b.map Tok.kind):qhj a=qhj b:=by
 have e:∀l:List Tok,qhj l=(l.map Tok.kind).any fun k=>k==3:=fun l=>by unfold qhj; rw[List.any_map]; rfl
 rw[e,e,h]
theorem qh9 (a b:List Tok):qhj (a++b)=(qhj a||qhj b):=List.any_append
theorem setk_kind {toks:List Tok} {t:Nat} {y:Tok} (h:t<toks.length->y.kind=(toks.getD t ⟨0,[],[],false,0⟩).kind):(toks.set t y).map Tok.kind=toks.map Tok.kind:=by
 rw[List.map_set];by_cases ht:t<toks.length
 . rw[h ht]
   refine List.ext_getElem? fun k=>?_;rw[List.getElem?_set];by_cases hk:t=k
   . subst hk
     rw[iP rfl,iP (by rw[lM]; exact ht),List.getElem?_map,List.getElem?_eq_getElem ht,List.getD_eq_getElem?_getD,List.getElem?_eq_getElem ht];rfl
   . rw[iN hk]
 . rw[List.set_eq_of_length_le (by rw[lM]; omega)]
theorem doc1_kind {w:Nat×Bs} {i j:Nat} {toks tk:List Tok} (h:qej s w i toks=.ok (tk,j)):tk.map Tok.kind=toks.map Tok.kind:=by
 unfold qej at h;split at h
 . cases h
 . dsimp only at h
   split at h
   . cases h
     exact setk_kind fun _=>rfl
   . split at h
     . cases h
     . cases h
       exact setk_kind fun _=>rfl
theorem docs_kind:∀{ws:List (Nat×Bs)} {i j:Nat} {toks tk:List Tok},qcz s ws i toks=.ok (tk,j)->tk.map Tok.kind=toks.map Tok.kind
 | [],i,j,toks,tk,h=>by unfold qcz at h; cases h; rfl
 | w::ws,i,j,toks,tk,h=>by
  rw[qc2]at h;split at h
  . cases h
  . rename_i hd
    rw[docs_kind h,doc1_kind hd]
theorem step_here {i:Nat} {toks:List Tok} {waits:List (Nat×Bs)} {r:Nat×List Tok×List (Nat×Bs)} (h:qdv s i toks waits=.ok r) (hw:waits≠[]->qhj toks=true):(qhj toks=true->qhj r.2.1=true)/\(r.2.2≠[]->qhj r.2.1=true):=by
 unfold qdv linD remD mrkD wrdD at h;split at h
 . rename_i r' hl
   split at hl
   . cases hl
     split at h
     . cases h
     . rename_i q hq
       cases h;dsimp only;have e:=here_eq (docs_kind (tk:=q.1) (j:=q.2) hq);refine⟨fun ht=>by rw[e,qh9,ht,Bool.true_or],fun hn=>absurd rfl hn⟩
   . cases hl
 . split at h
   . rename_i r' hl
     split at hl
     . cases hl
       cases h;exact⟨id,hw⟩
     . cases hl
   . split at h
     . rename_i r' hl
       split at hl
       . cases hl
         cases h;dsimp only;exact⟨fun ht=>by rw[qh9,ht,Bool.true_or],fun hn=>by rw[qh9,hw hn,Bool.true_or]⟩
       . split at hl
         . cases hl
           cases h
         . cases hl
     . split at h
       . cases h
       . split at h
         . split at h
           . cases h
           . cases h
             dsimp only
             have e:∀a b:Tok,b.kind=3->qhj (toks++[a,b])=true:=fun a b hb=>by
              rw[qh9,show qhj [a,b]=(a.kind==3||(b.kind==3||false))from rfl,hb];simp
             exact⟨fun _=>e _ _ rfl,fun _=>e _ _ rfl⟩
         . cases h
           dsimp only;exact⟨fun ht=>by rw[qh9,ht,Bool.true_or],fun hn=>by rw[qh9,hw hn,Bool.true_or]⟩
theorem step_92 {i:Nat} {toks:List Tok} {waits:List (Nat×Bs)} {r:Nat×List Tok×List (Nat×Bs)} (hi:i<s.length) (h:qdv s i toks waits=.ok r):¬(byt s i=92/\s.length<=i+1):=by
 rintro ⟨hb,hl⟩
 have hd:digM s i=false:=by
  unfold digM;rw[hb];rfl
 have hm:qhk s i=0:=by
  rw[qfs,hd]
  have:(marT.find? fun o=>atD s (i+if false=true then 1 else 0) o)=none:=by
   rw[List.find?_eq_none];intro o ho ha;rw[iN (by decide),Nat.add_zero]at ha;unfold atD at ha;rw[List.drop_eq_getElem_cons hi,beq_iff_eq]at ha;have hs:s[i]=92:=by rw[<- hb]; exact qez hi
   rw[hs]at ha;simp only[marT,List.mem_cons,List.not_mem_nil,or_false]at ho;rcases ho with rfl|rfl|rfl|rfl|rfl|rfl|rfl|rfl|rfl|rfl|rfl|rfl<;>exact absurd (qn9 ha) (by decide)
  rw[this]
 unfold qdv linD remD mrkD wrdD at h;rw[qbe hi,qbe hi,qbe hi,hb,hm]at h;rw[iN (by decide)]at h;dsimp only at h;rw[iN (by decide)]at h;dsimp only at h;rw[iN (by decide),iN (by decide)]at h;dsimp only at h
 have hp:qaq (qd8 s) s 0 0 i [] []=.error (19,i):=by
  unfold qd8;unfold qaq
  rw[iP ⟨hi,by rw[hb]; decide⟩,iN (fun ha=>by
   have:=qb2 ha (by decide);simp only[List.length_cons,List.length_nil]at this
   omega),iP hb,iP hl]
 rw[hp]at h;cases h
theorem step_ex {i:Nat} {toks:List Tok} {waits:List (Nat×Bs)} {r:Nat×List Tok×List (Nat×Bs)} (hi:i<s.length) (h:qdv s i toks waits=.ok r):∃e,e<=1/\(e=1->r.1=s.length/\waits≠[]/\r.2.2=[])/\∀y,qdv (s++10::y) i toks waits=.ok (r.1+e,r.2):=by
 by_cases h10:atD s i [10]=true
 . unfold qdv linD at h
   rw[iP h10]at h;dsimp only at h;cases hd:qcz s waits (i+1) (toks++[⟨2,[],[],false,i⟩])with
   | error e=>rw[hd]at h; cases h
   | ok q=>
    rw[hd]at h;cases h;obtain⟨e,h1,h2,h3⟩:=docs_ex (tk:=q.1) (j:=q.2) hd;refine⟨e,h1,fun he=>⟨(h2 he).1,(h2 he).2,rfl⟩,fun y=>?_⟩;unfold qdv linD;rw[iP (show atD (s++10::y) i [10]=true by rw[atD_ex2 (by rw[List.length_singleton]; omega)]; exact h10),h3 y]
 refine⟨0,by omega,fun he=>by omega,fun y=>?_⟩;refine Eq.trans ?_ h;unfold qdv linD remD mrkD wrdD;rw[show atD (s++10::y) i [10]=atD s i [10]from atD_ex2 (by rw[List.length_singleton]; omega),iN h10,iN h10];dsimp only;rw[show atD (s++10::y) i [35]=atD s i [35]from qe8 (by decide) (Nat.le_of_lt hi),show atD (s++10::y) i [38]=atD s i [38]from qe8 (by decide) (Nat.le_of_lt hi),idx_nl (Nat.le_of_lt hi),mark_ex hi];by_cases h35:atD s i [35]=true
 . rw[iP h35]
 rw[iN h35];dsimp only
 have hml:i+qhk s i<=s.length:=by
  rw[qfs];cases ho:marT.find? (fun o=>atD s (i+if digM s i then 1 else 0) o)with
  | none=>dsimp only; omega
  | some o=>
   have h5:=(qky ho).1;dsimp only;rw[<- Nat.add_assoc];exact h5
 rw[qgz hml];by_cases hm:qhk s i≠0
 . rw[iP hm]
 rw[iN hm];by_cases h38:atD s i [38]=true
 . rw[iP h38]
 rw[iN h38];dsimp only;cases hp:qaq (qd8 s) s 0 0 i [] []with
 | error e=>
  exfalso;unfold qdv linD remD mrkD wrdD at h;rw[iN h10]at h;dsimp only at h;rw[iN h35]at h;dsimp only at h;rw[iN hm,iN h38]at h;dsimp only at h;rw[hp]at h;cases h
 | ok q=>
  rw[(pars_ex (qd8 s)).1 (qd8 (s++10::y)) 0 0 i [] [] q.1 q.2 (by unfold qd8; rw[qcr]; omega) (Nat.le_of_lt hi) (.inr rfl) hp]
theorem ski_nl (n:Nat):qek n (s++10::x) s.length=s.length:=by
 cases n with
 | zero=>rfl
 | succ n=>
  have ha:atD (s++10::x) s.length [92,10]=false:=by
   unfold atD;rw[qfp (lR _),List.drop_length,List.nil_append,beq_eq_false_iff_ne];intro h;exact absurd (qn9 h) (by decide)
  unfold qek;rw[byt_nl,ha,iN (show ¬((10:UInt8)=32/\s.length<(s++10::x).length)from fun h=>absurd h.1 (by decide)),iN (show ¬(10:UInt8)=9 by decide),iN (by decide)]
theorem ski_ex:∀(n n' i:Nat),i<=s.length->s.length+1<=n+i->s.length+1<=n'+i->¬(byt s (qek n s i)=92/\s.length<=qek n s i+1/\qek n s i<s.length)->qek n' (s++10::x) i=qek n s i
 | 0,n',i,hi,hn,hn',_=>by omega
 | n+1,n',i,hi,hn,hn',hb=>by
  rcases Nat.lt_or_ge i s.length with hlt|hge
  . obtain⟨k,rfl⟩:∃k,n'=k+1:=⟨n'-1,by omega⟩
    unfold qek at hb ⊢;rw[qk1 hlt];by_cases h32:byt s i=32
    . rw[iP (show byt s i=32/\i<s.length from⟨h32,hlt⟩)]at hb ⊢
      rw[iP (show byt s i=32/\i<(s++10::x).length from⟨h32,lt_ex hlt⟩)];exact ski_ex n k (i+1) (by omega) (by omega) (by omega) hb
    . rw[iN (show ¬(byt s i=32/\i<s.length)from fun h=>h32 h.1)]at hb ⊢
      rw[iN (show ¬(byt s i=32/\i<(s++10::x).length)from fun h=>h32 h.1)];by_cases h9:byt s i=9
      . rw[iP h9]at hb ⊢
        rw[iP h9];exact ski_ex n k (i+1) (by omega) (by omega) (by omega) hb
      . rw[iN h9]at hb ⊢
        rw[iN h9];by_cases ha:atD s i [92,10]=true
        . have hl:=qb2 ha (by decide)
          simp only[List.length_cons,List.length_nil]at hl;rw[iP ha]at hb ⊢;rw[atD_ex2 (by simpa using hl),iP ha];exact ski_ex n k (i+2) (by omega) (by omega) (by omega) hb
        . rw[iN ha]at hb ⊢
          rw[at92_ex hlt (fun h=>hb ⟨h.1,h.2,hlt⟩),iN ha]
  . have he:i=s.length:=by omega
    subst he;rw[ski_nl,ski_end _ _ _ (lR _)]
theorem lex_at (n:Nat) (toks:List Tok) (waits:List (Nat×Bs)) {u:Bs} {i j:Nat} (h:qek (u.length+1) u i=qek (u.length+1) u j):qi8 n u i toks waits=qi8 n u j toks waits:=by
 cases n with
 | zero=>rfl
 | succ n=>rw[qbr,qbr,h]
theorem lex_ex:∀(n i:Nat) (toks:List Tok) (waits:List (Nat×Bs)) (T:List Tok),i<=s.length->s.length+1<=n+i->Inv s i toks waits->(waits≠[]->qhj toks=true)->qi8 n s i toks waits=.ok T->∃e,e<=1/\(e=1->qhj T=true)/\∀(y:Bs) n',(s++10::y).length+1<=n'+i->∃m,(s++10::y).length+1<=m+(s.length+e)/\qi8 n' (s++10::y) i toks waits=qi8 m (s++10::y) (s.length+e) T []
 | 0,i,toks,waits,T,hi,hn,_,_,_=>by omega
 | n+1,i,toks,waits,T,hi,hn,hI,hw,h=>by
  rw[qbr]at h;obtain⟨i1,i2,i3⟩:=qex (s.length+1) s i hi (by omega);by_cases hlt:qek (s.length+1) s i<s.length
  . rw[iP hlt]at h
    cases hst:qdv s (qek (s.length+1) s i) toks waits with
    | error e=>rw[hst]at h; cases h
    | ok r=>
     rw[hst]at h;dsimp only at h;have h92:=step_92 hlt hst;have hsk:∀(y:Bs),qek ((s++10::y).length+1) (s++10::y) i=qek (s.length+1) s i:=fun y=>ski_ex _ _ _ hi (by omega) (by rw[qcr]; omega) (fun hb=>h92 ⟨hb.1,hb.2.1⟩);obtain⟨e,h1,h2,h3⟩:=step_ex hlt hst;have hIU:Inv s (qek (s.length+1) s i) toks waits:=⟨by have:=hI.t; omega,by have:=hI.w; omega,hI.ix,hI.tx⟩
     obtain⟨j1,j2,j3⟩:=qgy hIU hlt (i3 hlt).1 (i3 hlt).2 hst;obtain⟨g1,g2⟩:=step_here hst hw;rcases Nat.eq_zero_or_pos e with he|he
     . subst he
       obtain⟨e',k1,k2,k3⟩:=lex_ex n r.1 r.2.1 r.2.2 T j2 (by omega) j3 g2 h;refine⟨e',k1,k2,fun y n' hn'=>?_⟩;rw[qcr]at hn';obtain⟨k,rfl⟩:∃k,n'=k+1:=⟨n'-1,by omega⟩
       rw[qbr,hsk y,iP (lt_ex hlt),h3 y];dsimp only;exact k3 y k (by rw[qcr]; omega)
     . have he1:e=1:=by omega
       subst he1;obtain⟨a1,a2,a3⟩:=h2 rfl
       have hT:T=r.2.1:=by
        cases n with
        | zero=>unfold qi8 at h; cases h
        | succ n=>
         rw[qbr,a1,ski_end _ _ _ (lR _),iN (by omega),a3,iP rfl]at h;cases h;rfl
       subst hT;refine⟨1,lR _,fun _=>g1 (hw a2),fun y n' hn'=>?_⟩;rw[qcr]at hn';obtain⟨k,rfl⟩:∃k,n'=k+1:=⟨n'-1,by omega⟩
       refine⟨k,by rw[qcr]; omega,?_⟩;rw[qbr,hsk y,iP (lt_ex hlt),h3 y];dsimp only;rw[a1,a3]
  . rw[iN hlt]at h
    have hend:qek (s.length+1) s i=s.length:=by omega
    split at h
    . rename_i hwn
      cases h;subst hwn;refine⟨0,by omega,fun h=>by omega,fun y n' hn'=>⟨n',by omega,?_⟩⟩;refine lex_at n' _ [] ?_;rw[ski_ex (s.length+1) _ i hi (by omega) (by rw[qcr]; omega) (fun hb=>hlt hb.2.2),hend,Nat.add_zero];exact(ski_nl _).symm
    . cases h
end
end Go.Proofs.YtafbipadnnmccaaDoor.W
