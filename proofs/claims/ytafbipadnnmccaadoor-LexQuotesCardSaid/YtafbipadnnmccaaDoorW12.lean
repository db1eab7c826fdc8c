/-
  WHAT THE FUNCTIONS COME TO: each is read by the evaluator,printed,and told as a function of data,part 12 of 13 (no condition).
-/
import Derived.Test.YtafbipadnnmccaaDoorW11
import Derived.Test.YtafbipadnnmccaaDoorProg
import Derived.KernelRfl
noncomputable section
namespace Go.Proofs.YtafbipadnnmccaaDoor.W
open Go.Proofs.YtafbipadnnmccaaDoor.Ev
theorem qfl (p u:Bs) (i:Nat):(p++u).drop (p.length+i)=u.drop i:=by
 rw[List.drop_append,List.drop_eq_nil_of_le (by omega),List.nil_append]
 congr 1
 omega
theorem qhk (p u:Bs) (i:Nat):byt (p++u) (p.length+i)=byt u i:=by
 unfold byt;rw[List.getD_eq_getElem?_getD,List.getD_eq_getElem?_getD,List.getElem?_append_right (by omega),show p.length+i-p.length=i by omega]
theorem qd5 (p u:Bs) (i:Nat) (t:Bs):atD (p++u) (p.length+i) t=atD u i t:=by
 unfold atD;rw[qfl]
theorem idxD_sh (p u:Bs) (i:Nat) (c:UInt8):qji (p++u) (p.length+i) c=(qji u i c).map (p.length+·):=by
 unfold qji;rw[qfl,Option.map_map]
 congr 1
 funext x
 show x+(p.length+i)=p.length+(x+i)
 omega
theorem lt_sh (p u:Bs) (i:Nat) (h:i<u.length):p.length+i<(p++u).length:=by rw[lAq]; omega
theorem qkr (n:Nat) (s:Bs) (i d:Nat) (h:s.length<=i):qjf n s i d=none:=by
 cases n with
 | zero=>unfold qjf; rfl
 | succ n=>unfold qjf; rw[iN (by omega)]
theorem ql6 (n:Nat) (s:Bs) (i:Nat) (h:s.length<=i):quoD n s i=none:=by
 cases n with
 | zero=>unfold quoD; rfl
 | succ n=>unfold quoD; rw[iN (by omega)]
theorem sh_clo (p u:Bs):∀n,(∀n' i d,u.length+1<=n+i->u.length+1<=n'+i->qjf n' (p++u) (p.length+i) d=(qjf n u i d).map (p.length+·))/\(∀n' i,u.length+1<=n+i->u.length+1<=n'+i->quoD n' (p++u) (p.length+i)=(quoD n u i).map (p.length+·))
 | 0=>⟨fun n' i d h _=>by rw[qkr n' _ _ _ (by rw[lAq]; omega),qkr 0 u i d (by omega)]; rfl,fun n' i h _=>by rw[ql6 n' _ _ (by rw[lAq]; omega),ql6 0 u i (by omega)]; rfl⟩
 | n+1=>by
  obtain⟨hC,hQ⟩:=sh_clo p u n;refine⟨fun n' i d h h'=>?_,fun n' i h h'=>?_⟩
  . by_cases hlt:i<u.length
    . obtain⟨k,rfl⟩:∃k,n'=k+1:=⟨n'-1,by omega⟩
      unfold qjf;rw[iP (lt_sh p u i hlt),iP hlt,qhk];by_cases h92:byt u i=92
      . rw[iP h92,iP h92]
        exact hC k (i+2) d (by omega) (by omega)
      rw[iN h92,iN h92];by_cases h39:byt u i=39
      . rw[iP h39,iP h39,show p.length+i+1=p.length+(i+1)from rfl,idxD_sh]
        cases hx:qji u (i+1) 39 with
        | none=>rfl
        | some j=>
         have:=qfo hx;exact hC k (j+1) d (by omega) (by omega)
      rw[iN h39,iN h39];by_cases h34:byt u i=34
      . rw[iP h34,iP h34,show p.length+i+1=p.length+(i+1)from rfl,hQ k (i+1) (by omega) (by omega)]
        cases hx:quoD n u (i+1)with
        | none=>rfl
        | some j=>
         have:=(clo_le n).2 _ _ _ hx;exact hC k j d (by omega) (by omega)
      rw[iN h34,iN h34];by_cases h40:byt u i=40
      . rw[iP h40,iP h40]
        exact hC k (i+1) (d+1) (by omega) (by omega)
      rw[iN h40,iN h40];by_cases h41:byt u i=41
      . rw[iP h41,iP h41]
        by_cases h1:d=1
        . rw[iP h1,iP h1]; rfl
        . rw[iN h1,iN h1]
          exact hC k (i+1) (d-1) (by omega) (by omega)
      . rw[iN h41,iN h41]
        exact hC k (i+1) d (by omega) (by omega)
    . rw[qkr n' _ _ _ (by rw[lAq]; omega),qkr (n+1) u i d (by omega)]; rfl
  . by_cases hlt:i<u.length
    . obtain⟨k,rfl⟩:∃k,n'=k+1:=⟨n'-1,by omega⟩
      unfold quoD;rw[iP (lt_sh p u i hlt),iP hlt,qhk,qd5];by_cases h92:byt u i=92
      . rw[iP h92,iP h92]
        exact hQ k (i+2) (by omega) (by omega)
      rw[iN h92,iN h92];by_cases h34:byt u i=34
      . rw[iP h34,iP h34]; rfl
      rw[iN h34,iN h34];by_cases h36:atD u i [36,40]=true
      . rw[iP h36,iP h36,show p.length+i+2=p.length+(i+2)from rfl,hC k (i+2) 1 (by omega) (by omega)]
        cases hx:qjf n u (i+2) 1 with
        | none=>rfl
        | some j=>
         have:=(clo_le n).1 _ _ _ _ hx;exact hQ k j (by omega) (by omega)
      . rw[iN h36,iN h36]
        exact hQ k (i+1) (by omega) (by omega)
    . rw[ql6 n' _ _ (by rw[lAq]; omega),ql6 (n+1) u i (by omega)]; rfl
def shR (m:Nat):Except Flt (List Part×Nat)->Except Flt (List Part×Nat)
 | .ok q=>.ok (q.1,m+q.2)
 | .error e=>.error (e.1,m+e.2)
def shD (m:Nat):Except Flt (Option (Part×Nat))->Except Flt (Option (Part×Nat))
 | .ok none=>.ok none
 | .ok (some q)=>.ok (some (q.1,m+q.2))
 | .error e=>.error (e.1,m+e.2)
end Go.Proofs.YtafbipadnnmccaaDoor.W





namespace Go.Proofs.YtafbipadnnmccaaDoor.W
open Go.Proofs.YtafbipadnnmccaaDoor.Ev Go.RowKit
theorem lg_log (S:St) (l:List LE):(S.lg l).log=l:=Eq.trans rfl rfl
theorem lons' (S:St):onS S=S.lg []:=Eq.trans rfl rfl
theorem llg' (S:St) (l m:List LE):(S.lg l).lg m=S.lg m:=Eq.trans rfl rfl
theorem ne3s (n:Nat):qa5 E0 .neq 3 false false (.int .i64 (n:Int)) (.int .i64 (n:Int))=some (.bool false):=by
 rw[binV_ii,intsV_neq]
 congr 2
 simp
theorem ne9s (t:Bs):qa5 E0 .neq 9 false false (sv t) (sv t)=some (.bool false):=by
 rw[neStr];simp
section
variable {K:FuncId->Option KF} {S U T:St}
end
end Go.Proofs.YtafbipadnnmccaaDoor.W


namespace Go.Proofs.YtafbipadnnmccaaDoor.W
open Go.Proofs.YtafbipadnnmccaaDoor.Ev
theorem sh_pars2 (p u:Bs):∀n,(∀n' w deep i out text,i<=u.length->2*(u.length-i)+1<=n->2*(u.length-i)+1<=n'->qar n' (p++u) w deep (p.length+i) out text=shR p.length (qar n u w deep i out text))/\(∀n' w deep i,i<u.length->2*(u.length-i)<=n->2*(u.length-i)<=n'->dolD n' (p++u) w deep (p.length+i)=shD p.length (dolD n u w deep i))
 | 0=>⟨fun n' w deep i out text hi hn hn'=>by omega,fun n' w deep i hi hn hn'=>by omega⟩
 | n+1=>by
  obtain⟨hP,hD⟩:=sh_pars2 p u n;refine⟨fun n' w deep i out text hi hn hn'=>?_,fun n' w deep i hi hn hn'=>?_⟩
  . obtain⟨n',rfl⟩:∃k,n'=k+1:=⟨n'-1,by omega⟩
    unfold qar;rw[qd5,show p.length+i+1=p.length+(i+1)from rfl,idxD_sh];by_cases hc:i<u.length/\endsD w (byt u i)=false
    . rw[iP (show p.length+i<(p++u).length/\endsD w (byt (p++u) (p.length+i))=false from⟨lt_sh p u i hc.1,by rw[qhk]; exact hc.2⟩),iP hc,qhk,qhk]
      have hlt:=hc.1;by_cases h1:atD u i [92,10]=true
      . have:=qbg h1 (by decide)
        simp only[List.length_cons,List.length_nil]at this;rw[iP h1,iP h1];exact hP n' w deep (i+2) out text (by omega) (by omega) (by omega)
      rw[iN h1,iN h1];by_cases h92:byt u i=92
      . rw[iP h92,iP h92]
        by_cases hle:u.length<=i+1
        . rw[iP hle,iP (show(p++u).length<=p.length+(i+1) by rw[lAq]; omega)]; rfl
        . rw[iN hle,iN (show ¬(p++u).length<=p.length+(i+1) by rw[lAq]; omega)]
          by_cases hw:inD w=true
          . rw[iP hw,iP hw]
            exact hP n' w deep (i+2) out _ (by omega) (by omega) (by omega)
          . rw[iN hw,iN hw]
            exact hP n' w deep (i+2) _ [] (by omega) (by omega) (by omega)
      rw[iN h92,iN h92];by_cases h36:byt u i=36
      . rw[iP h36,iP h36,hD n' w deep i hlt (by omega) (by omega)]
        cases hx:dolD n u w deep i with
        | error e=>rfl
        | ok r=>
         cases r with
         | none=>exact hP n' w deep (i+1) out _ (by omega) (by omega) (by omega)
         | some q=>
          have:=(qet n).2 _ _ _ _ _ _ hx;exact hP n' w deep q.2 _ [] (by omega) (by omega) (by omega)
      rw[iN h36,iN h36];by_cases hb:(decide (byt u i=96)||(byt u i==34&&w==4))=true
      . rw[iP hb,iP hb]; rfl
      rw[iN hb,iN hb];by_cases h39:(decide (byt u i=39)&&!inD w)=true
      . rw[iP h39,iP h39]
        cases hx:qji u (i+1) 39 with
        | none=>rfl
        | some k=>
         have hk:=qfo hx
         have e:((p++u).drop (p.length+(i+1))).take (p.length+k-(p.length+(i+1)))=(u.drop (i+1)).take (k-(i+1)):=by
          rw[qfl]
          congr 1
          omega
         show qar n' (p++u) w deep (p.length+k+1) (qkw w out text++[.mk 1 (((p++u).drop (p.length+(i+1))).take (p.length+k-(p.length+(i+1)))) [] false []]) []=_;rw[e];exact hP n' w deep (k+1) _ [] (by omega) (by omega) (by omega)
      rw[iN h39,iN h39];by_cases h34:(decide (byt u i=34)&&!inD w)=true
      . rw[iP h34,iP h34,hP n' 1 deep (i+1) [] [] (by omega) (by omega) (by omega)]
        cases hx:qar n u 1 deep (i+1) [] []with
        | error e=>rfl
        | ok q=>
         obtain⟨l,j⟩:=q;have hj:=(qet n).1 _ _ _ _ _ _ _ _ hx (by omega);show(if atD (p++u) (p.length+j) [34]=true then qar n' (p++u) w deep (p.length+j+1) (qkw w out text++if l.isEmpty=true then [.mk 1 [] [] true []]else l) []else .error (19,p.length+i))=shR p.length (if atD u j [34]=true then qar n u w deep (j+1) (qkw w out text++if l.isEmpty=true then [.mk 1 [] [] true []]else l) []else .error (19,i));rw[qd5];by_cases ha:atD u j [34]=true
         . have:=qbg ha (by decide)
           simp only[List.length_cons,List.length_nil]at this;rw[iP ha,iP ha];exact hP n' w deep (j+1) _ [] (by omega) (by omega) (by omega)
         . rw[iN ha,iN ha]; rfl
      . rw[iN h34,iN h34]
        exact hP n' w deep (i+1) out _ (by omega) (by omega) (by omega)
    . rw[iN hc,iN (show ¬(p.length+i<(p++u).length/\endsD w (byt (p++u) (p.length+i))=false) by rw[qhk,lAq]; exact fun h=>hc ⟨by omega,h.2⟩)]; rfl
  . obtain⟨n',rfl⟩:∃k,n'=k+1:=⟨n'-1,by omega⟩
    unfold dolD;rw[qd5,qd5,qd5];by_cases h1:atD u i [36,40,40]=true
    . rw[iP h1,iP h1]; rfl
    rw[iN h1,iN h1];by_cases h2:atD u i [36,40]=true
    . have:=qbg h2 (by decide)
      simp only[List.length_cons,List.length_nil]at this;rw[iP h2,iP h2,show p.length+i+2=p.length+(i+2)from rfl,(sh_clo p u (2*u.length)).1 (2*(p++u).length) (i+2) 1 (by omega) (by rw[lAq]; omega)];cases hx:qjf (2*u.length) u (i+2) 1 with
      | none=>rfl
      | some j=>
       have hj:=(clo_le _).1 _ _ _ _ hx;show Except.ok (some (Part.mk 3 (((p++u).drop (p.length+(i+2))).take (p.length+j-1-(p.length+(i+2)))) [] (inD w) [],p.length+j))=Except.ok (some (Part.mk 3 ((u.drop (i+2)).take (j-1-(i+2))) [] (inD w) [],p.length+j));rw[qfl,show p.length+j-1-(p.length+(i+2))=j-1-(i+2) by omega]
    rw[iN h2,iN h2];by_cases h3:atD u i [36,123]=true
    . have h3l:=qbg h3 (by decide)
      simp only[List.length_cons,List.length_nil]at h3l;rw[iP h3,iP h3];by_cases hd:20<=deep
      . rw[iP hd,iP hd]; rfl
      rw[iN hd,iN hd];rw[show p.length+i+2=p.length+(i+2)from rfl,show p.length+i+3=p.length+(i+3)from rfl,qd5,qfl,qfl,show p.length+(i+3)+qcv (u.drop (i+3)) [63,64,42]=p.length+(i+3+qcv (u.drop (i+3)) [63,64,42]) by omega,qd5];by_cases hl:(atD u (i+2) [35]&&qcv (u.drop (i+3)) [63,64,42] != 0&&atD u (i+3+qcv (u.drop (i+3)) [63,64,42]) [125])=true
      . rw[iP hl,iP hl]; rfl
      rw[iN hl,iN hl];dsimp only;rw[show p.length+(i+2)+qcv (u.drop (i+2)) [63,35,64,42]=p.length+(i+2+qcv (u.drop (i+2)) [63,35,64,42]) by omega];by_cases hm:qcv (u.drop (i+2)) [63,35,64,42]=0
      . rw[iP hm,iP hm]; rfl
      rw[iN hm,iN hm,qd5];by_cases hb:atD u (i+2+qcv (u.drop (i+2)) [63,35,64,42]) [125]=true
      . rw[iP hb,iP hb]; rfl
      rw[iN hb,iN hb];rw[show(fun o=>atD (p++u) (p.length+(i+2+qcv (u.drop (i+2)) [63,35,64,42])) o)=fun o=>atD u (i+2+qcv (u.drop (i+2)) [63,35,64,42]) o from funext fun o=>qd5 ..];cases hf:opsT.find? fun o=>atD u (i+2+qcv (u.drop (i+2)) [63,35,64,42]) o with
      | none=>rfl
      | some o=>
       have hfa:=find_at hf;dsimp only;rw[show p.length+(i+2+qcv (u.drop (i+2)) [63,35,64,42])+o.length=p.length+(i+2+qcv (u.drop (i+2)) [63,35,64,42]+o.length) by omega,hP n' (if inD w then 4 else 3) (deep+1) _ [] [] hfa.2.1 (by omega) (by omega)];cases hx:qar n u (if inD w then 4 else 3) (deep+1) (i+2+qcv (u.drop (i+2)) [63,35,64,42]+o.length) [] []with
       | error e=>rfl
       | ok q=>
        obtain⟨l,j⟩:=q;show(if atD (p++u) (p.length+j) [125]=true then Except.ok (some (Part.mk 2 ((u.drop (i+2)).take (qcv (u.drop (i+2)) [63,35,64,42])) o (inD w) l,p.length+j+1))else .error (19,p.length+i))=shD p.length (if atD u j [125]=true then Except.ok (some (Part.mk 2 ((u.drop (i+2)).take (qcv (u.drop (i+2)) [63,35,64,42])) o (inD w) l,j+1))else .error (19,i));rw[qd5];by_cases ha:atD u j [125]=true
        . rw[iP ha,iP ha]; rfl
        . rw[iN ha,iN ha]; rfl
    . rw[iN h3,iN h3]
      dsimp only;rw[show p.length+i+1=p.length+(i+1)from rfl,qfl];by_cases hm:qcv (u.drop (i+1)) [63,35,64,42]=0
      . rw[iP hm,iP hm]; rfl
      . rw[iN hm,iN hm]
        show Except.ok (some (_,p.length+(i+1)+_))=Except.ok (some (_,p.length+(i+1+_)));rw[Nat.add_assoc p.length (i+1)]
def sft (m:Nat) (t:Tok):Tok:={t with at_:=m+t.at_}
def mvW (k:Nat) (w:Nat×Bs):Nat×Bs:=(k+w.1,w.2)
def mvT (T0:List Tok) (m:Nat) (toks:List Tok):List Tok:=T0++toks.map (sft m)
def shE {α β:Type} (m:Nat) (f:α->β):Except Flt α->Except Flt β
 | .ok a=>.ok (f a)
 | .error e=>.error (e.1,m+e.2)
theorem ski_end (n:Nat) (s:Bs) (i:Nat) (h:s.length<=i):qgz n s i=i:=by
 cases n with
 | zero=>rfl
 | succ n=>
  unfold qgz
  have hb:byt s i=0:=by
   unfold byt;rw[List.getD_eq_getElem?_getD,List.getElem?_eq_none h];rfl
  have ha:atD s i [92,10]=false:=by
   unfold atD;rw[List.drop_eq_nil_of_le h];rfl
  rw[iN (by omega),iN (by rw[hb]; decide),ha,iN (by decide)]
theorem sh_ski (p u:Bs):∀n n' i,u.length+1<=n+i->u.length+1<=n'+i->qgz n' (p++u) (p.length+i)=p.length+qgz n u i
 | 0,n',i,h,h'=>by rw[ski_end n' _ _ (by rw[lAq]; omega),ski_end 0 u i (by omega)]
 | n+1,n',i,h,h'=>by
  by_cases hlt:i<u.length
  . obtain⟨k,rfl⟩:∃k,n'=k+1:=⟨n'-1,by omega⟩
    unfold qgz;by_cases h32:byt u i=32
    . rw[iP (show byt (p++u) (p.length+i)=32/\p.length+i<(p++u).length from⟨by rw[qhk]; exact h32,lt_sh p u i hlt⟩),iP (show byt u i=32/\i<u.length from⟨h32,hlt⟩)]
      exact sh_ski p u n k (i+1) (by omega) (by omega)
    . rw[iN (show ¬(byt (p++u) (p.length+i)=32/\p.length+i<(p++u).length)from fun h=>h32 (by rw[<- qhk p u i]; exact h.1)),qhk,qd5,iN (show ¬(byt u i=32/\i<u.length)from fun h=>h32 h.1)]
      by_cases h9:byt u i=9
      . rw[iP h9,iP h9]
        exact sh_ski p u n k (i+1) (by omega) (by omega)
      . rw[iN h9,iN h9]
        by_cases ha:atD u i [92,10]=true
        . rw[iP ha,iP ha]
          exact sh_ski p u n k (i+2) (by omega) (by omega)
        . rw[iN ha,iN ha]
  . rw[ski_end n' _ _ (by rw[lAq]; omega),ski_end (n+1) u i (by omega)]
theorem digM_sh (p u:Bs) (i:Nat):digM (p++u) (p.length+i)=digM u i:=by
 unfold digM;rw[qhk,show p.length+i+1=p.length+(i+1)from rfl,qd5,qd5]
theorem markD_sh (p u:Bs) (i:Nat):qfq (p++u) (p.length+i)=qfq u i:=by
 rw[qhb,qhb,digM_sh,show(fun o=>atD (p++u) (p.length+i+if digM u i then 1 else 0) o)=fun o=>atD u (i+if digM u i then 1 else 0) o from funext fun o=>by rw[Nat.add_assoc,qd5]]
theorem idxE_sh (p u:Bs) (i:Nat) (c:UInt8):(qji (p++u) (p.length+i) c).getD (p++u).length=p.length+(qji u i c).getD u.length:=by
 rw[idxD_sh,lAq];cases qji u i c<;>rfl
theorem sub_sh (p u:Bs) (i k:Nat):((p++u).drop (p.length+i)).take (p.length+k-(p.length+i))=(u.drop i).take (k-i):=by
 rw[qfl]
 congr 1
 omega
theorem qkt (n:Nat) (s last:Bs) (i:Nat) (h:s.length<=i):docD n s last i=none:=by
 cases n with
 | zero=>rfl
 | succ n=>unfold docD; rw[iN (by omega)]
theorem docD_sh (p u last:Bs):∀n n' i,u.length+1<=n+i->u.length+1<=n'+i->docD n' (p++u) last (p.length+i)=(docD n u last i).map fun q=>(p.length+q.1,p.length+q.2)
 | 0,n',i,h,h'=>by rw[qkt n' _ _ _ (by rw[lAq]; omega),qkt 0 u last i (by omega)]; rfl
 | n+1,n',i,h,h'=>by
  by_cases hlt:i<u.length
  . obtain⟨k,rfl⟩:∃k,n'=k+1:=⟨n'-1,by omega⟩
    unfold docD;rw[iP hlt,iP (lt_sh p u i hlt)];dsimp only;rw[idxE_sh,sub_sh,lAq]
    have hge:i<=(qji u i 10).getD u.length:=by
     cases hx:qji u i 10 with
     | none=>exact Nat.le_of_lt hlt
     | some k=>exact(qfo hx).1
    generalize (qji u i 10).getD u.length=e at *;rw[show min (p.length+e+1) (p.length+u.length)=p.length+min (e+1) u.length by omega];by_cases hb:((u.drop i).take (e-i)==last)=true
    . rw[iP hb,iP hb]; rfl
    . rw[iN hb,iN hb]
      exact docD_sh p u last n k (min (e+1) u.length) (by omega) (by omega)
  . rw[qkt n' _ _ _ (by rw[lAq]; omega),qkt (n+1) u last i (by omega)]; rfl
theorem mv_getD (T0:List Tok) (m:Nat) (toks:List Tok) (i:Nat) (h:i<toks.length):(mvT T0 m toks).getD (T0.length+i) ⟨0,[],[],false,0⟩=sft m (toks.getD i ⟨0,[],[],false,0⟩):=by
 unfold mvT;rw[List.getD_eq_getElem?_getD,List.getD_eq_getElem?_getD,List.getElem?_append_right (by omega),show T0.length+i-T0.length=i by omega,List.getElem?_map,List.getElem?_eq_getElem h];rfl
theorem mv_set (T0:List Tok) (m:Nat) (toks:List Tok) (i:Nat) (y:Tok):(mvT T0 m toks).set (T0.length+i) (sft m y)=mvT T0 m (toks.set i y):=by
 unfold mvT;rw[List.set_append_right _ _ (by omega),show T0.length+i-T0.length=i by omega,List.map_set]
theorem doc1_sh (p u:Bs) (T0:List Tok) (w:Nat×Bs) (i:Nat) (toks:List Tok) (hi:i<=u.length) (hw:w.1<toks.length):qhz (p++u) (mvW T0.length w) (p.length+i) (mvT T0 p.length toks)=shE p.length (fun q=>(mvT T0 p.length q.1,p.length+q.2)) (qhz u w i toks):=by
 unfold qhz;rw[show(mvW T0.length w).2=w.2 from rfl,show(mvW T0.length w).1=T0.length+w.1 from rfl,docD_sh p u w.2 (u.length+1) _ i (by omega) (by rw[lAq]; omega)];cases hd:docD (u.length+1) u w.2 i with
 | none=>
  show Except.error (19,(p++u).length)=Except.error (19,p.length+u.length);rw[lAq]
 | some q=>
  obtain⟨k,j⟩:=q;have hk:=qlu _ _ _ _ _ _ hd;simp only[Option.map_some];rw[mv_getD _ _ _ _ hw,sub_sh];generalize toks.getD w.1 ⟨0,[],[],false,0⟩=x;show(if x.quoted=true then _ else _)=_;by_cases hq:x.quoted=true
  . rw[iP hq,iP hq]
    show Except.ok (_,_)=Except.ok (_,_);rw[<- mv_set];rfl
  . rw[iN hq,iN hq]
    have ht:(p++u).take (p.length+k)=p++u.take k:=by rw[List.take_append,List.take_of_length_le (by omega),show p.length+k-p.length=k by omega]
    have hul:(u.take k).length=k:=by rw[List.length_take]; omega
    rw[ht,(sh_pars2 p (u.take k) (qcl u)).1 (qcl (p++u)) 2 0 i [] [] (by omega) (by rw[hul]; unfold qcl; omega) (by rw[hul]; unfold qcl; rw[lAq]; omega)];cases qar (qcl u) (u.take k) 2 0 i [] []with
    | error e=>rfl
    | ok r=>
     show Except.ok (_,_)=Except.ok (_,_);rw[<- mv_set];rfl
theorem docs_sh (p u:Bs) (T0:List Tok):∀(ws:List (Nat×Bs)) (i:Nat) (toks:List Tok),i<=u.length->(∀w∈ws,w.1<toks.length)->qez (p++u) (ws.map (mvW T0.length)) (p.length+i) (mvT T0 p.length toks)=shE p.length (fun q=>(mvT T0 p.length q.1,p.length+q.2)) (qez u ws i toks)
 | [],i,toks,hi,hw=>rfl
 | w::ws,i,toks,hi,hw=>by
  rw[List.map_cons,qf0,qf0,doc1_sh p u T0 w i toks hi (hw w (List.mem_cons_self ..))];cases hd:qhz u w i toks with
  | error e=>rfl
  | ok q=>
   obtain⟨tk,j⟩:=q
   have hj:j<=u.length/\tk.length=toks.length:=by
    unfold qhz at hd;split at hd
    . cases hd
    . rename_i k j' hdd
      have:=qlu _ _ _ _ _ _ hdd;dsimp only at hd;split at hd
      . cases hd
        exact⟨this.2.2.2,List.length_set ..⟩
      . split at hd
        . cases hd
        . cases hd
          exact⟨this.2.2.2,List.length_set ..⟩
   exact docs_sh p u T0 ws j tk hj.1 fun w' hw'=>by rw[hj.2]; exact hw w' (mO _ hw')
theorem docQ_mv (T0:List Tok) (m:Nat) (toks:List Tok) (h:docQ T0=false):docQ (mvT T0 m toks)=docQ toks:=by
 unfold mvT docQ at *;rcases List.eq_nil_or_concat toks with rfl|⟨l,t,rfl⟩
 . rw[List.map_nil,List.append_nil,h]
   rfl
 . rw[List.concat_eq_append,List.map_append,List.map_singleton,<- List.append_assoc,List.getLast?_concat,List.getLast?_concat]
   rfl
theorem mv_push (T0:List Tok) (m:Nat) (toks:List Tok) (t:Tok):mvT T0 m toks++[sft m t]=mvT T0 m (toks++[t]):=by
 unfold mvT;rw[List.map_append,List.append_assoc];rfl
theorem mv_len (T0:List Tok) (m:Nat) (toks:List Tok):(mvT T0 m toks).length=T0.length+toks.length:=by
 unfold mvT;rw[lAq,lM]
def mvS (T0:List Tok) (m:Nat) (q:Nat×List Tok×List (Nat×Bs)):Nat×List Tok×List (Nat×Bs):=(m+q.1,mvT T0 m q.2.1,q.2.2.map (mvW T0.length))
theorem step_sh (p u:Bs) (T0:List Tok) (h0:docQ T0=false) {i:Nat} {toks:List Tok} {waits:List (Nat×Bs)} (hi:i<u.length) (hw:∀w∈waits,w.1<toks.length):qju (p++u) (p.length+i) (mvT T0 p.length toks) (waits.map (mvW T0.length))=shE p.length (mvS T0 p.length) (qju u i toks waits):=by
 unfold qju linD remD mrkD wrdD;rw[qd5,qd5,qd5,markD_sh,idxE_sh];by_cases h10:atD u i [10]=true
 . rw[iP h10,iP h10]
   dsimp only;rw[show p.length+i+1=p.length+(i+1)from rfl,show(⟨2,[],[],false,p.length+i⟩:Tok)=sft p.length ⟨2,[],[],false,i⟩from rfl,mv_push,docs_sh p u T0 waits (i+1) _ (by omega) (fun w hw'=>by have:=hw w hw'; rw[lAq]; omega)];cases qez u waits (i+1) (toks++[⟨2,[],[],false,i⟩])with
   | error e=>rfl
   | ok q=>rfl
 rw[iN h10,iN h10];dsimp only;by_cases h35:atD u i [35]=true
 . rw[iP h35,iP h35]
   rfl
 rw[iN h35,iN h35];dsimp only;by_cases hm:qfq u i≠0
 . rw[iP hm,iP hm]
   show Except.ok _=Except.ok _;have e:((p++u).drop (p.length+i)).take (qfq u i)=(u.drop i).take (qfq u i):=by rw[qfl]
   rw[e,show(⟨1,(u.drop i).take (qfq u i),[],false,p.length+i⟩:Tok)=sft p.length ⟨1,(u.drop i).take (qfq u i),[],false,i⟩from rfl,mv_push,Nat.add_assoc];rfl
 rw[iN hm,iN hm];by_cases h38:atD u i [38]=true
 . rw[iP h38,iP h38]
   rfl
 rw[iN h38,iN h38];dsimp only;rw[(sh_pars2 p u (qcl u)).1 (qcl (p++u)) 0 0 i [] [] (by omega) (by unfold qcl; omega) (by unfold qcl; rw[lAq]; omega),docQ_mv T0 _ _ h0,mv_len];cases qar (qcl u) u 0 0 i [] []with
 | error e=>rfl
 | ok q=>
  obtain⟨l,j⟩:=q;show(if docQ toks=true then(if(l.any fun p=>p.kind != 0&&p.kind != 1)=true then Except.error (19,p.length+i)else .ok (p.length+j,mvT T0 p.length toks++[⟨0,[],l,false,p.length+i⟩,⟨3,[],[],l.any fun p=>p.kind==1,p.length+i⟩],waits.map (mvW T0.length)++[(T0.length+toks.length+1,(l.map Part.text).flatten)]))else .ok (p.length+j,mvT T0 p.length toks++[⟨0,[],l,false,p.length+i⟩],waits.map (mvW T0.length)))=shE p.length (mvS T0 p.length) (if docQ toks=true then(if(l.any fun p=>p.kind != 0&&p.kind != 1)=true then Except.error (19,i)else .ok (j,toks++[⟨0,[],l,false,i⟩,⟨3,[],[],l.any fun p=>p.kind==1,i⟩],waits++[(toks.length+1,(l.map Part.text).flatten)]))else .ok (j,toks++[⟨0,[],l,false,i⟩],waits));cases docQ toks with
  | true=>
   rw[iP rfl,iP rfl];by_cases ha:(l.any fun p=>p.kind != 0&&p.kind != 1)=true
   . rw[iP ha,iP ha]; rfl
   . rw[iN ha,iN ha]
     show Except.ok _=Except.ok _;unfold mvS mvT mvW;simp[sft,Nat.add_assoc]
  | false=>
   rw[iN (by simp),iN (by simp)];show Except.ok _=Except.ok _;unfold mvS mvT mvW;simp[sft]
theorem lex_sh (p u:Bs) (T0:List Tok) (h0:docQ T0=false):∀n n' i toks waits,i<=u.length->u.length+1<=n+i->u.length+1<=n'+i->Inv u i toks waits->qm9 n' (p++u) (p.length+i) (mvT T0 p.length toks) (waits.map (mvW T0.length))=shE p.length (mvT T0 p.length) (qm9 n u i toks waits)
 | 0,n',i,toks,waits,hi,hn,hn',hI=>by omega
 | n+1,n',i,toks,waits,hi,hn,hn',hI=>by
  obtain⟨n',rfl⟩:∃k,n'=k+1:=⟨n'-1,by omega⟩
  rw[qf7,qf7,sh_ski p u (u.length+1) _ i (by omega) (by rw[lAq]; omega)];obtain⟨i1,i2,i3⟩:=qj9 (u.length+1) u i hi (by omega);generalize qgz (u.length+1) u i=i' at *;have hIU:Inv u i' toks waits:=⟨by have:=hI.t; omega,by have:=hI.w; omega,hI.ix,hI.tx⟩
  by_cases hlt:i'<u.length
  . rw[iP hlt,iP (lt_sh p u i' hlt),step_sh p u T0 h0 hlt hI.ix]
    cases hst:qju u i' toks waits with
    | error e=>rfl
    | ok r=>
     obtain⟨j1,j2,j3⟩:=stepD_inv hIU hlt (i3 hlt).1 (i3 hlt).2 hst;exact lex_sh p u T0 h0 n n' r.1 r.2.1 r.2.2 j2 (by omega) (by omega) j3
  . rw[iN hlt,iN (show ¬p.length+i'<(p++u).length by rw[lAq]; omega)]
    by_cases hw:waits=[]
    . subst hw
      rfl
    . rw[iN hw,iN (by simpa using hw),lAq]
      rfl
end Go.Proofs.YtafbipadnnmccaaDoor.W

namespace Go.Proofs.YtafbipadnnmccaaDoor.W
open Go.Proofs.YtafbipadnnmccaaDoor.Ev
section
variable {s x:Bs}
theorem take_head {n:Nat} {a b:UInt8} {u v:Bs} (h:List.take (n+1) (a::u)=b::v):a=b:=by
 rw[List.take_succ_cons]at h;exact(List.cons.inj h).1
theorem lex_at (n:Nat) (toks:List Tok) (waits:List (Nat×Bs)) {u:Bs} {i j:Nat} (h:qgz (u.length+1) u i=qgz (u.length+1) u j):qm9 n u i toks waits=qm9 n u j toks waits:=by
 cases n with
 | zero=>rfl
 | succ n=>rw[qf7,qf7,h]
end
theorem inv0 (s:Bs):Inv s 0 [] []:=⟨lR _,lR _,fun w h=>(by cases h),fun x h=>(by cases h)⟩
theorem lexA_of {s:Bs} (h:s.length<=4000):qif s=qm9 (s.length+1) s 0 [] []:=by
 unfold qif;rw[iN (by omega)]
theorem mvT_nil (T0:List Tok) (m:Nat):mvT T0 m []=T0:=List.append_nil _
section
variable {s:Bs}
end
end Go.Proofs.YtafbipadnnmccaaDoor.W

namespace Go.Proofs.YtafbipadnnmccaaDoor.W
open Go.Proofs.YtafbipadnnmccaaDoor.Ev Go.RowKit
section
variable {K:FuncId->Option KF} {S U T:St}
def VwT (S:St) (v:V) (toks:List Tok):Prop:=(∀T,lnS v T=some (.int .i64 (toks.length:Int),T))/\toks.length<1000000000/\∀(i:Nat) (t:Tok),toks[i]?=some t->∃r c u rows Q,ixP 5 v (.int .i64 (i:Int))=some (.ptr r c)/\RV S u 49 6 rows/\PrAt S Q t.parts rows/\ld1 (.ptr r (c+0)) S=some (.int .i64 (t.kind:Int),S)/\ld1 (.ptr r (c+1)) S=some (sv t.text,S)/\ld1 (.ptr r (c+2)) S=some (u,S)/\ld1 (.ptr r (c+3)) S=some (.bool t.quoted,S)/\ld1 (.ptr r (c+4)) S=some (.int .i64 (t.at_:Int),S)
theorem vw_of (ho:S.on=false) {v:V} {rows:List (Tr V)} {Q:Nat->Prop} {toks:List Tok} (hv:RV S v 39 5 rows) (ht:TksAt S Q toks rows) (hs:toks.length<1000000000):VwT S v toks:=by
 refine⟨fun T=>by rw[<- ht.1]; exact hv.len T,hs,fun i t hi=>?_⟩;have hlt:=(List.getElem?_eq_some_iff.1 hi).1;have h1:=ht.1;obtain⟨r,hr1,hr2,hr3,hr4⟩:=hv.at (i:=i) (by omega)
 obtain⟨c,hg,u,ru,rfl,hu,hw,hb⟩:=ht.2 i t hi;exact⟨r,i*5,u,ru,Q,hr2,hu,hw,qfe ho hr3 hg (by decide) (rowT0 t u),qfe ho hr3 hg (by decide) (rowT1 t u),qfe ho hr3 hg (by decide) (rowT2 t u),qfe ho hr3 hg (by decide) (rowT3 t u),qfe ho hr3 hg (by decide) (rowT4 t u)⟩
end
end Go.Proofs.YtafbipadnnmccaaDoor.W

namespace Go.Proofs.YtafbipadnnmccaaDoor.W
open Go.Proofs.YtafbipadnnmccaaDoor.Ev Go.RowKit
section
variable {K:FuncId->Option KF} {S U T:St}
theorem cat10 (c d:Bool) (a:Bs) (h:a.length<100000) (t:Bs) (ht:t.length<100000):qa5 E0 .add 9 c d (sv a) (sv t)=some (sv (a++t)):=qbf c d (by omega)
end
end Go.Proofs.YtafbipadnnmccaaDoor.W


namespace Go.Proofs.YtafbipadnnmccaaDoor.W
open Go.Proofs.YtafbipadnnmccaaDoor.Ev Go.RowKit
theorem rpl_no (c:UInt8) (new:Bs) (h:c∉new):∀t:Bs,c∉qd4 c new t
 | []=>by simp[qd4]
 | x::t=>by
  have ih:=rpl_no c new h t;unfold qd4;by_cases hx:x=c
  . rw[iP hx]
    intro hm;rcases List.mem_append.1 hm with hm|hm
    . exact h hm
    . exact ih hm
  . rw[iN hx]
    intro hm;rcases List.mem_cons.1 hm with rfl|hm
    . exact hx rfl
    . exact ih hm
section
variable {K:FuncId->Option KF} {S U T:St}
theorem lex_anyK (hK:RefL K) (d:Nat) (t:Bs) (ho:S.on=false) (hl:t.length<=4100) (hd:92000<=d):∃U v e rows,(ev E0 K (d+40)).f 8 [sv t] S=some (.ret (.tuple [v,e]),U)/\Grew (fun _=>False) S U/\((∃T,qif t=.ok T/\e=.niliface/\RV U v 39 5 rows/\TksAt U (fun x=>S.next<=x/\x<U.next) T rows)\/(∃f x,qif t=.error f/\v=.nilslice/\e=.iface 51 (.ptr x 0)/\rows=[])):=by
 have h8:=lex_run hK (d+19) t ho (by omega) (by omega);cases hA:qif t with
 | ok toks=>
  rw[hA]at h8;obtain⟨U1,v,rT,r1,r2,r3,r4,r5⟩:=h8;exact⟨U1,v,.niliface,rT,r1,qd8 r5,.inl ⟨toks,rfl,rfl,r2,r3⟩⟩
 | error f=>
  rw[hA]at h8;obtain⟨U1,x,r1,r2,r3,r4,r5⟩:=h8;exact⟨U1,.nilslice,.iface 51 (.ptr x 0),[],r1,qd8 r5,.inr ⟨f,x,rfl,rfl,rfl,rfl⟩⟩
end
end Go.Proofs.YtafbipadnnmccaaDoor.W

namespace Go.Proofs.YtafbipadnnmccaaDoor.W
open Go.Proofs.YtafbipadnnmccaaDoor.Ev
def spcB (b:UInt8):Bool:=b==92||b==34||b==36||b==96
def qen:Bs->Bs
 | []=>[]
 | b::t=>if spcB b then 92::b::qen t else b::qen t
theorem rpl_cons (c:UInt8) (new:Bs) (x:UInt8) (t:Bs):qd4 c new (x::t)=if x=c then new++qd4 c new t else x::qd4 c new t:=rfl
theorem esc_cons (x:UInt8) (t:Bs):qen (x::t)=if spcB x then 92::x::qen t else x::qen t:=rfl
theorem qjt (c:UInt8) (new:Bs):∀a b:Bs,qd4 c new (a++b)=qd4 c new a++qd4 c new b
 | [],b=>rfl
 | x::a,b=>by
  rw[List.cons_append,rpl_cons,rpl_cons];by_cases hx:x=c
  . rw[iP hx,iP hx,qjt c new a b,List.append_assoc]
  . rw[iN hx,iN hx,qjt c new a b,List.cons_append]
theorem rpl_one (c:UInt8) (new:Bs) (x:UInt8):qd4 c new [x]=if x=c then new else [x]:=by
 unfold qd4;by_cases hx:x=c
 . rw[iP hx,iP hx]
   show new++[]=new;rw[List.append_nil]
 . rw[iN hx,iN hx]; rfl
def quadB (t:Bs):Bs:=qd4 96 [92,96] (qd4 36 [92,36] (qd4 34 [92,34] (qd4 92 [92,92] t)))
theorem quad_one (x:UInt8):quadB [x]=if spcB x then [92,x]else [x]:=by
 unfold quadB;rw[rpl_one];by_cases h1:x=92
 . subst h1; rfl
 rw[iN h1,rpl_one];by_cases h2:x=34
 . subst h2; rfl
 rw[iN h2,rpl_one];by_cases h3:x=36
 . subst h3; rfl
 rw[iN h3,rpl_one];by_cases h4:x=96
 . subst h4; rfl
 rw[iN h4]
 have:spcB x=false:=by
  unfold spcB;rw[beq_eq_false_iff_ne.2 h1,beq_eq_false_iff_ne.2 h2,beq_eq_false_iff_ne.2 h3,beq_eq_false_iff_ne.2 h4];rfl
 rw[this];rfl
theorem quad_esc:∀t:Bs,quadB t=qen t
 | []=>rfl
 | x::t=>by
  have h:quadB (x::t)=quadB [x]++quadB t:=by
   unfold quadB;rw[<- qjt,<- qjt,<- qjt,<- qjt];rfl
  rw[h,quad_one,quad_esc t,esc_cons];by_cases hx:spcB x=true
  . rw[iP hx,iP hx]; rfl
  . rw[iN hx,iN hx]; rfl
theorem esc_len:∀t:Bs,(qen t).length<=2*t.length/\t.length<=(qen t).length
 | []=>⟨lR _,lR _⟩
 | x::t=>by
  have ih:=esc_len t;unfold qen;split
  . simp only[List.length_cons]; omega
  . simp only[List.length_cons]; omega
theorem qdp {s r:Bs} {i:Nat} {b:UInt8} (h:s.drop i=b::r):i<s.length/\byt s i=b/\s.drop (i+1)=r:=by
 have hi:i<s.length:=by
  rcases Nat.lt_or_ge i s.length with h'|h'
  . exact h'
  . rw[List.drop_eq_nil_of_le h']at h; cases h
 rw[List.drop_eq_getElem_cons hi]at h;obtain⟨h1,h2⟩:=List.cons.inj h;exact⟨hi,by rw[<- h1]; exact(qfj hi).symm,h2⟩
theorem atD_ne {s r:Bs} {i:Nat} {b c d:UInt8} (h:s.drop i=b::r) (hb:b≠c):atD s i [c,d]=false:=by
 unfold atD;rw[h,beq_eq_false_iff_ne];intro hh;exact hb (take_head hh)
theorem atD_ne2 {s r:Bs} {i:Nat} {b c d e:UInt8} (h:s.drop i=b::e::r) (he:e≠d):atD s i [c,d]=false:=by
 unfold atD;rw[h,beq_eq_false_iff_ne];intro hh;have:[b,e]=[c,d]:=hh;exact he (List.cons.inj (List.cons.inj this).2).1
theorem qm6 (s:Bs):∀(t:Bs) (n i:Nat) (v text:Bs),t.length<n->s.drop i=qen t++34::v->qar n s 1 0 i [] text=.ok (qkw 1 [] (text++t),i+(qen t).length)
 | t,0,i,v,text,hn,_=>absurd hn (Nat.not_lt_zero _)
 | [],n+1,i,v,text,hn,hd=>by
  obtain⟨h1,h2,h3⟩:=qdp (s:=s) (r:=v) (b:=34) hd;unfold qar;rw[h2,iN (fun h=>absurd h.2 (by decide)),List.append_nil];rfl
 | b::t,n+1,i,v,text,hn,hd=>by
  rw[List.length_cons]at hn;by_cases hs:spcB b=true
  . have he:qen (b::t)=92::b::qen t:=by rw[qen,iP hs]
    rw[he]at hd ⊢;have hd':s.drop i=92::b::(qen t++34::v):=hd;obtain⟨h1,h2,h3⟩:=qdp hd';obtain⟨h4,h5,h6⟩:=qdp h3;have hb10:b≠10:=by rintro rfl; exact absurd hs (by decide)
    have ih:=qm6 s t n (i+2) v (text++[b]) (by omega) h6;unfold qar;rw[h2,h5,iP ⟨h1,by decide⟩,atD_ne2 hd' hb10,iN (by decide),iP rfl,iN (by omega),iP (show inD 1=true from rfl)]
    have hc:((([36,96,92]:Bs).contains b||(b==34&&(1:Nat) != 2))=true):=by
     unfold spcB at hs;revert hs;simp only[Bool.or_eq_true,beq_iff_eq];rintro (((rfl|rfl)|rfl)|rfl)<;>decide
    rw[iP hc,List.append_nil,ih,List.append_assoc];simp only[List.length_cons,List.singleton_append];rw[show i+2+(qen t).length=i+((qen t).length+1+1) by omega]
  . have hs':spcB b=false:=by simpa using hs
    have he:qen (b::t)=b::qen t:=by rw[qen,iN hs]
    rw[he]at hd ⊢;have hd':s.drop i=b::(qen t++34::v):=hd;obtain⟨h1,h2,h3⟩:=qdp hd';unfold spcB at hs';simp only[Bool.or_eq_false_iff,beq_eq_false_iff_ne]at hs';obtain⟨⟨⟨n92,n34⟩,n36⟩,n96⟩:=hs';have ih:=qm6 s t n (i+1) v (text++[b]) (by omega) h3;unfold qar
    rw[h2,iP (show i<s.length/\endsD 1 b=false from⟨h1,by
     show(if(1:Nat)=0 then _ else if(1:Nat)=1 then b==34 else _)=false;rw[iN (by decide),iP rfl,beq_eq_false_iff_ne]
     exact n34⟩),atD_ne hd' n92,iN (by decide),iN n92,iN n36,iN (by
     rw[dF n96,beq_eq_false_iff_ne.2 n34]
     decide),iN (by
     rw[show inD 1=true from rfl,Bool.not_true,Bool.and_false]
     decide),iN (by
     rw[show inD 1=true from rfl,Bool.not_true,Bool.and_false]
     decide),ih,List.append_assoc]
    simp only[List.length_cons,List.singleton_append];rw[show i+1+(qen t).length=i+((qen t).length+1) by omega]
def oneB (t:Bs):Bs:=39::t++[39,32]
def qn9 (t:Bs):Bs:=34::qen t++[34,9]
theorem pars_one {s t u:Bs} (ht:(39:UInt8)∉t) (hs:s=oneB t++u):qar (qcl s) s 0 0 0 [] []=.ok ([.mk 1 t [] false []],t.length+2):=by
 have hd:s.drop 0=39::(t++39::32::u):=by rw[hs]; unfold oneB; simp
 obtain⟨h1,h2,h3⟩:=qdp hd
 have hx:qji s 1 39=some (t.length+1):=by
  unfold qji
  rw[h3,List.findIdx?_append,List.findIdx?_eq_none_iff.2 fun x hx=>by
   rw[beq_eq_false_iff_ne];rintro rfl
   exact ht hx]
  rw[List.findIdx?_cons];simp
 have hd2:s.drop (t.length+1+1)=32::u:=by
  rw[hs];unfold oneB;rw[show 39::t++[39,32]++u=(39::t++[39])++32::u by simp,show t.length+1+1=(39::t++[39]).length by simp,List.drop_left]
 obtain⟨k1,k2,k3⟩:=qdp hd2;unfold qcl;rw[show 4*s.length+100=(4*s.length+98)+1+1 by omega];unfold qar;rw[h2,iP ⟨h1,by decide⟩,atD_ne hd (by decide),iN (by decide),iN (by decide),iN (by decide),iN (by decide),iP (by decide),hx];dsimp only;unfold qar;rw[k2,iN (fun h=>absurd h.2 (by decide)),h3,show t.length+1-(0+1)=t.length by omega,List.take_left];rfl
theorem pars_two {s t u:Bs} (hs:s=qn9 t++u):qar (qcl s) s 0 0 0 [] []=.ok ([.mk 1 t [] true []],(qen t).length+2):=by
 have hd:s.drop 0=34::(qen t++34::9::u):=by rw[hs]; unfold qn9; simp
 obtain⟨h1,h2,h3⟩:=qdp hd
 have hlen:s.length=(qen t).length+3+u.length:=by
  rw[hs];unfold qn9;simp only[lAq,List.length_cons,List.length_nil]<;>omega
 have hel:=esc_len t
 have hd2:s.drop ((qen t).length+1)=34::9::u:=by
  rw[hs];unfold qn9;rw[show 34::qen t++[34,9]++u=(34::qen t)++34::9::u by simp,show(qen t).length+1=(34::qen t).length by simp,List.drop_left]
 obtain⟨k1,k2,k3⟩:=qdp hd2;obtain⟨q1,q2,q3⟩:=qdp k3;have hin:=qm6 s t (4*s.length+99) 1 (9::u) [] (by omega) h3;unfold qcl;rw[show 4*s.length+100=(4*s.length+99)+1 by omega];unfold qar;rw[h2,iP ⟨h1,by decide⟩,atD_ne hd (by decide),iN (by decide),iN (by decide),iN (by decide),iN (by decide),iN (by decide),iP (by decide),show 0+1=1 from rfl,hin];dsimp only;rw[show 1+(qen t).length=(qen t).length+1 by omega,qc0 k1,k2,iP (by decide),show 4*s.length+99=(4*s.length+98)+1 by omega];unfold qar;rw[q2,iN (fun h=>absurd h.2 (by decide)),List.nil_append];cases t<;>rfl
theorem front {s x u:Bs} {c w:UInt8} {p:Part} {j:Nat} (hs:s=x++u) (hx:x.length=j+1) (hc:s.drop 0=c::s.drop 1) (hcc:c=39\/c=34) (hw:byt s j=w) (hww:w=32\/w=9) (hj:j<s.length) (hp:qar (qcl s) s 0 0 0 [] []=.ok ([p],j)) {B:List Tok} (hB:qm9 (u.length+1) u 0 [] []=.ok B):∃B',qm9 (s.length+1) s 0 [] []=.ok B'/\B'.map Tok.parts=[p]::B.map Tok.parts:=by
 obtain⟨h1,h2,_⟩:=qdp hc;have hsl:s.length=j+1+u.length:=by rw[hs,lAq,hx]
 have hn:∀d e,d≠c->atD s 0 (d::e)=false:=fun d e hd=>by
  unfold atD;rw[hc,beq_eq_false_iff_ne];intro hh;exact hd (take_head hh).symm
 have hsk:qgz (s.length+1) s 0=0:=by
  unfold qgz;rw[h2,hn 92 [10] (by rcases hcc with rfl|rfl<;>decide),iN (show ¬(c=32/\0<s.length)from fun h=>by rcases hcc with rfl|rfl<;>exact absurd h.1 (by decide)),iN (show ¬c=9 by rcases hcc with rfl|rfl<;>decide),iN (by decide)]
 have hmk:qfq s 0=0:=by
  have hdg:digM s 0=false:=by
   unfold digM;rw[h2];rcases hcc with rfl|rfl<;>rfl
  rw[qhb,hdg]
  have:(marT.find? fun o=>atD s (0+if false=true then 1 else 0) o)=none:=by
   rw[List.find?_eq_none];intro o ho;rw[iN (by decide)];simp only[marT,List.mem_cons,List.not_mem_nil,or_false]at ho;rcases ho with rfl|rfl|rfl|rfl|rfl|rfl|rfl|rfl|rfl|rfl|rfl|rfl<;>rw[hn _ _ (by rcases hcc with rfl|rfl<;>decide)]<;>decide
  rw[this]
 have hst:qju s 0 [] []=.ok (j,[⟨0,[],[p],false,0⟩],[]):=by
  unfold qju linD remD mrkD wrdD;rw[hn 10 [] (by rcases hcc with rfl|rfl<;>decide),iN (by decide)];dsimp only;rw[hn 35 [] (by rcases hcc with rfl|rfl<;>decide),iN (by decide)];dsimp only;rw[hmk,iN (by decide),hn 38 [] (by rcases hcc with rfl|rfl<;>decide),iN (by decide)];dsimp only;rw[hp];rfl
 have hlx:qm9 (s.length+1) s 0 [] []=qm9 s.length s (j+1) [⟨0,[],[p],false,0⟩] []:=by
  rw[qf7,hsk,iP h1,hst];dsimp only;refine lex_at _ _ _ ?_
  rw[show qgz (s.length+1) s j=qgz s.length s (j+1) by
   rw[qgz,hw];rcases hww with rfl|rfl
   . rw[iP ⟨rfl,hj⟩]
   . rw[iN (show ¬((9:UInt8)=32/\j<s.length)from fun h=>absurd h.1 (by decide)),iP rfl]]
  have e1:=sh_ski [] s s.length (s.length+1) (j+1) (by omega) (by omega);rw[List.nil_append,List.length_nil,Nat.zero_add,Nat.zero_add]at e1;exact e1.symm
 have hsh:=lex_sh x u [⟨0,[],[p],false,0⟩] rfl (u.length+1) s.length 0 [] [] (Nat.zero_le _) (by omega) (by omega) (inv0 u);rw[mvT_nil,Nat.add_zero,List.map_nil,<- hs,hx,hB]at hsh;refine⟨_,hlx.trans hsh,?_⟩;show(mvT [⟨0,[],[p],false,0⟩] (j+1) B).map Tok.parts=_;unfold mvT;rw[List.map_append,List.map_map];rfl
theorem one_law:∀l:List Bs,(∀t∈l,(39:UInt8)∉t)->∃B,qm9 ((l.map oneB).flatten.length+1) (l.map oneB).flatten 0 [] []=.ok B/\B.map Tok.parts=l.map fun t=>[Part.mk 1 t [] false []]
 | [],_=>⟨[],rfl,rfl⟩
 | t::l,h=>by
  obtain⟨B,h1,h2⟩:=one_law l fun x hx=>h x (mO _ hx);rw[List.map_cons,List.flatten_cons];generalize hu:(l.map oneB).flatten=u at *;have hj:(oneB t).length=t.length+2+1:=by unfold oneB; simp
  have hw:byt (oneB t++u) (t.length+2)=32:=by
   have hd2:(oneB t++u).drop (t.length+2)=32::u:=by
    unfold oneB;rw[show 39::t++[39,32]++u=(39::t++[39])++32::u by simp,show t.length+2=(39::t++[39]).length by simp,List.drop_left]
   exact(qdp hd2).2.1
  obtain⟨B',k1,k2⟩:=front (s:=oneB t++u) (x:=oneB t) (u:=u) (c:=39) (w:=32) rfl hj (by unfold oneB; simp) (.inl rfl) hw (.inl rfl) (by rw[lAq]; omega) (pars_one (h t (List.mem_cons_self ..)) rfl) h1;exact⟨B',k1,by rw[k2,h2]; rfl⟩
theorem two_law:∀l:List Bs,∃B,qm9 ((l.map qn9).flatten.length+1) (l.map qn9).flatten 0 [] []=.ok B/\B.map Tok.parts=l.map fun t=>[Part.mk 1 t [] true []]
 | []=>⟨[],rfl,rfl⟩
 | t::l=>by
  obtain⟨B,h1,h2⟩:=two_law l;rw[List.map_cons,List.flatten_cons];generalize hu:(l.map qn9).flatten=u at *;have hj:(qn9 t).length=(qen t).length+2+1:=by unfold qn9; simp
  have hw:byt (qn9 t++u) ((qen t).length+2)=9:=by
   have hd2:(qn9 t++u).drop ((qen t).length+2)=9::u:=by
    unfold qn9;rw[show 34::qen t++[34,9]++u=(34::qen t++[34])++9::u by simp,show(qen t).length+2=(34::qen t++[34]).length by simp,List.drop_left]
   exact(qdp hd2).2.1
  obtain⟨B',k1,k2⟩:=front (s:=qn9 t++u) (x:=qn9 t) (u:=u) (c:=34) (w:=9) rfl hj (by unfold qn9; simp) (.inr rfl) hw (.inr rfl) (by rw[lAq]; omega) (pars_two rfl) h1;exact⟨B',k1,by rw[k2,h2]; rfl⟩
set_option maxRecDepth 100000
noncomputable section
def C6:Code:=Tryd.f6.body.getD .skip
def B6:D:=(qaz C6 [[],[],[],[],[],[],[],[0,3,4,5,6],[],[3,4,5],[],[],[],[],[],[],[0,3,4,5],[2],[],[],[],[],[],[],[],[],[],[5,9,11,13],[],[],[],[],[],[],[],[],[],[0],[2],[]]).1
def RL6:List Nat:=cellsOf Tryd.f6.results.toList
def R6_7 (self:EV) (N:Nat) (nk:Ac->St->Rs) (ek:Nat->Ac->St->Rs) (a:Ac) (S:St):Rs:=qb8 [3,4,5] a fun a=>dr E0 self RL6 N (B6.r.r.r.r).r (mkK E0 self Tryd.f6 nk ek) a S
def R6_52 (self:EV) (N:Nat) (nk:Ac->St->Rs) (ek:Nat->Ac->St->Rs) (a:Ac) (S:St):Rs:=qb8 [] a fun a=>dr E0 self RL6 N (B6.r.r.r.r.r.l.r.r.r.r).r (mkK E0 self Tryd.f6 nk ek) a S
theorem R6_52_eq (self:EV) (N:Nat) (nk:Ac->St->Rs) (ek:Nat->Ac->St->Rs) (S:St):R6_52 self N nk ek (fr 188 []) S =
some (.ret (.bool true),S):=by kernel_rfl
def L6_55 (self:EV) (N:Nat) (nk:Ac->St->Rs) (ek:Nat->Ac->St->Rs) (n:Nat) ( v5 v9 v11 v13:V) (S:St):Rs:=qdq [5,9,11,13] (dr E0 self RL6 N (B6.r.r.r.r.r.l.r.r.r.r.l.r.l.l)) (mkK E0 self Tryd.f6 nk ek) n (fr 188 [(5,v5),(9,v9),(11,v11),(13,v13)]) S
theorem L6_55_eq (self:EV) (N:Nat) (nk:Ac->St->Rs) (ek:Nat->Ac->St->Rs) (n:Nat) ( v5 v9 v11 v13:V) (S:St):L6_55 self N nk ek (n+1) v5 v9 v11 v13 S =
(lnS v5 S).bind fun p58=>
(qa5 E0 .lss 3 false false v13 p58.1).bind fun t59=>
ifK t59 (
(ixP 5 v9 v13).bind fun t62=>
(faP 2 false 1 t62).bind fun t63=>
(ld1 t63 (onS p58.2)).bind fun p64=>
(lnS p64.1 (onS p64.2)).bind fun p65=>
(qa5 E0 .neq 3 false true p65.1 (.int .i64 1)).bind fun t66=>
(qa2 false t66).bind fun g68=>(bif g68 then some v9 else some (.tuple [])).bind fun t68=>
(qa2 false t66).bind fun g69=>(bif g69 then some v13 else some (.tuple [])).bind fun t69=>
(qa2 false t66).bind fun g70=>(bif g70 then ixP 5 t68 t69 else some (.tuple [])).bind fun t70=>
(qa2 false t66).bind fun g71=>(bif g71 then faP 2 false 1 t70 else some (.tuple [])).bind fun t71=>
(qa2 false t66).bind fun g72=>(bif g72 then ld1 t71 (onS p65.2)else some (.tuple [],(onS p65.2))).bind fun p72=>
(qa2 false t66).bind fun g73=>(bif g73 then ixP 6 p72.1 (.int .i64 0)else some (.tuple [])).bind fun t73=>
(qa2 false t66).bind fun g74=>(bif g74 then faP 1 false 1 t73 else some (.tuple [])).bind fun t74=>
(qa2 false t66).bind fun g75=>(bif g75 then ld1 t74 (onS p72.2)else some (.tuple [],(onS p72.2))).bind fun p75=>
(qa2 false t66).bind fun g76=>(bif g76 then some v5 else some (.tuple [])).bind fun t76=>
(qa2 false t66).bind fun g77=>(bif g77 then some v13 else some (.tuple [])).bind fun t77=>
(qa2 false t66).bind fun g78=>(bif g78 then ixP 1 t76 t77 else some (.tuple [])).bind fun t78=>
(qa2 false t66).bind fun g79=>(bif g79 then ld1 t78 (onS p75.2)else some (.tuple [],(onS p75.2))).bind fun p79=>
(qa2 false t66).bind fun g80=>(bif g80 then qa5 E0 .neq 9 false false p75.1 p79.1 else some (.tuple [])).bind fun t80=>
(qao t66 (some (.bool true)) (some t80)).bind fun t81=>
(qa2 false t81).bind fun g83=>(bif g83 then some v9 else some (.tuple [])).bind fun t83=>
(qa2 false t81).bind fun g84=>(bif g84 then some v13 else some (.tuple [])).bind fun t84=>
(qa2 false t81).bind fun g85=>(bif g85 then ixP 5 t83 t84 else some (.tuple [])).bind fun t85=>
(qa2 false t81).bind fun g86=>(bif g86 then faP 2 false 1 t85 else some (.tuple [])).bind fun t86=>
(qa2 false t81).bind fun g87=>(bif g87 then ld1 t86 (onS p79.2)else some (.tuple [],(onS p79.2))).bind fun p87=>
(qa2 false t81).bind fun g88=>(bif g88 then ixP 6 p87.1 (.int .i64 0)else some (.tuple [])).bind fun t88=>
(qa2 false t81).bind fun g89=>(bif g89 then faP 0 false 1 t88 else some (.tuple [])).bind fun t89=>
(qa2 false t81).bind fun g90=>(bif g90 then ld1 t89 (onS p87.2)else some (.tuple [],(onS p87.2))).bind fun p90=>
(qa2 false t81).bind fun g91=>(bif g91 then qa5 E0 .neq 3 false true p90.1 (.int .i64 1)else some (.tuple [])).bind fun t91=>
(qao t81 (some (.bool true)) (some t91)).bind fun t92=>
(qa2 false t92).bind fun g94=>(bif g94 then some v9 else some (.tuple [])).bind fun t94=>
(qa2 false t92).bind fun g95=>(bif g95 then some v13 else some (.tuple [])).bind fun t95=>
(qa2 false t92).bind fun g96=>(bif g96 then ixP 5 t94 t95 else some (.tuple [])).bind fun t96=>
(qa2 false t92).bind fun g97=>(bif g97 then faP 2 false 1 t96 else some (.tuple [])).bind fun t97=>
(qa2 false t92).bind fun g98=>(bif g98 then ld1 t97 (onS p90.2)else some (.tuple [],(onS p90.2))).bind fun p98=>
(qa2 false t92).bind fun g99=>(bif g99 then ixP 6 p98.1 (.int .i64 0)else some (.tuple [])).bind fun t99=>
(qa2 false t92).bind fun g100=>(bif g100 then faP 3 false 1 t99 else some (.tuple [])).bind fun t100=>
(qa2 false t92).bind fun g101=>(bif g101 then ld1 t100 (onS p98.2)else some (.tuple [],(onS p98.2))).bind fun p101=>
(qao t92 (some (.bool true)) (some p101.1)).bind fun t102=>
qh7 [(12,[19]),(15,[19])] p58.2 [[],[],[],[],p64.2.log,p65.2.log,[],[],[],[],[],[],p72.2.log,[],[],p75.2.log,[],[],[],p79.2.log,[],[],[],[],[],[],[],p87.2.log,[],[],p90.2.log,[],[],[],[],[],[],[],p98.2.log,[],[],p101.2.log,[]] (onS p101.2) fun S103=>
ifK t102 (
some (.ret (.bool false),S103)) (
(ixP 5 v11 v13).bind fun t107=>
(faP 2 false 1 t107).bind fun t108=>
(ld1 t108 (onS S103)).bind fun p109=>
(lnS p109.1 (onS p109.2)).bind fun p110=>
(qa5 E0 .neq 3 false true p110.1 (.int .i64 1)).bind fun t111=>
(qa2 false t111).bind fun g113=>(bif g113 then some v11 else some (.tuple [])).bind fun t113=>
(qa2 false t111).bind fun g114=>(bif g114 then some v13 else some (.tuple [])).bind fun t114=>
(qa2 false t111).bind fun g115=>(bif g115 then ixP 5 t113 t114 else some (.tuple [])).bind fun t115=>
(qa2 false t111).bind fun g116=>(bif g116 then faP 2 false 1 t115 else some (.tuple [])).bind fun t116=>
(qa2 false t111).bind fun g117=>(bif g117 then ld1 t116 (onS p110.2)else some (.tuple [],(onS p110.2))).bind fun p117=>
(qa2 false t111).bind fun g118=>(bif g118 then ixP 6 p117.1 (.int .i64 0)else some (.tuple [])).bind fun t118=>
(qa2 false t111).bind fun g119=>(bif g119 then faP 1 false 1 t118 else some (.tuple [])).bind fun t119=>
(qa2 false t111).bind fun g120=>(bif g120 then ld1 t119 (onS p117.2)else some (.tuple [],(onS p117.2))).bind fun p120=>
(qa2 false t111).bind fun g121=>(bif g121 then some v5 else some (.tuple [])).bind fun t121=>
(qa2 false t111).bind fun g122=>(bif g122 then some v13 else some (.tuple [])).bind fun t122=>
(qa2 false t111).bind fun g123=>(bif g123 then ixP 1 t121 t122 else some (.tuple [])).bind fun t123=>
(qa2 false t111).bind fun g124=>(bif g124 then ld1 t123 (onS p120.2)else some (.tuple [],(onS p120.2))).bind fun p124=>
(qa2 false t111).bind fun g125=>(bif g125 then qa5 E0 .neq 9 false false p120.1 p124.1 else some (.tuple [])).bind fun t125=>
(qao t111 (some (.bool true)) (some t125)).bind fun t126=>
(qa2 false t126).bind fun g128=>(bif g128 then some v11 else some (.tuple [])).bind fun t128=>
(qa2 false t126).bind fun g129=>(bif g129 then some v13 else some (.tuple [])).bind fun t129=>
(qa2 false t126).bind fun g130=>(bif g130 then ixP 5 t128 t129 else some (.tuple [])).bind fun t130=>
(qa2 false t126).bind fun g131=>(bif g131 then faP 2 false 1 t130 else some (.tuple [])).bind fun t131=>
(qa2 false t126).bind fun g132=>(bif g132 then ld1 t131 (onS p124.2)else some (.tuple [],(onS p124.2))).bind fun p132=>
(qa2 false t126).bind fun g133=>(bif g133 then ixP 6 p132.1 (.int .i64 0)else some (.tuple [])).bind fun t133=>
(qa2 false t126).bind fun g134=>(bif g134 then faP 0 false 1 t133 else some (.tuple [])).bind fun t134=>
(qa2 false t126).bind fun g135=>(bif g135 then ld1 t134 (onS p132.2)else some (.tuple [],(onS p132.2))).bind fun p135=>
(qa2 false t126).bind fun g136=>(bif g136 then qa5 E0 .neq 3 false true p135.1 (.int .i64 1)else some (.tuple [])).bind fun t136=>
(qao t126 (some (.bool true)) (some t136)).bind fun t137=>
(qa2 false t137).bind fun g139=>(bif g139 then some v11 else some (.tuple [])).bind fun t139=>
(qa2 false t137).bind fun g140=>(bif g140 then some v13 else some (.tuple [])).bind fun t140=>
(qa2 false t137).bind fun g141=>(bif g141 then ixP 5 t139 t140 else some (.tuple [])).bind fun t141=>
(qa2 false t137).bind fun g142=>(bif g142 then faP 2 false 1 t141 else some (.tuple [])).bind fun t142=>
(qa2 false t137).bind fun g143=>(bif g143 then ld1 t142 (onS p135.2)else some (.tuple [],(onS p135.2))).bind fun p143=>
(qa2 false t137).bind fun g144=>(bif g144 then ixP 6 p143.1 (.int .i64 0)else some (.tuple [])).bind fun t144=>
(qa2 false t137).bind fun g145=>(bif g145 then faP 3 false 1 t144 else some (.tuple [])).bind fun t145=>
(qa2 false t137).bind fun g146=>(bif g146 then ld1 t145 (onS p143.2)else some (.tuple [],(onS p143.2))).bind fun p146=>
(qa2 false t137).bind fun g147=>(bif g147 then unV .not p146.1 else some (.tuple [])).bind fun t147=>
(qao t137 (some (.bool true)) (some t147)).bind fun t148=>
qh7 [(12,[19]),(15,[19])] S103 [[],[],[],[],p109.2.log,p110.2.log,[],[],[],[],[],[],p117.2.log,[],[],p120.2.log,[],[],[],p124.2.log,[],[],[],[],[],[],[],p132.2.log,[],[],p135.2.log,[],[],[],[],[],[],[],p143.2.log,[],[],p146.2.log,[],[]] (onS p146.2) fun S149=>
ifK t148 (
some (.ret (.bool false),S149)) (
(qa5 E0 .add 3 false true v13 (.int .i64 1)).bind fun t152=>
L6_55 self N nk ek n v5 v9 v11 t152 S149))) (
ek 2 (fr 188 []) p58.2):=by kernel_rfl
theorem R6_7_eq (self:EV) (N:Nat) (nk:Ac->St->Rs) (ek:Nat->Ac->St->Rs) ( v3 v4 v5:V) (S:St):R6_7 self N nk ek (fr 188 [(3,v3),(4,v4),(5,v5)]) S =
callP (self.f 8 [v3] S) fun t9 S9=>
(qac t9 0).bind fun t11=>
(qac t9 1).bind fun t12=>
callP (self.f 8 [v4] S9) fun t16 S16=>
(qac t16 0).bind fun t18=>
(qac t16 1).bind fun t19=>
(qbw v3 S16).bind fun p23=>
(qa5 E0 .gtr 3 false true p23.1 (.int .i64 4000)).bind fun t24=>
(qa2 false t24).bind fun g26=>(bif g26 then some v4 else some (.tuple [])).bind fun t26=>
(qa2 false t24).bind fun g27=>(bif g27 then qbw t26 p23.2 else some (.tuple [],p23.2)).bind fun p27=>
(qa2 false t24).bind fun g28=>(bif g28 then qa5 E0 .gtr 3 false true p27.1 (.int .i64 4000)else some (.tuple [])).bind fun t28=>
(qao t24 (some (.bool true)) (some t28)).bind fun t29=>
ifK t29 (
some (.ret (.bool true),p27.2)) (
(qa5 E0 .neq 24 false true t12 .niliface).bind fun t32=>
(qa2 false t32).bind fun g34=>(bif g34 then some t19 else some (.tuple [])).bind fun t34=>
(qa2 false t32).bind fun g35=>(bif g35 then qa5 E0 .neq 24 false true t34 .niliface else some (.tuple [])).bind fun t35=>
(qao t32 (some (.bool true)) (some t35)).bind fun t36=>
(qa2 false t36).bind fun g38=>(bif g38 then some t11 else some (.tuple [])).bind fun t38=>
(qa2 false t36).bind fun g39=>(bif g39 then lnS t38 p27.2 else some (.tuple [],p27.2)).bind fun p39=>
(qa2 false t36).bind fun g40=>(bif g40 then some v5 else some (.tuple [])).bind fun t40=>
(qa2 false t36).bind fun g41=>(bif g41 then lnS t40 p39.2 else some (.tuple [],p39.2)).bind fun p41=>
(qa2 false t36).bind fun g42=>(bif g42 then qa5 E0 .neq 3 false false p39.1 p41.1 else some (.tuple [])).bind fun t42=>
(qao t36 (some (.bool true)) (some t42)).bind fun t43=>
(qa2 false t43).bind fun g45=>(bif g45 then some t18 else some (.tuple [])).bind fun t45=>
(qa2 false t43).bind fun g46=>(bif g46 then lnS t45 p41.2 else some (.tuple [],p41.2)).bind fun p46=>
(qa2 false t43).bind fun g47=>(bif g47 then some v5 else some (.tuple [])).bind fun t47=>
(qa2 false t43).bind fun g48=>(bif g48 then lnS t47 p46.2 else some (.tuple [],p46.2)).bind fun p48=>
(qa2 false t43).bind fun g49=>(bif g49 then qa5 E0 .neq 3 false false p46.1 p48.1 else some (.tuple [])).bind fun t49=>
(qao t43 (some (.bool true)) (some t49)).bind fun t50=>
ifK t50 (
some (.ret (.bool false),p48.2)) (
L6_55 self N (R6_52 self N (fun a s=>qb8 [2] a fun a=>nk a s) ek) (exB 2 (R6_52 self N (fun a s=>qb8 [2] a fun a=>nk a s) ek) ek) N v5 t11 t18 (.int .i64 0) p48.2)):=by kernel_rfl
def L6_155 (self:EV) (N:Nat) (nk:Ac->St->Rs) (ek:Nat->Ac->St->Rs) (n:Nat) ( v0 v3 v4 v5 v6:V) (S:St):Rs:=qdq [0,3,4,5,6] (dr E0 self RL6 N (B6.r.r.r.r.l.r.l.l)) (mkK E0 self Tryd.f6 nk ek) n (fr 188 [(0,v0),(3,v3),(4,v4),(5,v5),(6,v6)]) S
theorem L6_155_eq (self:EV) (N:Nat) (nk:Ac->St->Rs) (ek:Nat->Ac->St->Rs) (n:Nat) ( v0 v3 v4 v5 v6:V) (S:St):L6_155 self N nk ek (n+1) v0 v3 v4 v5 v6 S =
(lnS v0 S).bind fun p158=>
(qa5 E0 .lss 3 false false v6 p158.1).bind fun t159=>
(qa2 true t159).bind fun g161=>(bif g161 then some v6 else some (.tuple [])).bind fun t161=>
(qa2 true t159).bind fun g162=>(bif g162 then qa5 E0 .lss 3 false true t161 (.int .i64 20)else some (.tuple [])).bind fun t162=>
(qao t159 (some t162) (some (.bool false))).bind fun t163=>
ifK t163 (
(ixP 1 v0 v6).bind fun t166=>
(ld1 t166 (onS p158.2)).bind fun p167=>
(ixP 1 v0 v6).bind fun t170=>
(ld1 t170 (onS p167.2)).bind fun p171=>
(qbw p171.1 (onS p171.2)).bind fun p172=>
(qki minV p172.1 [(.int .i64 100)] (onS p172.2)).bind fun p173=>
(qak E0 9 p167.1 none (some p173.1) none (onS p173.2)).bind fun p174=>
qlm (qas E0 (B6.r.r.r.r.l.r.l.l.r.l.l.l).ops) p158.2 11 [[],[],[],p167.2.log,[],[],[],p171.2.log,p172.2.log,p173.2.log,p174.2.log] (self.f 17 [p174.1,(sv [39]),(sv [])] (onS p174.2)) fun t175 S175=>
qh7 [(3,[7,8,9])] p158.2 [[],[],[],p167.2.log,[],[],[],p171.2.log,p172.2.log,p173.2.log,p174.2.log,S175.log,[]] (onS S175) fun S177=>
(qa5 E0 .add 9 false true v3 (sv [39])).bind fun t179=>
(qa5 E0 .add 9 false false t179 t175).bind fun t181=>
(qa5 E0 .add 9 false true t181 (sv [39,32])).bind fun t182=>
callP (self.f 17 [t175,(sv [92]),(sv [92,92])] S177) fun t185 S185=>
callP (self.f 17 [t185,(sv [34]),(sv [92,34])] S185) fun t186 S186=>
callP (self.f 17 [t186,(sv [36]),(sv [92,36])] S186) fun t187 S187=>
callP (self.f 17 [t187,(sv [96]),(sv [92,96])] S187) fun t188 S188=>
(qa5 E0 .add 9 false true v4 (sv [34])).bind fun t191=>
(qa5 E0 .add 9 false false t191 t188).bind fun t193=>
(qa5 E0 .add 9 false true t193 (sv [34,9])).bind fun t194=>
(bsP 9 1 1 (Ev.one (sv [])) [(0,t175)] S188).bind fun p198=>
(apP 9 1 16 v5 p198.1 p198.2).bind fun p199=>
(qa5 E0 .add 3 false true v6 (.int .i64 1)).bind fun t202=>
L6_155 self N nk ek n v0 t182 t194 p199.1 t202 p199.2) (
ek 0 (fr 188 [(3,v3),(4,v4),(5,v5)]) p158.2):=by kernel_rfl
def F6 (self:EV) (N:Nat) (x0:V) (S:St):Rs:=qdg E0 self N Tryd.f6 B6 [x0] S
theorem F6_eq (self:EV) (N:Nat) (x0:V) (S:St):F6 self N x0 S =
callP (self.f 12 [] S) fun t1 S1=>
(unV .not t1).bind fun t2=>
ifK t2 (
some (.ret (.bool false),S1)) (
L6_155 self N (R6_7 self N (qbu E0 self Tryd.f6) qav) (exB 0 (R6_7 self N (qbu E0 self Tryd.f6) qav) qav) N x0 (sv []) (sv []) .nilslice (.int .i64 0) S1):=by kernel_rfl
end
end Go.Proofs.YtafbipadnnmccaaDoor.W
end
