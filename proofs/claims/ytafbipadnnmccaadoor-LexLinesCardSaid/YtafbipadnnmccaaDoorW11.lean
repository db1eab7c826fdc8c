/-
  WHAT THE FUNCTIONS COME TO: each is read by the evaluator,printed,and told as a function of data,part 11 of 12 (no condition).
-/
import Derived.Test.YtafbipadnnmccaaDoorW10
import Derived.Test.YtafbipadnnmccaaDoorProg
import Derived.KernelRfl
noncomputable section
namespace Go.Proofs.YtafbipadnnmccaaDoor.W
open Go.Proofs.YtafbipadnnmccaaDoor.Ev
section
variable {s x:Bs}
theorem qjs {i:Nat} (h:i<s.length):byt (s++10::x) i=byt s i:=by
 unfold byt;rw[List.getD_eq_getElem?_getD,List.getD_eq_getElem?_getD,List.getElem?_append_left h]
theorem byt_nl:byt (s++10::x) s.length=10:=by
 unfold byt;rw[List.getD_eq_getElem?_getD,List.getElem?_append_right (lR _),Nat.sub_self];rfl
theorem qdr:(s++10::x).length=s.length+1+x.length:=by rw[lAq,List.length_cons]; omega
theorem lt_ex {i:Nat} (h:i<s.length):i<(s++10::x).length:=by rw[qdr]; omega
theorem qfp {i:Nat} (h:i<=s.length):(s++10::x).drop i=s.drop i++10::x:=List.drop_append_of_le_length h
theorem qgy {i n:Nat} (h:i+n<=s.length):((s++10::x).drop i).take n=(s.drop i).take n:=by
 rw[qfp (by omega),List.take_append_of_le_length (by rw[List.length_drop]; omega)]
theorem takek_ex {k:Nat} (h:k<=s.length):(s++10::x).take k=s.take k:=List.take_append_of_le_length h
theorem qe9 {i:Nat} {t:Bs} (h10:(10:UInt8)∉t) (hi:i<=s.length):atD (s++10::x) i t=atD s i t:=by
 unfold atD;rw[qfp hi];generalize s.drop i=u;by_cases hl:t.length<=u.length
 . rw[List.take_append_of_le_length hl]
 . have h1:((u++10::x).take t.length==t)=false:=by
    rw[beq_eq_false_iff_ne];intro h;refine h10 ?_;rw[<- h,List.take_append];refine List.mem_append_right _ ?_;obtain⟨k,hk⟩:∃k,t.length-u.length=k+1:=⟨t.length-u.length-1,by omega⟩
    rw[hk,List.take_succ_cons];exact List.mem_cons_self ..
   have h2:(u.take t.length==t)=false:=by
    rw[beq_eq_false_iff_ne];intro h;have:=congrArg List.length h;rw[List.length_take]at this;omega
   rw[h1,h2]
theorem atD_ex2 {i:Nat} {t:Bs} (hi:i+t.length<=s.length):atD (s++10::x) i t=atD s i t:=by
 unfold atD;rw[qgy hi]
theorem nam_ex:∀(u:Bs) (n:Nat),namD (u++10::x) n=namD u n
 | [],n=>by
  show namD (10::x) n=n;unfold namD;rw[show letD 10=false from rfl,show digD 10=false from rfl,Bool.and_false,Bool.or_false,iN (by simp)]
 | c::u,n=>by
  rw[List.cons_append];unfold namD;rw[nam_ex u (n+1)]
theorem par_ex {u m:Bs} (h10:m.contains 10=false):qbr (u++10::x) m=qbr u m:=by
 unfold qbr;rw[nam_ex];cases u with
 | nil=>
  rw[List.nil_append];show(if namD [] 0=0 then(if(digD 10||m.contains 10)=true then 1 else 0)else namD [] 0)=_;rw[h10,show digD 10=false from rfl];rfl
 | cons c u=>rfl
theorem idx_ex {i k:Nat} {c:UInt8} (hi:i<=s.length) (h:qf0 s i c=some k):qf0 (s++10::x) i c=some k:=by
 unfold qf0 at *;rw[qfp hi,List.findIdx?_append];cases hf:(s.drop i).findIdx? (·==c)with
 | none=>rw[hf]at h; cases h
 | some j=>rw[hf]at h; exact h
theorem idx_nl {i:Nat} (hi:i<=s.length):(qf0 (s++10::x) i 10).getD (s++10::x).length=(qf0 s i 10).getD s.length:=by
 cases h:qf0 s i 10 with
 | some k=>rw[idx_ex hi h]; rfl
 | none=>
  unfold qf0 at *;rw[qfp hi,List.findIdx?_append];cases hf:(s.drop i).findIdx? (·==10)with
  | some j=>rw[hf]at h; cases h
  | none=>
   rw[List.findIdx?_cons];simp only[show((10:UInt8)==10)=true from rfl,↓reduceIte,Option.map_some,Option.none_or,Option.getD_some,Option.getD_none,List.length_drop];omega
theorem qjb {α:Type} {f g:α->Bool}:∀{l:List α},(∀a∈l,f a=g a)->l.find? f=l.find? g
 | [],_=>rfl
 | a::l,h=>by
  rw[List.find?_cons,List.find?_cons,h a (List.mem_cons_self ..),qjb fun b hb=>h b (mO _ hb)]
theorem clo_ex:∀n,(∀n' i d j,n<=n'->qhf n s i d=some j->qhf n' (s++10::x) i d=some j)/\(∀n' i j,n<=n'->qkj n s i=some j->qkj n' (s++10::x) i=some j)
 | 0=>⟨fun n' i d j _ h=>(by unfold qhf at h; cases h),fun n' i j _ h=>by unfold qkj at h; cases h⟩
 | n+1=>by
  obtain⟨hC,hQ⟩:=clo_ex n;refine⟨fun n' i d j hn h=>?_,fun n' i j hn h=>?_⟩
  . obtain⟨k,rfl⟩:∃k,n'=k+1:=⟨n'-1,by omega⟩
    unfold qhf at h ⊢;by_cases hlt:i<s.length
    . rw[iP hlt]at h
      rw[iP (lt_ex hlt),qjs hlt];by_cases h92:byt s i=92
      . rw[iP h92]at h ⊢
        exact hC k _ _ _ (by omega) h
      rw[iN h92]at h ⊢;by_cases h39:byt s i=39
      . rw[iP h39]at h ⊢
        cases hx:qf0 s (i+1) 39 with
        | none=>rw[hx]at h; cases h
        | some j'=>
         rw[hx]at h;rw[idx_ex (by omega) hx];exact hC k _ _ _ (by omega) h
      rw[iN h39]at h ⊢;by_cases h34:byt s i=34
      . rw[iP h34]at h ⊢
        cases hx:qkj n s (i+1)with
        | none=>rw[hx]at h; cases h
        | some j'=>
         rw[hx]at h;rw[hQ k _ _ (by omega) hx];exact hC k _ _ _ (by omega) h
      rw[iN h34]at h ⊢;by_cases h40:byt s i=40
      . rw[iP h40]at h ⊢
        exact hC k _ _ _ (by omega) h
      rw[iN h40]at h ⊢;by_cases h41:byt s i=41
      . rw[iP h41]at h ⊢
        by_cases h1:d=1
        . rw[iP h1]at h ⊢
          exact h
        . rw[iN h1]at h ⊢
          exact hC k _ _ _ (by omega) h
      . rw[iN h41]at h ⊢
        exact hC k _ _ _ (by omega) h
    . rw[iN hlt]at h
      cases h
  . obtain⟨k,rfl⟩:∃k,n'=k+1:=⟨n'-1,by omega⟩
    unfold qkj at h ⊢;by_cases hlt:i<s.length
    . rw[iP hlt]at h
      rw[iP (lt_ex hlt),qjs hlt,qe9 (by decide) (Nat.le_of_lt hlt)];by_cases h92:byt s i=92
      . rw[iP h92]at h ⊢
        exact hQ k _ _ (by omega) h
      rw[iN h92]at h ⊢;by_cases h34:byt s i=34
      . rw[iP h34]at h ⊢
        exact h
      rw[iN h34]at h ⊢;by_cases h36:atD s i [36,40]=true
      . rw[iP h36]at h ⊢
        cases hx:qhf n s (i+2) 1 with
        | none=>rw[hx]at h; cases h
        | some j'=>
         rw[hx]at h;rw[hC k _ _ _ (by omega) hx];exact hQ k _ _ (by omega) h
      . rw[iN h36]at h ⊢
        exact hQ k _ _ (by omega) h
    . rw[iN hlt]at h
      cases h
theorem ops_10:∀o∈opsT,(10:UInt8)∉o:=by decide
theorem mar_10:∀o∈marT,(10:UInt8)∉o:=by decide
theorem at92_ex {i:Nat} (hi:i<s.length) (h:¬(byt s i=92/\s.length<=i+1)):atD (s++10::x) i [92,10]=atD s i [92,10]:=by
 by_cases hl:i+1<s.length
 . exact atD_ex2 (by simp only[List.length_cons,List.length_nil]; omega)
 . have h92:byt s i≠92:=fun hb=>h ⟨hb,by omega⟩
   have h1:atD s i [92,10]=false:=by
    cases ha:atD s i [92,10]with
    | false=>rfl
    | true=>
     have:=qax ha (by decide);simp only[List.length_cons,List.length_nil]at this;omega
   have h2:atD (s++10::x) i [92,10]=false:=by
    unfold atD;rw[qfp (Nat.le_of_lt hi),List.drop_eq_getElem_cons hi,beq_eq_false_iff_ne];intro h;refine h92 ?_;have h3:=congrArg (fun l=>l.getD 0 (0:UInt8)) h;have h4:s[i]=92:=h3;unfold byt;rw[List.getD_eq_getElem?_getD,List.getElem?_eq_getElem hi];exact h4
   rw[h1,h2]
theorem pars_ex:∀n,(∀n' w deep i out text l j,n<=n'->i<=s.length->(j<s.length\/w=0)->qal n s w deep i out text=.ok (l,j)->qal n' (s++10::x) w deep i out text=.ok (l,j))/\(∀n' w deep i r,n<=n'->i<s.length->qj5 n s w deep i=.ok r->qj5 n' (s++10::x) w deep i=.ok r)
 | 0=>⟨fun n' w deep i out text l j _ _ _ h=>(by unfold qal at h; cases h),fun n' w deep i r _ _ h=>by unfold qj5 at h; cases h⟩
 | n+1=>by
  obtain⟨hP,hD⟩:=pars_ex n;obtain⟨lP,lD⟩:=qee n;refine⟨fun n' w deep i out text l j hn hi hj h=>?_,fun n' w deep i r hn hi h=>?_⟩
  . obtain⟨k,rfl⟩:∃k,n'=k+1:=⟨n'-1,by omega⟩
    unfold qal at h ⊢;by_cases hc:i<s.length/\qkb w (byt s i)=false
    . have hlt:=hc.1
      rw[iP hc]at h;rw[iP (show i<(s++10::x).length/\qkb w (byt (s++10::x) i)=false from⟨lt_ex hlt,by rw[qjs hlt]; exact hc.2⟩),qjs hlt]
      have hb:¬(byt s i=92/\s.length<=i+1):=fun hb=>by
       rw[iN (fun ha=>by
        have:=qax ha (by decide);simp only[List.length_cons,List.length_nil]at this
        omega),iP hb.1,iP hb.2]at h
       cases h
      rw[at92_ex hlt hb];by_cases h1:atD s i [92,10]=true
      . have:=qax h1 (by decide)
        simp only[List.length_cons,List.length_nil]at this;rw[iP h1]at h ⊢;exact hP k _ _ _ _ _ _ _ (by omega) (by omega) hj h
      rw[iN h1]at h ⊢;by_cases h92:byt s i=92
      . have hl:i+1<s.length:=by
         rcases Nat.lt_or_ge (i+1) s.length with hl|hl
         . exact hl
         . exact absurd ⟨h92,hl⟩ hb
        rw[iP h92,iN (by omega)]at h;rw[iP h92,iN (by rw[qdr]; omega),qjs hl];by_cases hw:inD w=true
        . rw[iP hw]at h ⊢
          exact hP k _ _ _ _ _ _ _ (by omega) (by omega) hj h
        . rw[iN hw]at h ⊢
          exact hP k _ _ _ _ _ _ _ (by omega) (by omega) hj h
      rw[iN h92]at h ⊢;by_cases h36:byt s i=36
      . rw[iP h36]at h ⊢
        cases hx:qj5 n s w deep i with
        | error e=>rw[hx]at h; cases h
        | ok r=>
         rw[hx]at h;rw[hD k _ _ _ _ (by omega) hlt hx];cases r with
         | none=>exact hP k _ _ _ _ _ _ _ (by omega) (by omega) hj h
         | some q=>
          have:=lD _ _ _ _ _ _ hx;exact hP k _ _ _ _ _ _ _ (by omega) this.2 hj h
      rw[iN h36]at h ⊢;by_cases hb6:(decide (byt s i=96)||(byt s i==34&&w==4))=true
      . rw[iP hb6]at h
        cases h
      rw[iN hb6]at h ⊢;by_cases h39:(decide (byt s i=39)&&!inD w)=true
      . rw[iP h39]at h ⊢
        cases hx:qf0 s (i+1) 39 with
        | none=>rw[hx]at h; cases h
        | some k'=>
         have hk:=qdo hx;rw[hx]at h;rw[idx_ex (by omega) hx];dsimp only at h ⊢;rw[qgy (by omega)];exact hP k _ _ _ _ _ _ _ (by omega) (by omega) hj h
      rw[iN h39]at h ⊢;by_cases h34:(decide (byt s i=34)&&!inD w)=true
      . rw[iP h34]at h ⊢
        cases hx:qal n s 1 deep (i+1) [] []with
        | error e=>rw[hx]at h; cases h
        | ok q=>
         obtain⟨l',j'⟩:=q;have hj':=lP _ _ _ _ _ _ _ _ hx (by omega);rw[hx]at h;dsimp only at h;by_cases ha:atD s j' [34]=true
         . have hlt':=qax ha (by decide)
           simp only[List.length_cons,List.length_nil]at hlt';rw[iP ha]at h;rw[hP k _ _ _ _ _ _ _ (by omega) (by omega) (.inl (by omega)) hx];dsimp only;rw[qe9 (by decide) (by omega),iP ha];exact hP k _ _ _ _ _ _ _ (by omega) (by omega) hj h
         . rw[iN ha]at h
           cases h
      . rw[iN h34]at h ⊢
        exact hP k _ _ _ _ _ _ _ (by omega) (by omega) hj h
    . rw[iN hc]at h
      cases h
      rw[iN (show ¬(i<(s++10::x).length/\qkb w (byt (s++10::x) i)=false)from fun hc'=>by
       rcases Nat.lt_or_ge i s.length with hl|hl
       . rw[qjs hl]at hc'
         exact hc ⟨hl,hc'.2⟩
       . have hw:w=0:=by omega
         have he:i=s.length:=by omega
         subst hw he;rw[byt_nl]at hc'
         exact absurd hc'.2 (by decide))]
  . obtain⟨k,rfl⟩:∃k,n'=k+1:=⟨n'-1,by omega⟩
    unfold qj5 at h ⊢;rw[qe9 (by decide) (Nat.le_of_lt hi),qe9 (by decide) (Nat.le_of_lt hi),qe9 (by decide) (Nat.le_of_lt hi)];by_cases h1:atD s i [36,40,40]=true
    . rw[iP h1]at h
      cases h
    rw[iN h1]at h ⊢;by_cases h2:atD s i [36,40]=true
    . have h2l:=qax h2 (by decide)
      simp only[List.length_cons,List.length_nil]at h2l;rw[iP h2]at h ⊢;cases hx:qhf (2*s.length) s (i+2) 1 with
      | none=>rw[hx]at h; cases h
      | some j=>
       have hj:=(clo_le _).1 _ _ _ _ hx;rw[hx]at h;rw[(clo_ex (2*s.length)).1 (2*(s++10::x).length) _ _ _ (by rw[qdr]; omega) hx];dsimp only at h ⊢;rw[qgy (by omega)];exact h
    rw[iN h2]at h ⊢;by_cases h3:atD s i [36,123]=true
    . have h3l:=qax h3 (by decide)
      simp only[List.length_cons,List.length_nil]at h3l;rw[iP h3]at h ⊢;by_cases hd:20<=deep
      . rw[iP hd]at h
        cases h
      rw[iN hd]at h ⊢;rw[qe9 (by decide) (show i+2<=s.length by omega),qfp (show i+2<=s.length by omega),par_ex (show([63,35,64,42]:Bs).contains 10=false from rfl)]
      have hlen:(atD s (i+2) [35]&&qbr ((s++10::x).drop (i+3)) [63,64,42] != 0&&atD (s++10::x) (i+3+qbr ((s++10::x).drop (i+3)) [63,64,42]) [125])=(atD s (i+2) [35]&&qbr (s.drop (i+3)) [63,64,42] != 0&&atD s (i+3+qbr (s.drop (i+3)) [63,64,42]) [125])/\(atD s (i+2) [35]=true->qbr ((s++10::x).drop (i+3)) [63,64,42]=qbr (s.drop (i+3)) [63,64,42]):=by
       cases h35:atD s (i+2) [35]with
       | false=>exact⟨rfl,fun h=>by cases h⟩
       | true=>
        have h35l:=qax h35 (by decide);simp only[List.length_cons,List.length_nil]at h35l;have hp:qbr ((s++10::x).drop (i+3)) [63,64,42]=qbr (s.drop (i+3)) [63,64,42]:=by rw[qfp (by omega),par_ex (show([63,64,42]:Bs).contains 10=false from rfl)]
        refine⟨?_,fun _=>hp⟩;rw[hp];by_cases hz:qbr (s.drop (i+3)) [63,64,42]=0
        . rw[hz]; rfl
        . have:=par_le s (i+3) [63,64,42] hz
          rw[qe9 (by decide) this]
      rw[hlen.1];by_cases hl:(atD s (i+2) [35]&&qbr (s.drop (i+3)) [63,64,42] != 0&&atD s (i+3+qbr (s.drop (i+3)) [63,64,42]) [125])=true
      . rw[iP hl]at h ⊢
        simp only[bA,bne_iff_ne]at hl;have hz:=par_le s (i+3) [63,64,42] hl.1.2;rw[hlen.2 hl.1.1,qgy (by omega)];exact h
      rw[iN hl]at h ⊢;dsimp only at h ⊢;by_cases hm:qbr (s.drop (i+2)) [63,35,64,42]=0
      . rw[iP hm]at h
        cases h
      have hml:=par_le s (i+2) _ hm;have htk:(s.drop (i+2)++10::x).take (qbr (s.drop (i+2)) [63,35,64,42])=(s.drop (i+2)).take (qbr (s.drop (i+2)) [63,35,64,42]):=List.take_append_of_le_length (by rw[List.length_drop]; omega);rw[iN hm]at h ⊢;rw[qe9 (by decide) hml,htk,qjb (fun o ho=>qe9 (ops_10 o ho) hml)];by_cases hb:atD s (i+2+qbr (s.drop (i+2)) [63,35,64,42]) [125]=true
      . rw[iP hb]at h ⊢
        exact h
      rw[iN hb]at h ⊢;cases hf:opsT.find? fun o=>atD s (i+2+qbr (s.drop (i+2)) [63,35,64,42]) o with
      | none=>rw[hf]at h; cases h
      | some o=>
       have hfa:=find_at hf;rw[hf]at h;dsimp only at h ⊢;cases hx:qal n s (if inD w then 4 else 3) (deep+1) (i+2+qbr (s.drop (i+2)) [63,35,64,42]+o.length) [] []with
       | error e=>rw[hx]at h; cases h
       | ok q=>
        obtain⟨l',j'⟩:=q;have hj':=lP _ _ _ _ _ _ _ _ hx hfa.2.1;rw[hx]at h;dsimp only at h;by_cases ha:atD s j' [125]=true
        . have hlt':=qax ha (by decide)
          simp only[List.length_cons,List.length_nil]at hlt';rw[iP ha]at h;rw[hP k _ _ _ _ _ _ _ (by omega) hfa.2.1 (.inl (by omega)) hx];dsimp only;rw[qe9 (by decide) (by omega),iP ha];exact h
        . rw[iN ha]at h
          cases h
    . rw[iN h3]at h ⊢
      dsimp only at h ⊢;rw[qfp (show i+1<=s.length by omega),par_ex (show([63,35,64,42]:Bs).contains 10=false from rfl)];by_cases hm:qbr (s.drop (i+1)) [63,35,64,42]=0
      . rw[iP hm]at h ⊢
        exact h
      . have hml:=par_le s (i+1) _ hm
        rw[iN hm]at h ⊢;rw[List.take_append_of_le_length (by rw[List.length_drop]; omega)];exact h
end
section
variable {s x:Bs}
theorem take_head {n:Nat} {a b:UInt8} {u v:Bs} (h:List.take (n+1) (a::u)=b::v):a=b:=by
 rw[List.take_succ_cons]at h;exact(List.cons.inj h).1
theorem dig_ex {i:Nat} (hi:i<s.length):qj9 (s++10::x) i=qj9 s i:=by
 unfold qj9;rw[qjs hi,qe9 (by decide) (by omega),qe9 (by decide) (by omega)]
theorem mark_ex {i:Nat} (hi:i<s.length):qec (s++10::x) i=qec s i:=by
 rw[qdw,qdw,dig_ex hi,qjb (fun o ho=>qe9 (mar_10 o ho) (show i+(if qj9 s i then 1 else 0)<=s.length by split<;>omega))]
theorem docD_ex {last:Bs}:∀(n:Nat) (i k j:Nat),qju n s last i=some (k,j)->∃e,e<=1/\(e=1->j=s.length)/\∀(y:Bs) n',n<=n'->qju n' (s++10::y) last i=some (k,j+e)
 | 0,i,k,j,h=>by unfold qju at h; cases h
 | n+1,i,k,j,h=>by
  unfold qju at h;by_cases hlt:i<s.length
  . rw[iP hlt]at h
    dsimp only at h
    have hge:i<=(qf0 s i 10).getD s.length/\(qf0 s i 10).getD s.length<=s.length:=by
     cases hx:qf0 s i 10 with
     | none=>exact⟨Nat.le_of_lt hlt,lR _⟩
     | some k=>exact⟨(qdo hx).1,Nat.le_of_lt (qdo hx).2⟩
    by_cases hb:((s.drop i).take ((qf0 s i 10).getD s.length-i)==last)=true
    . rw[iP hb]at h
      cases h;refine⟨if(qf0 s i 10).getD s.length=s.length then 1 else 0,by split<;>omega,fun he=>by(split at he<;>omega),fun y n' hn=>?_⟩;obtain⟨k,rfl⟩:∃k,n'=k+1:=⟨n'-1,by omega⟩
      unfold qju;rw[iP (lt_ex hlt)];dsimp only;rw[idx_nl (Nat.le_of_lt hlt),qgy (by omega),iP hb,qdr]
      congr 2
      split<;>omega
    . rw[iN hb]at h
      have hlt2:(qf0 s i 10).getD s.length<s.length:=by
       rcases Nat.lt_or_ge ((qf0 s i 10).getD s.length) s.length with hl|hl
       . exact hl
       . rw[qh4 n s last _ (by omega)]at h
         cases h
      obtain⟨e,h1,h2,h3⟩:=docD_ex n _ _ _ h;refine⟨e,h1,h2,fun y n' hn=>?_⟩;obtain⟨k',rfl⟩:∃k,n'=k+1:=⟨n'-1,by omega⟩
      unfold qju;rw[iP (lt_ex hlt)];dsimp only;rw[idx_nl (Nat.le_of_lt hlt),qgy (by omega),iN hb,qdr,show min ((qf0 s i 10).getD s.length+1) (s.length+1+y.length)=min ((qf0 s i 10).getD s.length+1) s.length by omega];exact h3 y k' (by omega)
  . rw[iN hlt]at h
    cases h
theorem pars_fuel (p:Bs) {n n':Nat} {w deep i:Nat} {out:List Part} {text:Bs} (hi:i<=p.length) (hn:2*(p.length-i)+1<=n) (hn':2*(p.length-i)+1<=n'):qal n' p w deep i out text=qal n p w deep i out text:=by
 have h:=(ql2 [] p n).1 n' w deep i out text hi hn hn';rw[List.nil_append,List.length_nil,Nat.zero_add]at h;rw[h];cases qal n p w deep i out text with
 | error e=>show Except.error (e.1,0+e.2)=_; rw[Nat.zero_add]
 | ok q=>show Except.ok (q.1,0+q.2)=_; rw[Nat.zero_add]
theorem doc1_ex {w:Nat×Bs} {i j:Nat} {toks tk:List Tok} (h:qd8 s w i toks=.ok (tk,j)):∃e,e<=1/\(e=1->j=s.length)/\∀y,qd8 (s++10::y) w i toks=.ok (tk,j+e):=by
 unfold qd8 at h;cases hd:qju (s.length+1) s w.2 i with
 | none=>rw[hd]at h; cases h
 | some q=>
  obtain⟨k,j'⟩:=q;have hk:=qja _ _ _ _ _ _ hd;rw[hd]at h;dsimp only at h;obtain⟨e,h1,h2,h3⟩:=docD_ex _ _ _ _ hd
  have hj:j=j':=by
   split at h
   . cases h; rfl
   . split at h
     . cases h
     . cases h; rfl
  subst hj;refine⟨e,h1,h2,fun y=>?_⟩;unfold qd8;rw[h3 y _ (by rw[qdr]; omega)];dsimp only;have hul:(s.take k).length=k:=by rw[List.length_take]; omega
  rw[qgy (by omega),takek_ex hk.2.1,pars_fuel (s.take k) (n:=qc0 s) (n':=qc0 (s++10::y)) (by omega) (by rw[hul]; unfold qc0; omega) (by rw[hul]; unfold qc0; rw[qdr]; omega)];split at h
  . rename_i hq
    rw[iP hq];cases h;rfl
  . rename_i hq
    rw[iN hq];split at h
    . cases h
    . cases h
      rfl
theorem doc1_past {w:Nat×Bs} {i:Nat} {toks:List Tok} (hi:s.length<=i):qd8 s w i toks=.error (19,s.length):=by
 unfold qd8;rw[qh4 _ _ _ _ hi]
theorem docs_ex:∀{ws:List (Nat×Bs)} {i j:Nat} {toks tk:List Tok},qcm s ws i toks=.ok (tk,j)->∃e,e<=1/\(e=1->j=s.length/\ws≠[])/\∀y,qcm (s++10::y) ws i toks=.ok (tk,j+e)
 | [],i,j,toks,tk,h=>by
  unfold qcm at h;cases h;exact⟨0,by omega,fun h=>by omega,fun y=>by unfold qcm; rfl⟩
 | w::ws,i,j,toks,tk,h=>by
  rw[qbf]at h;cases hd:qd8 s w i toks with
  | error e=>rw[hd]at h; cases h
  | ok q=>
   obtain⟨t,j'⟩:=q;rw[hd]at h;dsimp only at h;obtain⟨e,h1,h2,h3⟩:=doc1_ex hd;rcases Nat.eq_zero_or_pos e with he|he
   . subst he
     obtain⟨e',g1,g2,g3⟩:=docs_ex h;refine⟨e',g1,fun he=>⟨(g2 he).1,by simp⟩,fun y=>?_⟩;rw[qbf,h3 y];exact g3 y
   . have he1:e=1:=by omega
     subst he1;have hj:=h2 rfl;cases ws with
     | nil=>
      unfold qcm at h;cases h;refine⟨1,by omega,fun _=>⟨hj,by simp⟩,fun y=>?_⟩;rw[qbf,h3 y];unfold qcm;rfl
     | cons w' ws=>
      rw[qbf,doc1_past (by omega)]at h;cases h
def qea (toks:List Tok):Bool:=toks.any fun t=>t.kind==3
theorem here_eq {a b:List Tok} (h:a.map Tok.kind=b.map Tok.kind):qea a=qea b:=by
 have e:∀l:List Tok,qea l=(l.map Tok.kind).any fun k=>k==3:=fun l=>by unfold qea; rw[List.any_map]; rfl
 rw[e,e,h]
theorem qh7 (a b:List Tok):qea (a++b)=(qea a||qea b):=List.any_append
theorem setk_kind {toks:List Tok} {t:Nat} {y:Tok} (h:t<toks.length->y.kind=(toks.getD t ⟨0,[],[],false,0⟩).kind):(toks.set t y).map Tok.kind=toks.map Tok.kind:=by
 rw[List.map_set];by_cases ht:t<toks.length
 . rw[h ht]
   refine List.ext_getElem? fun k=>?_;rw[List.getElem?_set];by_cases hk:t=k
   . subst hk
     rw[iP rfl,iP (by rw[lM]; exact ht),List.getElem?_map,List.getElem?_eq_getElem ht,List.getD_eq_getElem?_getD,List.getElem?_eq_getElem ht];rfl
   . rw[iN hk]
 . rw[List.set_eq_of_length_le (by rw[lM]; omega)]
theorem doc1_kind {w:Nat×Bs} {i j:Nat} {toks tk:List Tok} (h:qd8 s w i toks=.ok (tk,j)):tk.map Tok.kind=toks.map Tok.kind:=by
 unfold qd8 at h;split at h
 . cases h
 . dsimp only at h
   split at h
   . cases h
     exact setk_kind fun _=>rfl
   . split at h
     . cases h
     . cases h
       exact setk_kind fun _=>rfl
theorem docs_kind:∀{ws:List (Nat×Bs)} {i j:Nat} {toks tk:List Tok},qcm s ws i toks=.ok (tk,j)->tk.map Tok.kind=toks.map Tok.kind
 | [],i,j,toks,tk,h=>by unfold qcm at h; cases h; rfl
 | w::ws,i,j,toks,tk,h=>by
  rw[qbf]at h;split at h
  . cases h
  . rename_i hd
    rw[docs_kind h,doc1_kind hd]
theorem step_here {i:Nat} {toks:List Tok} {waits:List (Nat×Bs)} {r:Nat×List Tok×List (Nat×Bs)} (h:qd4 s i toks waits=.ok r) (hw:waits≠[]->qea toks=true):(qea toks=true->qea r.2.1=true)/\(r.2.2≠[]->qea r.2.1=true):=by
 unfold qd4 linD remD mrkD wrdD at h;split at h
 . rename_i r' hl
   split at hl
   . cases hl
     split at h
     . cases h
     . rename_i q hq
       cases h;dsimp only;have e:=here_eq (docs_kind (tk:=q.1) (j:=q.2) hq);refine⟨fun ht=>by rw[e,qh7,ht,Bool.true_or],fun hn=>absurd rfl hn⟩
   . cases hl
 . split at h
   . rename_i r' hl
     split at hl
     . cases hl
       cases h;exact⟨id,hw⟩
     . cases hl
   . split at h
     . rename_i r' hl
       split at hl
       . cases hl
         cases h;dsimp only;exact⟨fun ht=>by rw[qh7,ht,Bool.true_or],fun hn=>by rw[qh7,hw hn,Bool.true_or]⟩
       . split at hl
         . cases hl
           cases h
         . cases hl
     . split at h
       . cases h
       . split at h
         . split at h
           . cases h
           . cases h
             dsimp only
             have e:∀a b:Tok,b.kind=3->qea (toks++[a,b])=true:=fun a b hb=>by
              rw[qh7,show qea [a,b]=(a.kind==3||(b.kind==3||false))from rfl,hb];simp
             exact⟨fun _=>e _ _ rfl,fun _=>e _ _ rfl⟩
         . cases h
           dsimp only;exact⟨fun ht=>by rw[qh7,ht,Bool.true_or],fun hn=>by rw[qh7,hw hn,Bool.true_or]⟩
theorem step_92 {i:Nat} {toks:List Tok} {waits:List (Nat×Bs)} {r:Nat×List Tok×List (Nat×Bs)} (hi:i<s.length) (h:qd4 s i toks waits=.ok r):¬(byt s i=92/\s.length<=i+1):=by
 rintro ⟨hb,hl⟩
 have hd:qj9 s i=false:=by
  unfold qj9;rw[hb];rfl
 have hm:qec s i=0:=by
  rw[qdw,hd]
  have:(marT.find? fun o=>atD s (i+if false=true then 1 else 0) o)=none:=by
   rw[List.find?_eq_none];intro o ho ha;rw[iN (by decide),Nat.add_zero]at ha;unfold atD at ha;rw[List.drop_eq_getElem_cons hi,beq_iff_eq]at ha;have hs:s[i]=92:=by rw[<- hb]; exact qfn hi
   rw[hs]at ha;simp only[marT,List.mem_cons,List.not_mem_nil,or_false]at ho;rcases ho with rfl|rfl|rfl|rfl|rfl|rfl|rfl|rfl|rfl|rfl|rfl|rfl<;>exact absurd (take_head ha) (by decide)
  rw[this]
 unfold qd4 linD remD mrkD wrdD at h;rw[qbh hi,qbh hi,qbh hi,hb,hm]at h;rw[iN (by decide)]at h;dsimp only at h;rw[iN (by decide)]at h;dsimp only at h;rw[iN (by decide),iN (by decide)]at h;dsimp only at h
 have hp:qal (qc0 s) s 0 0 i [] []=.error (19,i):=by
  unfold qc0;unfold qal
  rw[iP ⟨hi,by rw[hb]; decide⟩,iN (fun ha=>by
   have:=qax ha (by decide);simp only[List.length_cons,List.length_nil]at this
   omega),iP hb,iP hl]
 rw[hp]at h;cases h
theorem step_ex {i:Nat} {toks:List Tok} {waits:List (Nat×Bs)} {r:Nat×List Tok×List (Nat×Bs)} (hi:i<s.length) (h:qd4 s i toks waits=.ok r):∃e,e<=1/\(e=1->r.1=s.length/\waits≠[]/\r.2.2=[])/\∀y,qd4 (s++10::y) i toks waits=.ok (r.1+e,r.2):=by
 by_cases h10:atD s i [10]=true
 . unfold qd4 linD at h
   rw[iP h10]at h;dsimp only at h;cases hd:qcm s waits (i+1) (toks++[⟨2,[],[],false,i⟩])with
   | error e=>rw[hd]at h; cases h
   | ok q=>
    rw[hd]at h;cases h;obtain⟨e,h1,h2,h3⟩:=docs_ex (tk:=q.1) (j:=q.2) hd;refine⟨e,h1,fun he=>⟨(h2 he).1,(h2 he).2,rfl⟩,fun y=>?_⟩;unfold qd4 linD;rw[iP (show atD (s++10::y) i [10]=true by rw[atD_ex2 (by rw[List.length_singleton]; omega)]; exact h10),h3 y]
 refine⟨0,by omega,fun he=>by omega,fun y=>?_⟩;refine Eq.trans ?_ h;unfold qd4 linD remD mrkD wrdD;rw[show atD (s++10::y) i [10]=atD s i [10]from atD_ex2 (by rw[List.length_singleton]; omega),iN h10,iN h10];dsimp only;rw[show atD (s++10::y) i [35]=atD s i [35]from qe9 (by decide) (Nat.le_of_lt hi),show atD (s++10::y) i [38]=atD s i [38]from qe9 (by decide) (Nat.le_of_lt hi),idx_nl (Nat.le_of_lt hi),mark_ex hi];by_cases h35:atD s i [35]=true
 . rw[iP h35]
 rw[iN h35];dsimp only
 have hml:i+qec s i<=s.length:=by
  rw[qdw];cases ho:marT.find? (fun o=>atD s (i+if qj9 s i then 1 else 0) o)with
  | none=>dsimp only; omega
  | some o=>
   have h5:=(qkp ho).1;dsimp only;rw[<- Nat.add_assoc];exact h5
 rw[qgy hml];by_cases hm:qec s i≠0
 . rw[iP hm]
 rw[iN hm];by_cases h38:atD s i [38]=true
 . rw[iP h38]
 rw[iN h38];dsimp only;cases hp:qal (qc0 s) s 0 0 i [] []with
 | error e=>
  exfalso;unfold qd4 linD remD mrkD wrdD at h;rw[iN h10]at h;dsimp only at h;rw[iN h35]at h;dsimp only at h;rw[iN hm,iN h38]at h;dsimp only at h;rw[hp]at h;cases h
 | ok q=>
  rw[(pars_ex (qc0 s)).1 (qc0 (s++10::y)) 0 0 i [] [] q.1 q.2 (by unfold qc0; rw[qdr]; omega) (Nat.le_of_lt hi) (.inr rfl) hp]
theorem ski_nl (n:Nat):qeh n (s++10::x) s.length=s.length:=by
 cases n with
 | zero=>rfl
 | succ n=>
  have ha:atD (s++10::x) s.length [92,10]=false:=by
   unfold atD;rw[qfp (lR _),List.drop_length,List.nil_append,beq_eq_false_iff_ne];intro h;exact absurd (take_head h) (by decide)
  unfold qeh;rw[byt_nl,ha,iN (show ¬((10:UInt8)=32/\s.length<(s++10::x).length)from fun h=>absurd h.1 (by decide)),iN (show ¬(10:UInt8)=9 by decide),iN (by decide)]
theorem ski_ex:∀(n n' i:Nat),i<=s.length->s.length+1<=n+i->s.length+1<=n'+i->¬(byt s (qeh n s i)=92/\s.length<=qeh n s i+1/\qeh n s i<s.length)->qeh n' (s++10::x) i=qeh n s i
 | 0,n',i,hi,hn,hn',_=>by omega
 | n+1,n',i,hi,hn,hn',hb=>by
  rcases Nat.lt_or_ge i s.length with hlt|hge
  . obtain⟨k,rfl⟩:∃k,n'=k+1:=⟨n'-1,by omega⟩
    unfold qeh at hb ⊢;rw[qjs hlt];by_cases h32:byt s i=32
    . rw[iP (show byt s i=32/\i<s.length from⟨h32,hlt⟩)]at hb ⊢
      rw[iP (show byt s i=32/\i<(s++10::x).length from⟨h32,lt_ex hlt⟩)];exact ski_ex n k (i+1) (by omega) (by omega) (by omega) hb
    . rw[iN (show ¬(byt s i=32/\i<s.length)from fun h=>h32 h.1)]at hb ⊢
      rw[iN (show ¬(byt s i=32/\i<(s++10::x).length)from fun h=>h32 h.1)];by_cases h9:byt s i=9
      . rw[iP h9]at hb ⊢
        rw[iP h9];exact ski_ex n k (i+1) (by omega) (by omega) (by omega) hb
      . rw[iN h9]at hb ⊢
        rw[iN h9];by_cases ha:atD s i [92,10]=true
        . have hl:=qax ha (by decide)
          simp only[List.length_cons,List.length_nil]at hl;rw[iP ha]at hb ⊢;rw[atD_ex2 (by simpa using hl),iP ha];exact ski_ex n k (i+2) (by omega) (by omega) (by omega) hb
        . rw[iN ha]at hb ⊢
          rw[at92_ex hlt (fun h=>hb ⟨h.1,h.2,hlt⟩),iN ha]
  . have he:i=s.length:=by omega
    subst he;rw[ski_nl,qjn _ _ _ (lR _)]
theorem lex_at (n:Nat) (toks:List Tok) (waits:List (Nat×Bs)) {u:Bs} {i j:Nat} (h:qeh (u.length+1) u i=qeh (u.length+1) u j):qi2 n u i toks waits=qi2 n u j toks waits:=by
 cases n with
 | zero=>rfl
 | succ n=>rw[qbq,qbq,h]
theorem lex_ex:∀(n i:Nat) (toks:List Tok) (waits:List (Nat×Bs)) (T:List Tok),i<=s.length->s.length+1<=n+i->Inv s i toks waits->(waits≠[]->qea toks=true)->qi2 n s i toks waits=.ok T->∃e,e<=1/\(e=1->qea T=true)/\∀(y:Bs) n',(s++10::y).length+1<=n'+i->∃m,(s++10::y).length+1<=m+(s.length+e)/\qi2 n' (s++10::y) i toks waits=qi2 m (s++10::y) (s.length+e) T []
 | 0,i,toks,waits,T,hi,hn,_,_,_=>by omega
 | n+1,i,toks,waits,T,hi,hn,hI,hw,h=>by
  rw[qbq]at h;obtain⟨i1,i2,i3⟩:=qe0 (s.length+1) s i hi (by omega);by_cases hlt:qeh (s.length+1) s i<s.length
  . rw[iP hlt]at h
    cases hst:qd4 s (qeh (s.length+1) s i) toks waits with
    | error e=>rw[hst]at h; cases h
    | ok r=>
     rw[hst]at h;dsimp only at h;have h92:=step_92 hlt hst;have hsk:∀(y:Bs),qeh ((s++10::y).length+1) (s++10::y) i=qeh (s.length+1) s i:=fun y=>ski_ex _ _ _ hi (by omega) (by rw[qdr]; omega) (fun hb=>h92 ⟨hb.1,hb.2.1⟩);obtain⟨e,h1,h2,h3⟩:=step_ex hlt hst;have hIU:Inv s (qeh (s.length+1) s i) toks waits:=⟨by have:=hI.t; omega,by have:=hI.w; omega,hI.ix,hI.tx⟩
     obtain⟨j1,j2,j3⟩:=qfi hIU hlt (i3 hlt).1 (i3 hlt).2 hst;obtain⟨g1,g2⟩:=step_here hst hw;rcases Nat.eq_zero_or_pos e with he|he
     . subst he
       obtain⟨e',k1,k2,k3⟩:=lex_ex n r.1 r.2.1 r.2.2 T j2 (by omega) j3 g2 h;refine⟨e',k1,k2,fun y n' hn'=>?_⟩;rw[qdr]at hn';obtain⟨k,rfl⟩:∃k,n'=k+1:=⟨n'-1,by omega⟩
       rw[qbq,hsk y,iP (lt_ex hlt),h3 y];dsimp only;exact k3 y k (by rw[qdr]; omega)
     . have he1:e=1:=by omega
       subst he1;obtain⟨a1,a2,a3⟩:=h2 rfl
       have hT:T=r.2.1:=by
        cases n with
        | zero=>unfold qi2 at h; cases h
        | succ n=>
         rw[qbq,a1,qjn _ _ _ (lR _),iN (by omega),a3,iP rfl]at h;cases h;rfl
       subst hT;refine⟨1,lR _,fun _=>g1 (hw a2),fun y n' hn'=>?_⟩;rw[qdr]at hn';obtain⟨k,rfl⟩:∃k,n'=k+1:=⟨n'-1,by omega⟩
       refine⟨k,by rw[qdr]; omega,?_⟩;rw[qbq,hsk y,iP (lt_ex hlt),h3 y];dsimp only;rw[a1,a3]
  . rw[iN hlt]at h
    have hend:qeh (s.length+1) s i=s.length:=by omega
    split at h
    . rename_i hwn
      cases h;subst hwn;refine⟨0,by omega,fun h=>by omega,fun y n' hn'=>⟨n',by omega,?_⟩⟩;refine lex_at n' _ [] ?_;rw[ski_ex (s.length+1) _ i hi (by omega) (by rw[qdr]; omega) (fun hb=>hlt hb.2.2),hend,Nat.add_zero];exact(ski_nl _).symm
    . cases h
end
def lineT (i:Nat):Tok:=⟨2,[],[],false,i⟩
theorem inv0 (s:Bs):Inv s 0 [] []:=⟨lR _,lR _,fun w h=>(by cases h),fun x h=>(by cases h)⟩
theorem lexA_ok {s:Bs} {T:List Tok} (h:qfb s=.ok T):s.length<=4000/\qi2 (s.length+1) s 0 [] []=.ok T:=by
 unfold qfb at h;split at h
 . cases h
 . exact⟨by omega,h⟩
theorem lexA_of {s:Bs} (h:s.length<=4000):qfb s=qi2 (s.length+1) s 0 [] []:=by
 unfold qfb;rw[iN (by omega)]
theorem lexA_ex {s:Bs} {T:List Tok} (h:qfb s=.ok T):∃e,e<=1/\(e=1->qea T=true)/\∀y:Bs,(s++10::y).length<=4000->∃m,(s++10::y).length+1<=m+(s.length+e)/\qfb (s++10::y)=qi2 m (s++10::y) (s.length+e) T []:=by
 obtain⟨h1,h2⟩:=lexA_ok h;obtain⟨e,k1,k2,k3⟩:=lex_ex (s.length+1) 0 [] [] T (Nat.zero_le _) (by omega) (inv0 s) (fun h=>absurd rfl h) h2;refine⟨e,k1,k2,fun y hy=>?_⟩;rw[lexA_of hy];exact k3 y _ (by omega)
theorem lex_line {s y:Bs} {T:List Tok} {m:Nat} (hm:0<m):qi2 m (s++10::y) s.length T []=qi2 (m-1) (s++10::y) (s.length+1) (T++[lineT s.length]) []:=by
 obtain⟨m,rfl⟩:∃k,m=k+1:=⟨m-1,by omega⟩
 have hlt:s.length<(s++10::y).length:=by rw[qdr]; omega
 rw[qbq,ski_nl,iP hlt];unfold qd4 linD;rw[qbh hlt,byt_nl,iP (by decide)];rfl
theorem docQ_line (T:List Tok) (i:Nat):docQ (T++[lineT i])=false:=by
 unfold docQ;rw[List.getLast?_concat];rfl
theorem mvT_nil (T0:List Tok) (m:Nat):mvT T0 m []=T0:=List.append_nil _
theorem lines_law {a b:Bs} {X Y:List Tok} (ha:qfb a=.ok X) (hb:qfb b=.ok Y) (hl:a.length+b.length<=3999) (hX:qea X=false):qfb (a++[10]++b)=.ok (X++[lineT a.length]++Y.map (sft (a.length+1))):=by
 obtain⟨e,h1,h2,h3⟩:=lexA_ex ha
 have he:e=0:=by
  rcases Nat.eq_zero_or_pos e with h|h
  . exact h
  . rw[h2 (by omega)]at hX
    cases hX
 subst he;have hlen:(a++10::b).length=a.length+1+b.length:=qdr;obtain⟨m,k1,k2⟩:=h3 b (by omega);have hp:(a++[10]).length=a.length+1:=by rw[lAq]; rfl
 have hsp:a++10::b=a++[10]++b:=by rw[List.append_assoc]; rfl
 rw[<- hsp,k2,Nat.add_zero,lex_line (by omega),hsp];obtain⟨g1,g2⟩:=lexA_ok hb;have hs:=lex_sh (a++[10]) b (X++[lineT a.length]) (docQ_line X _) (b.length+1) (m-1) 0 [] [] (Nat.zero_le _) (by omega) (by omega) (inv0 b);rw[mvT_nil,hp,Nat.add_zero,List.map_nil]at hs;rw[hs,g2];rfl
def Bef (t u:Tok):Prop:=t.at_<u.at_\/(t.at_=u.at_/\u.kind=3)
def OrdT (l:List Tok):Prop:=∀(i:Nat) (t u:Tok),l[i]?=some t->l[i+1]?=some u->Bef t u
theorem OrdT.push {l:List Tok} {a:Tok} (h:OrdT l) (hl:∀t,l.getLast?=some t->Bef t a):OrdT (l++[a]):=by
 intro i t u ht hu;by_cases h1:i+1<l.length
 . rw[List.getElem?_append_left (by omega)]at ht
   rw[List.getElem?_append_left h1]at hu;exact h i t u ht hu
 . have h2:i+1=l.length:=by
    have:=(List.getElem?_eq_some_iff.1 hu).1;rw[lAq,List.length_singleton]at this;omega
   rw[List.getElem?_append_left (by omega)]at ht;rw[h2,List.getElem?_append_right (lR _),Nat.sub_self]at hu;have hu':a=u:=Option.some.inj hu;subst hu';refine hl t ?_;rw[List.getLast?_eq_getElem?,<- ht]
   congr 1
   omega
def kap (t:Tok):Nat×Nat:=(t.kind,t.at_)
theorem OrdT.of_map {l l':List Tok} (h:OrdT l) (e:l'.map kap=l.map kap):OrdT l':=by
 intro i t u ht hu
 have g:∀(j:Nat) (x:Tok),l'[j]?=some x->∃y:Tok,l[j]?=some y/\kap y=kap x:=fun j x hx=>by
  have:=congrArg (fun l:List (Nat×Nat)=>l[j]?) e;simp only[List.getElem?_map,hx,Option.map_some]at this;cases hy:l[j]? with
  | none=>rw[hy]at this; cases this
  | some y=>rw[hy]at this; exact⟨y,rfl,(Option.some.inj this).symm⟩
 obtain⟨t',h1,h2⟩:=g _ _ ht;obtain⟨u',h3,h4⟩:=g _ _ hu;have:=h i t' u' h1 h3;have a1:t'.at_=t.at_:=congrArg Prod.snd h2;have a2:u'.at_=u.at_:=congrArg Prod.snd h4;have a3:u'.kind=u.kind:=congrArg Prod.fst h4;unfold Bef at *;rw[a1,a2,a3]at this;exact this
section
variable {s:Bs}
theorem setk_kap {toks:List Tok} {t:Nat} {y:Tok} (h:t<toks.length->kap y=kap (toks.getD t ⟨0,[],[],false,0⟩)):(toks.set t y).map kap=toks.map kap:=by
 rw[List.map_set];by_cases ht:t<toks.length
 . rw[h ht]
   refine List.ext_getElem? fun k=>?_;rw[List.getElem?_set];by_cases hk:t=k
   . subst hk
     rw[iP rfl,iP (by rw[lM]; exact ht),List.getElem?_map,List.getElem?_eq_getElem ht,List.getD_eq_getElem?_getD,List.getElem?_eq_getElem ht];rfl
   . rw[iN hk]
 . rw[List.set_eq_of_length_le (by rw[lM]; omega)]
theorem doc1_kap {w:Nat×Bs} {i j:Nat} {toks tk:List Tok} (h:qd8 s w i toks=.ok (tk,j)):tk.map kap=toks.map kap:=by
 unfold qd8 at h;split at h
 . cases h
 . dsimp only at h
   split at h
   . cases h
     exact setk_kap fun _=>rfl
   . split at h
     . cases h
     . cases h
       exact setk_kap fun _=>rfl
theorem docs_kap:∀{ws:List (Nat×Bs)} {i j:Nat} {toks tk:List Tok},qcm s ws i toks=.ok (tk,j)->tk.map kap=toks.map kap
 | [],i,j,toks,tk,h=>by unfold qcm at h; cases h; rfl
 | w::ws,i,j,toks,tk,h=>by
  rw[qbf]at h;split at h
  . cases h
  . rename_i hd
    rw[docs_kap h,doc1_kap hd]
structure Ord (i:Nat) (toks:List Tok):Prop where
 o:OrdT toks
 lt:∀t∈toks,t.at_<i
theorem Ord.add {i j k:Nat} {toks:List Tok} {t:Tok} (h:Ord i toks) (hi:i<=k) (ht:t.at_=k) (hk:k<j):Ord j (toks++[t]):=
 ⟨h.o.push fun u hu=>.inl (by have:=h.lt u (List.mem_of_getLast? hu); omega),fun u hu=>by
  rcases List.mem_append.1 hu with hu|hu
  . have:=h.lt u hu; omega
  . rw[List.mem_singleton]at hu; subst hu; omega⟩
theorem step_ord {i i0:Nat} {toks:List Tok} {waits:List (Nat×Bs)} {r:Nat×List Tok×List (Nat×Bs)} (h:qd4 s i toks waits=.ok r) (hO:Ord i0 toks) (hi:i0<=i) (hr:i<r.1):Ord r.1 r.2.1:=by
 unfold qd4 linD remD mrkD wrdD at h;split at h
 . rename_i r' hl
   split at hl
   . cases hl
     split at h
     . cases h
     . rename_i q hq
       cases h;dsimp only at hr ⊢;have e:=docs_kap (tk:=q.1) (j:=q.2) hq;have hA:=hO.add (j:=q.2) (t:=(⟨2,[],[],false,i⟩:Tok)) hi rfl hr;refine⟨hA.o.of_map e,fun t ht=>?_⟩;have hm:kap t∈(toks++[(⟨2,[],[],false,i⟩:Tok)]).map kap:=by rw[<- e]; exact List.mem_map_of_mem ht
       obtain⟨u,hu,hk⟩:=List.mem_map.1 hm;have a1:u.at_=t.at_:=congrArg Prod.snd hk;rw[<- a1];exact hA.lt u hu
   . cases hl
 . split at h
   . rename_i r' hl
     split at hl
     . cases hl
       cases h;exact⟨hO.o,fun t ht=>by have:=hO.lt t ht; dsimp only at hr ⊢; omega⟩
     . cases hl
   . split at h
     . rename_i r' hl
       split at hl
       . cases hl
         cases h;exact hO.add hi rfl hr
       . split at hl
         . cases hl
           cases h
         . cases hl
     . split at h
       . cases h
       . split at h
         . split at h
           . cases h
           . rename_i l j _ _ _
             cases h;dsimp only at hr ⊢;have hA:=hO.add (j:=j) (t:=⟨0,[],l,false,i⟩) hi rfl hr;have e:toks++[⟨0,[],l,false,i⟩,⟨3,[],[],l.any fun p=>p.kind==1,i⟩]=toks++[⟨0,[],l,false,i⟩]++[⟨3,[],[],l.any fun p=>p.kind==1,i⟩]:=by rw[List.append_assoc]; rfl
             rw[e];refine⟨hA.o.push fun u hu=>?_,fun u hu=>?_⟩
             . rw[List.getLast?_concat]at hu
               cases hu;exact .inr ⟨rfl,rfl⟩
             . rcases List.mem_append.1 hu with hu|hu
               . exact hA.lt u hu
               . rw[List.mem_singleton]at hu; subst hu; exact hr
         . cases h
           exact hO.add hi rfl hr
theorem lex_ord:∀(n i:Nat) (toks:List Tok) (waits:List (Nat×Bs)) (T:List Tok),i<=s.length->Inv s i toks waits->qi2 n s i toks waits=.ok T->Ord i toks->Ord s.length T
 | 0,i,toks,waits,T,_,_,h,_=>by unfold qi2 at h; cases h
 | n+1,i,toks,waits,T,hi,hI,h,hO=>by
  rw[qbq]at h;obtain⟨i1,i2,i3⟩:=qe0 (s.length+1) s i hi (by omega);have hIU:Inv s (qeh (s.length+1) s i) toks waits:=⟨by have:=hI.t; omega,by have:=hI.w; omega,hI.ix,hI.tx⟩
  split at h
  . rename_i hlt
    split at h
    . cases h
    . rename_i q hq
      obtain⟨j1,j2,j3⟩:=qfi hIU hlt (i3 hlt).1 (i3 hlt).2 hq;exact lex_ord n _ _ _ _ j2 j3 h (step_ord hq hO i1 j1)
  . split at h
    . cases h
      exact⟨hO.o,fun t ht=>by have:=hO.lt t ht; omega⟩
    . cases h
theorem order_law {T:List Tok} (h:qfb s=.ok T):Ord s.length T:=
 lex_ord _ _ _ _ _ (Nat.zero_le _) (inv0 s) (lexA_ok h).2 ⟨fun i t u h=>(by simp at h),fun t h=>(by cases h)⟩
end
set_option maxRecDepth 100000
noncomputable section
def C4:Code:=Tryd.f4.body.getD .skip
def B4:D:=(qb1 C4 [[],[],[],[],[],[],[],[],[],[],[],[],[0,1,5,7,9],[],[0,1,5,7],[],[],[],[],[0,0,1,5,7],[4],[],[],[],[],[],[0,5,7,10,12],[],[5,10],[],[],[],[],[],[],[0,5,10],[4],[]]).1
def RL4:List Nat:=cellsOf Tryd.f4.results.toList
def R4_41 (self:EV) (N:Nat) (nk:Ac->St->Rs) (ek:Nat->Ac->St->Rs) (a:Ac) (S:St):Rs:=qbs [0,1,5,7] a fun a=>dr E0 self RL4 N (B4.r.r.r.r.r.r.r).r (mkK E0 self Tryd.f4 nk ek) a S
def R4_75 (self:EV) (N:Nat) (nk:Ac->St->Rs) (ek:Nat->Ac->St->Rs) (a:Ac) (S:St):Rs:=qbs [5,10] a fun a=>dr E0 self RL4 N (B4.r.r.r.r.r.r.r.r.l.r.r).r (mkK E0 self Tryd.f4 nk ek) a S
theorem R4_75_eq (self:EV) (N:Nat) (nk:Ac->St->Rs) (ek:Nat->Ac->St->Rs) ( v5 v10:V) (S:St):R4_75 self N nk ek (fr 124 [(5,v5),(10,v10)]) S =
(lnS v5 S).bind fun p78=>
(qak E0 22 v10 none (some p78.1) none p78.2).bind fun p79=>
callP (self.f 11 [p79.1,v5] p79.2) fun t81 S81=>
some (.ret t81,S81):=by kernel_rfl
def L4_84 (self:EV) (N:Nat) (nk:Ac->St->Rs) (ek:Nat->Ac->St->Rs) (n:Nat) ( v0 v5 v7 v10 v12:V) (S:St):Rs:=qek [0,5,7,10,12] (dr E0 self RL4 N (B4.r.r.r.r.r.r.r.r.l.r.r.l.r.l.l)) (mkK E0 self Tryd.f4 nk ek) n (fr 124 [(0,v0),(5,v5),(7,v7),(10,v10),(12,v12)]) S
theorem L4_84_eq (self:EV) (N:Nat) (nk:Ac->St->Rs) (ek:Nat->Ac->St->Rs) (n:Nat) ( v0 v5 v7 v10 v12:V) (S:St):L4_84 self N nk ek (n+1) v0 v5 v7 v10 v12 S =
(lnS v7 S).bind fun p87=>
(qa5 E0 .lss 3 false false v12 p87.1).bind fun t88=>
ifK t88 (
(lnS v5 p87.2).bind fun p91=>
(qa5 E0 .add 3 false true p91.1 (.int .i64 1)).bind fun t92=>
(qa5 E0 .add 3 false false t92 v12).bind fun t94=>
(ixP 5 v10 t94).bind fun t95=>
(ldA 5 t95 p91.2).bind fun p96=>
(some (nwP 39 5 (Tr.ofListFrom .nil [(.int .i64 0),(sv []),.nilslice,(.bool false),(.int .i64 0)] 0) p96.2)).bind fun p97=>
(stP 5 p97.1 p96.1 p97.2).bind fun p98=>
(faP 4 false 1 p97.1).bind fun t99=>
(ld1 t99 p98.2).bind fun p100=>
(qdk v0 p100.2).bind fun p102=>
(qa5 E0 .sub 3 false false p100.1 p102.1).bind fun t103=>
(qa5 E0 .sub 3 false true t103 (.int .i64 1)).bind fun t104=>
(faP 4 false 1 p97.1).bind fun t105=>
(stP 1 t105 t104 p102.2).bind fun p106=>
(ldA 5 p97.1 (onS p106.2)).bind fun p107=>
(bsP 39 5 1 (Tr.ofListFrom .nil [(.int .i64 0),(sv []),.nilslice,(.bool false),(.int .i64 0)] 0) [(0,p107.1)] (onS p107.2)).bind fun p108=>
(ixP 5 v7 v12).bind fun t111=>
(ldA 5 t111 (onS p108.2)).bind fun p112=>
(bsP 39 5 1 (Tr.ofListFrom .nil [(.int .i64 0),(sv []),.nilslice,(.bool false),(.int .i64 0)] 0) [(0,p112.1)] (onS p112.2)).bind fun p113=>
qk9 (qap E0 (B4.r.r.r.r.r.r.r.r.l.r.r.l.r.l.l.r.l.l.r.r.l).ops) p106.2 7 [p107.2.log,p108.2.log,[],[],[],p112.2.log,p113.2.log] (self.f 11 [p108.1,p113.1] (onS p113.2)) fun t114 S114=>
(unV .not t114).bind fun t115=>
qhk [(0,[5,6]),(1,[5,6])] p106.2 [p107.2.log,p108.2.log,[],[],[],p112.2.log,p113.2.log,S114.log,[]] (onS S114) fun S116=>
ifK t115 (
some (.ret (.bool false),S116)) (
(qa5 E0 .add 3 false true v12 (.int .i64 1)).bind fun t119=>
L4_84 self N nk ek n v0 v5 v7 v10 t119 S116)) (
ek 2 (fr 124 [(5,v5),(10,v10)]) p87.2):=by kernel_rfl
theorem R4_41_eq (self:EV) (N:Nat) (nk:Ac->St->Rs) (ek:Nat->Ac->St->Rs) ( v0 v1 v5 v7:V) (S:St):R4_41 self N nk ek (fr 124 [(0,v0),(1,v1),(5,v5),(7,v7)]) S =
(qa5 E0 .add 9 false true v0 (sv [10])).bind fun t43=>
(qa5 E0 .add 9 false false t43 v1).bind fun t45=>
callP (self.f 8 [t45] S) fun t46 S46=>
(qa9 t46 0).bind fun t48=>
(qa9 t46 1).bind fun t49=>
(qa5 E0 .neq 24 false true t49 .niliface).bind fun t53=>
(qa2 false t53).bind fun g55=>(bif g55 then some t48 else some (.tuple [])).bind fun t55=>
(qa2 false t53).bind fun g56=>(bif g56 then lnS t55 S46 else some (.tuple [],S46)).bind fun p56=>
(qa2 false t53).bind fun g57=>(bif g57 then some v5 else some (.tuple [])).bind fun t57=>
(qa2 false t53).bind fun g58=>(bif g58 then lnS t57 p56.2 else some (.tuple [],p56.2)).bind fun p58=>
(qa2 false t53).bind fun g59=>(bif g59 then qa5 E0 .add 3 false true p58.1 (.int .i64 1)else some (.tuple [])).bind fun t59=>
(qa2 false t53).bind fun g60=>(bif g60 then some v7 else some (.tuple [])).bind fun t60=>
(qa2 false t53).bind fun g61=>(bif g61 then lnS t60 p58.2 else some (.tuple [],p58.2)).bind fun p61=>
(qa2 false t53).bind fun g62=>(bif g62 then qa5 E0 .add 3 false false t59 p61.1 else some (.tuple [])).bind fun t62=>
(qa2 false t53).bind fun g63=>(bif g63 then qa5 E0 .neq 3 false false p56.1 t62 else some (.tuple [])).bind fun t63=>
(qao t53 (some (.bool true)) (some t63)).bind fun t64=>
(qa2 false t64).bind fun g66=>(bif g66 then some t48 else some (.tuple [])).bind fun t66=>
(qa2 false t64).bind fun g67=>(bif g67 then some v5 else some (.tuple [])).bind fun t67=>
(qa2 false t64).bind fun g68=>(bif g68 then lnS t67 p61.2 else some (.tuple [],p61.2)).bind fun p68=>
(qa2 false t64).bind fun g69=>(bif g69 then ixP 5 t66 p68.1 else some (.tuple [])).bind fun t69=>
(qa2 false t64).bind fun g70=>(bif g70 then faP 0 false 1 t69 else some (.tuple [])).bind fun t70=>
(qa2 false t64).bind fun g71=>(bif g71 then ld1 t70 p68.2 else some (.tuple [],p68.2)).bind fun p71=>
(qa2 false t64).bind fun g72=>(bif g72 then qa5 E0 .neq 3 false true p71.1 (.int .i64 2)else some (.tuple [])).bind fun t72=>
(qao t64 (some (.bool true)) (some t72)).bind fun t73=>
ifK t73 (
some (.ret (.bool false),p71.2)) (
L4_84 self N (R4_75 self N (fun a s=>qbs [4] a fun a=>nk a s) ek) (exB 2 (R4_75 self N (fun a s=>qbs [4] a fun a=>nk a s) ek) ek) N v0 v5 v7 t48 (.int .i64 0) p71.2):=by kernel_rfl
def L4_122 (self:EV) (N:Nat) (nk:Ac->St->Rs) (ek:Nat->Ac->St->Rs) (n:Nat) ( v0 v1 v5 v7 v9:V) (S:St):Rs:=qek [0,1,5,7,9] (dr E0 self RL4 N (B4.r.r.r.r.r.r.r.l.r.l.l)) (mkK E0 self Tryd.f4 nk ek) n (fr 124 [(0,v0),(1,v1),(5,v5),(7,v7),(9,v9)]) S
theorem L4_122_eq (self:EV) (N:Nat) (nk:Ac->St->Rs) (ek:Nat->Ac->St->Rs) (n:Nat) ( v0 v1 v5 v7 v9:V) (S:St):L4_122 self N nk ek (n+1) v0 v1 v5 v7 v9 S =
(lnS v5 S).bind fun p125=>
(qa5 E0 .lss 3 false false v9 p125.1).bind fun t126=>
ifK t126 (
(ixP 5 v5 v9).bind fun t129=>
(faP 0 false 1 t129).bind fun t130=>
(ld1 t130 p125.2).bind fun p131=>
(qa5 E0 .eql 3 false true p131.1 (.int .i64 3)).bind fun t132=>
ifK t132 (
some (.ret (.bool true),p131.2)) (
(qa5 E0 .add 3 false true v9 (.int .i64 1)).bind fun t135=>
L4_122 self N nk ek n v0 v1 v5 v7 t135 p131.2)) (
ek 0 (fr 124 [(0,v0),(1,v1),(5,v5),(7,v7)]) p125.2):=by kernel_rfl
def F4 (self:EV) (N:Nat) (x0 x1:V) (S:St):Rs:=qdz E0 self N Tryd.f4 B4 [x0,x1] S
theorem F4_eq (self:EV) (N:Nat) (x0 x1:V) (S:St):F4 self N x0 x1 S =
callP (self.f 12 [] S) fun t1 S1=>
(unV .not t1).bind fun t2=>
ifK t2 (
some (.ret (.bool false),S1)) (
(qdk x0 S1).bind fun p6=>
(qjc minV p6.1 [(.int .i64 1900)] p6.2).bind fun p7=>
(qak E0 9 x0 none (some p7.1) none p7.2).bind fun p8=>
(qdk x1 p8.2).bind fun p12=>
(qjc minV p12.1 [(.int .i64 1900)] p12.2).bind fun p13=>
(qak E0 9 x1 none (some p13.1) none p13.2).bind fun p14=>
callP (self.f 8 [p8.1] p14.2) fun t17 S17=>
(qa9 t17 0).bind fun t19=>
(qa9 t17 1).bind fun t20=>
callP (self.f 8 [p14.1] S17) fun t24 S24=>
(qa9 t24 0).bind fun t26=>
(qa9 t24 1).bind fun t27=>
(qa5 E0 .neq 24 false true t20 .niliface).bind fun t31=>
(qa2 false t31).bind fun g33=>(bif g33 then some t27 else some (.tuple [])).bind fun t33=>
(qa2 false t31).bind fun g34=>(bif g34 then qa5 E0 .neq 24 false true t33 .niliface else some (.tuple [])).bind fun t34=>
(qao t31 (some (.bool true)) (some t34)).bind fun t35=>
(qa2 false t35).bind fun g37=>(bif g37 then some p8.1 else some (.tuple [])).bind fun t37=>
(qa2 false t35).bind fun g38=>callP (bif g38 then self.f 13 [t37,(sv [92])] S24 else some (.ret (.tuple []),S24)) fun t38 S38=>
(qao t35 (some (.bool true)) (some t38)).bind fun t39=>
ifK t39 (
some (.ret (.bool true),S38)) (
L4_122 self N (R4_41 self N (qcn E0 self Tryd.f4) qb0) (exB 0 (R4_41 self N (qcn E0 self Tryd.f4) qb0) qb0) N p8.1 p14.1 t19 t26 (.int .i64 0) S38)):=by kernel_rfl
end
end Go.Proofs.YtafbipadnnmccaaDoor.W
namespace Go.Proofs.YtafbipadnnmccaaDoor.W
open Go.Proofs.YtafbipadnnmccaaDoor.Ev Go.RowKit
section
variable {K:FuncId->Option KF} {S U T:St}
theorem ldA_lg (ho:S.on=false) {b off z:Nat} {v:V} (h:ldA z (.ptr b off) S=some (v,S)) (l:List LE):ldA z (.ptr b off) (S.lg l)=some (v,S.lg (⟨b,off,off+z,false⟩::l)):=by
 have h':((ldK S b off z).bind fun p=>some (V.agg z p.1,p.2))=some (v,S):=h;show((ldK (S.lg l) b off z).bind fun p=>some (V.agg z p.1,p.2))=_;simp only[oI,oS,pM]at h';obtain⟨⟨t,s'⟩,h1,h2,h3⟩:=h'
 have hx:ldK (S.lg l) b off z=some (t,S.lg (⟨b,off,off+z,false⟩::l)):=by
  unfold ldK at h1 ⊢;rw[show(S.lg l).heap=S.heap from rfl];split at h1
  . rename_i e esz n ro c hb
    cases hc:(Nat.ble (off+z) (esz*n)&&Nat.blt (esz*n) big)with
    | false=>rw[hc]at h1; cases h1
    | true=>
     rw[hc]at h1;simp only[cT,oI,oS,pM]at h1 ⊢;obtain⟨w,h4,rfl,_⟩:=h1;exact⟨w,h4,rfl,rfl⟩
  . cases h1
 rw[hx,oB,<- h2]
def VwT (S:St) (v:V) (toks:List Tok):Prop:=(∀T,lnS v T=some (.int .i64 (toks.length:Int),T))/\toks.length<1000000000/\∀(i:Nat) (t:Tok),toks[i]?=some t->∃r c u rows Q,ixP 5 v (.int .i64 (i:Int))=some (.ptr r c)/\RV S u 49 6 rows/\PrAt S Q t.parts rows/\ld1 (.ptr r (c+0)) S=some (.int .i64 (t.kind:Int),S)/\ld1 (.ptr r (c+1)) S=some (sv t.text,S)/\ld1 (.ptr r (c+2)) S=some (u,S)/\ld1 (.ptr r (c+3)) S=some (.bool t.quoted,S)/\ld1 (.ptr r (c+4)) S=some (.int .i64 (t.at_:Int),S)
theorem vw_of (ho:S.on=false) {v:V} {rows:List (Tr V)} {Q:Nat->Prop} {toks:List Tok} (hv:RV S v 39 5 rows) (ht:TksAt S Q toks rows) (hs:toks.length<1000000000):VwT S v toks:=by
 refine⟨fun T=>by rw[<- ht.1]; exact hv.len T,hs,fun i t hi=>?_⟩;have hlt:=(List.getElem?_eq_some_iff.1 hi).1;have h1:=ht.1;obtain⟨r,hr1,hr2,hr3,hr4⟩:=hv.at (i:=i) (by omega)
 obtain⟨c,hg,u,ru,rfl,hu,hw,hb⟩:=ht.2 i t hi;exact⟨r,i*5,u,ru,Q,hr2,hu,hw,qc1 ho hr3 hg (by decide) (rowT0 t u),qc1 ho hr3 hg (by decide) (rowT1 t u),qc1 ho hr3 hg (by decide) (rowT2 t u),qc1 ho hr3 hg (by decide) (rowT3 t u),qc1 ho hr3 hg (by decide) (rowT4 t u)⟩
set_option maxRecDepth 100000 in
theorem view_loop (hK:RefL K) (hL:Lg.KnLoc K) (m D:Nat) (N:Nat) (nk:Ac->St->Rs) (ek:Nat->Ac->St->Rs) {v v':V} {toks:List Tok} (ho:S.on=false) (hv:VwT S v toks) (hv':VwT S v' toks) (hdep:∀t∈toks,qcx t.parts<=D) :
 ∀(l:List Tok) (j q:Nat),toks.drop j=l->l.length<q->
 L11_10 (ev E0 K (m+D+1)) N nk ek q v v' (.int .i64 (j:Int)) S=ek 0 (fr 81 []) S
 | l,j,0,_,hq=>absurd hq (Nat.not_lt_zero _)
 | [],j,q+1,hr,hq=>by
  have:=qdu hr;rw[L11_10_eq,hv.1,b_s];dsimp only;rw[qkg,dF (by omega),b_s,i_b,c_f]
 | t::l,j,q+1,hr,hq=>by
  obtain⟨hlt,e1,e2,hm⟩:=qey hr;have hti:toks[j]?=some t:=by rw[List.getElem?_eq_getElem hlt,e1]
  obtain⟨r,c,u,ru,Q,hr2,hu,hw,w0,w1,w2,w3,w4⟩:=hv.2.2 j t hti;obtain⟨r',c',u',ru',Q',hr2',hu',hw',x0,x1,x2,x3,x4⟩:=hv'.2.2 j t hti;have f0:∀i,faP i false 1 (.ptr r c)=some (.ptr r (c+i)):=fun i=>faPg i 0 _ false r;have f0':∀i,faP i false 1 (.ptr r' c')=some (.ptr r' (c'+i)):=fun i=>faPg i 0 _ false r';have a0:=fun L=>qbb ho w0 L;have a1:=fun L=>qbb ho w1 L;have a2:=fun L=>qbb ho w2 L;have a3:=fun L=>qbb ho w3 L;have a4:=fun L=>qbb ho w4 L;have b0:=fun L=>qbb ho x0 L;have b1:=fun L=>qbb ho x1 L;have b2:=fun L=>qbb ho x2 L;have b3:=fun L=>qbb ho x3 L;have b4:=fun L=>qbb ho x4 L;have hsm:=hv.2.1;obtain⟨L,hs⟩:=Lg.ev_lg hL (sam_run hK hL m D t.parts (hdep t hm) S u u' ru ru' Q Q' ho hu hw hu' hw') [];have hlp:=view_loop hK hL m D N nk ek ho hv hv' hdep l (j+1) q e2 (by simp only[List.length_cons]at hq; omega);rw[L11_10_eq,hv.1,b_s];dsimp only;rw[qkg,dT hlt,b_s,i_b,c_t];simp only[hr2,hr2',b_s,f0,f0',lons',llg',a0,a1,a2,a3,a4,b0,b1,b2,b3,b4,ne3s,ne9s,ne4s,g_f,c_t,c_f,p_b,nF,lg_log];rw[hs,qby];simp only[b_s,c_t,c_f,u_not,Bool.not_true,p_b,lg_log];rw[qez (pairs_same _ _ _ _ _ _ _ _ _ _ _ (qat _ _ _ _ _ _ _ (.inl rfl)) (qat _ _ _ _ _ _ _ (.inl rfl)) (qat _ _ _ _ _ _ _ (.inl rfl)) (qat _ _ _ _ _ _ _ (.inl rfl)) (qat _ _ _ _ _ _ _ (.inl rfl)))];rw[llg',qd2 ho,i_b,c_f,qei (by omega),b_s,hlp]
theorem view_run (hK:RefL K) (hL:Lg.KnLoc K) (m D:Nat) {v v':V} {toks:List Tok} (ho:S.on=false) (hv:VwT S v toks) (hv':VwT S v' toks) (hdep:∀t∈toks,qcx t.parts<=D):(ev E0 K (m+D+2)).f 11 [v,v'] S=some (.ret (.bool true),S):=by
 refine rv11 hK ?_;show F11 (ev E0 K (m+D+1)) qa3 v v' S=_;have hsm:=hv.2.1;rw[F11_eq,hv.1,b_s];dsimp only;rw[hv'.1,b_s];dsimp only;rw[ne3s,b_s,i_b,c_f,show(V.int .i64 0)=.int .i64 ((0:Nat):Int)from rfl,view_loop hK hL m D qa3 _ _ ho hv hv' hdep toks 0 qa3 rfl (by unfold qa3; omega),exB_same,R11_7_eq]
theorem und22:und E0 22=some (.slice 39):=by kernel_rfl
theorem size39:qaq E0 39=some 5:=by kernel_rfl
theorem view_front (ho:S.on=false) {v:V} {rows:List (Tr V)} {Q:Nat->Prop} {toks:List Tok} (hv:RV S v 39 5 rows) (ht:TksAt S Q toks rows) (h0:0<toks.length) (hs:toks.length<1000000000) (n:Nat) (hn:n<=toks.length):∃v',qak E0 22 v none (some (.int .i64 (n:Int))) none S=some (v',S)/\VwT S v' (toks.take n):=by
 have hl:=ht.1;have hlen:(toks.take n).length=n:=by rw[List.length_take]; omega
 have hfields:∀(r:Nat) (v':V),RowAt S r 39 5 rows->(∀T,lnS v' T=some (.int .i64 (n:Int),T))->(∀i,i<n->ixP 5 v' (.int .i64 (i:Int))=some (.ptr r (i*5)))->VwT S v' (toks.take n):=fun r v' hr h1 h2=>by
  refine⟨fun T=>by rw[hlen]; exact h1 T,by omega,fun i t hi=>?_⟩;have hlt:=(List.getElem?_eq_some_iff.1 hi).1;rw[hlen]at hlt;rw[List.getElem?_take_of_lt hlt]at hi;obtain⟨c,hg,u,ru,rfl,hu,hw,hb⟩:=ht.2 i t hi;exact⟨r,i*5,u,ru,Q,h2 i hlt,hu,hw,qc1 ho hr hg (by decide) (rowT0 t u),qc1 ho hr hg (by decide) (rowT1 t u),qc1 ho hr hg (by decide) (rowT2 t u),qc1 ho hr hg (by decide) (rowT3 t u),qc1 ho hr hg (by decide) (rowT4 t u)⟩
 rcases hv with⟨h,_⟩|⟨r,h1,h2,h3,hv⟩
 . rw[h]at hl
   simp at hl;omega
 . rcases hv with rfl|rfl
   . refine⟨.oslice r 0 n 5,?_,hfields r _ h1 (fun T=>rfl) fun i hi=>?_⟩
     . unfold qak
       rw[und22,oB];simp only;rw[size39,oB];simp only[Nat.beq_refl,Bool.true_and,show Nat.blt 0 5=true from rfl,cT];rw[qmv ho h1,oB];simp only[Nat.sub_zero];rw[Nat.mul_div_cancel_left _ (by decide:0<5),qdh .i64 (by omega),oB];simp only[Nat.zero_mul,Nat.add_zero,Nat.sub_zero];rw[blt_true.2 h3,cT]
     . show(bif Nat.blt i n then some (V.ptr r (0+i*5))else none)=_
       rw[blt_true.2 hi,cT,Nat.zero_add]
   . refine⟨.slice r 0 n rows.length,?_,hfields r _ h1 (fun T=>rfl) fun i hi=>?_⟩
     . unfold qak
       rw[und22,oB];simp only;rw[qdh .i64 (by omega),oB,size39,oB];simp only[Nat.zero_mul,Nat.add_zero,Nat.sub_zero]
     . show(bif Nat.blt i n then some (V.ptr r (0+i*5))else none)=_
       rw[blt_true.2 hi,cT,Nat.zero_add]
end
end Go.Proofs.YtafbipadnnmccaaDoor.W
end
