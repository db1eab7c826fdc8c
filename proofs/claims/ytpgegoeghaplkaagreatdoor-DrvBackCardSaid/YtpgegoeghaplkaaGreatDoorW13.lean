/-
  WHAT THE FUNCTIONS COME TO: each is read by the evaluator,printed,and told as a function of data,part 13 of 13 (no condition).
-/
import Derived.Test.YtpgegoeghaplkaaGreatDoorW12
import Derived.WalkKit
import Derived.ProofKit
import Derived.OpenShut
import Derived.Carry
import Derived.ChangeMaps5
import Derived.Lib.SmallJoins
namespace Go.Proofs.YtpgegoeghaplkaaGreatDoor.W
open Go.Proofs.YtpgegoeghaplkaaGreatDoor.Ev Go.RowKit
theorem zz_self {S:St} (ho:S.on=false):zz S S=S:=by
 unfold zz;cases S;simp only at ho;subst ho;rfl
theorem drop_next {α:Type} {l m:List α} {i:Nat} {a b:α} (ha:l[i]?=some a) (hb:m[i]?=some b):(l.drop i=m.drop i)↔(a=b/\l.drop (i+1)=m.drop (i+1)):=by
 obtain⟨h1,rfl⟩:=List.getElem?_eq_some_iff.1 ha;obtain⟨h2,rfl⟩:=List.getElem?_eq_some_iff.1 hb;rw[List.drop_eq_getElem_cons h1,List.drop_eq_getElem_cons h2,List.cons.injEq]
section
variable {S T U W:St} {b2 b3:Nat} {T1 T2:Tr V}
theorem VLo.ldOnA {v:V} {l:List (Bs×Bs)} {N:Nat} (h:VLo S v l N) (ho:S.on=false) {i:Nat} {p:Bs×Bs} (hp:l[i]?=some p) (L:List LE):∃x r o,ixP 2 v (.int .i64 (i:Int))=some x/\Ev.ldA 2 x (S.lg L)=some (.agg 2 (qg4 p),S.lg (⟨r,o,o+2,false⟩::L)):=by
 obtain⟨hi,he⟩:=List.getElem?_eq_some_iff.1 hp;rcases h with⟨rfl,_⟩|⟨r,rfl,h1,h2,h3,h4⟩
 . simp at hp
 . refine⟨.ptr r (0+i*2),r,i*2,?_,?_⟩
   . have h0:ixP 2 (.oslice r 0 l.length 2) (.int .i64 (i:Int))=bif Nat.blt i l.length then some (.ptr r (0+i*2))else none:=rfl
     rw[h0,blt_true.2 hi,cT]
   . obtain⟨c,c1,c2⟩:=h1.row
     have hfit:=h1.fit;have hg:=c2 i (qg4 p) (by rw[List.getElem?_map,hp]; rfl);rw[Nat.zero_add];show((Ev.ldK (S.lg L) r (i*2) 2).bind fun p=>some (V.agg 2 p.1,p.2))=_;unfold Ev.ldK;rw[show(S.lg L).heap.get r=_ from c1];rw[lM]at hfit ⊢;simp only[ble_true.2 (show i*2+2<=2*l.length by omega),blt_true.2 hfit,Bool.and_self,cT];unfold qes;rw[show Nat.beq 2 2=true from rfl,Nat.mul_mod_left,show Nat.beq 0 0=true from rfl,Nat.mul_div_cancel _ (by decide)];simp only[Bool.and_self,cT,hg,oB];rfl
theorem neqVarS (la a lb b lc c ld d:Nat):qa4 E0 .neq 41 false false (.agg 2 (Tr.ofListFrom .nil [.str la a,.str lb b] 0)) (.agg 2 (Tr.ofListFrom .nil [.str lc c,.str ld d] 0))=(bif sEq la a lc c then(bif sEq lb b ld d then some true else some false)else some false).bind fun b=>some (V.bool (!b)):=by kernel_rfl
theorem neqVar (p q:Bs×Bs):qa4 E0 .neq 41 false false (.agg 2 (qg4 p)) (.agg 2 (qg4 q))=some (.bool (!decide (p=q))):=by
 have h:=neqVarS p.1.length (qb3 p.1) p.2.length (qb3 p.2) q.1.length (qb3 q.1) q.2.length (qb3 q.2);rw[qg2,qg2]at h;refine h.trans ?_
 have hd:decide (p=q)=(p.1==q.1&&p.2==q.2):=by
  rw[Bool.eq_iff_iff,decide_eq_true_eq,bA,beq_iff_eq,beq_iff_eq];exact⟨fun h=>by rw[h]; exact⟨rfl,rfl⟩,fun h=>Prod.ext h.1 h.2⟩
 rw[hd];cases p.1==q.1 with
 | false=>rfl
 | true=>cases p.2==q.2<;>rfl
theorem L61s_spec {m N:Nat} (ho:S.on=false) {vI1 vI2:V} {l1 l2:List Bs} {N1 N2:Nat} (a1:AgAt S b2 25 4 T1) (a2:AgAt S b3 25 4 T2) (g1:T1.get 1=some vI1) (g2:T2.get 1=some vI2) (h1:TLo S vI1 l1 N1) (h2:TLo S vI2 l2 N2) (hl:l1.length=l2.length) (h1k:l1.length<=10000) (nk:Ac->St->Rs) (ek:Nat->Ac->St->Rs) :
 ∀(d i q:Nat),i+d=l1.length->d<q->
 L13_61 (ev E0 KD m) N nk ek q (.ptr b2 0) (.ptr b3 0) (.int .i64 (i:Int)) S=if l1.drop i=l2.drop i then ek 0 (fr 73 [(2,.ptr b2 0),(3,.ptr b3 0)]) S else some (.ret (.bool false),S)
 | _,_,0,_,hq=>by omega
 | 0,i,q+1,hi,hq=>by
  rw[L13_61_eq,show faP 1 false 1 (.ptr b2 0)=some (.ptr b2 1)from rfl,oB,a1.ld1 ho qcx (by decide) g1,oB];dsimp only;rw[h1.tl.len,oB];dsimp only;rw[qff,dF (by omega),oB,ifK_bool,cF,List.drop_of_length_le (by omega),List.drop_of_length_le (by omega),iP rfl]
 | d+1,i,q+1,hi,hq=>by
  have hi1:i<l1.length:=by omega
  have hi2:i<l2.length:=by omega
  have x1:=List.getElem?_eq_getElem hi1;have x2:=List.getElem?_eq_getElem hi2;obtain⟨p1,r1,o1,k1,k2⟩:=h1.tl.ldOn ho x1 [];obtain⟨p2,r2,o2,j1,j2⟩:=h2.tl.ldOn ho x2 [];have ih:=L61s_spec (m:=m) (N:=N) ho a1 a2 g1 g2 h1 h2 hl h1k nk ek d (i+1) q (by omega) (by omega);rw[L13_61_eq,show faP 1 false 1 (.ptr b2 0)=some (.ptr b2 1)from rfl,oB,a1.ld1 ho qcx (by decide) g1,oB];dsimp only;rw[h1.tl.len,oB];dsimp only;rw[qff,dT hi1,oB,ifK_bool,cT,oB];simp only[ons,qbk];rw[qbj ho (a1.ld1 ho qcx (by decide) g1) [],oB];simp only[ons,qbk];rw[k1,oB,k2,oB,show faP 1 false 1 (.ptr b3 0)=some (.ptr b3 1)from rfl,oB];simp only[ons,qbk];rw[qbj ho (a2.ld1 ho qcx (by decide) g2) [],oB];simp only[ons,qbk];rw[j1,oB,j2,oB];dsimp only;rw[qlj,oB];simp only[ons,qbk];rw[qbw ?_,qcd ho,zz_self ho,ifK_bool]
  . have hd:=drop_next x1 x2
    by_cases e:l1[i]=l2[i]
    . rw[e,beq_self_eq_true,Bool.not_true,cF,qds (by omega),oB,ih]
      by_cases e2:l1.drop (i+1)=l2.drop (i+1)
      . rw[iP e2,iP (hd.2 ⟨e,e2⟩)]
      . rw[iN e2,iN fun h=>e2 (hd.1 h).2]
    . rw[beq_false_of_ne e,nF,cT,iN fun h=>e (hd.1 h).1]
  . refine qcn (r1:=b2+b3+r1+r2+1) (r2:=b2+b3+r1+r2+2) (tags:=[0,1,0,0,1,0,1,0,0,1,0]) (by omega) ?_ (by decide)
    repeat' apply And.intro
    all_goals first
     | trivial
     | (intro e he; cases he; done)
     | (intro e he; cases List.mem_singleton.1 he; exact⟨rfl,by dsimp only; omega,by dsimp only; omega⟩)
theorem L38s_spec {m N:Nat} (ho:S.on=false) {vE1 vE2:V} {l1 l2:List (Bs×Bs)} {N1 N2:Nat} (a1:AgAt S b2 25 4 T1) (a2:AgAt S b3 25 4 T2) (g1:T1.get 2=some vE1) (g2:T2.get 2=some vE2) (h1:VLo S vE1 l1 N1) (h2:VLo S vE2 l2 N2) (hl:l1.length=l2.length) (h1k:l1.length<=10000) (nk:Ac->St->Rs) (ek:Nat->Ac->St->Rs) :
 ∀(d i q:Nat),i+d=l1.length->d<q->
 L13_38 (ev E0 KD m) N nk ek q (.ptr b2 0) (.ptr b3 0) (.int .i64 (i:Int)) S=if l1.drop i=l2.drop i then ek 2 (fr 73 []) S else some (.ret (.bool false),S)
 | _,_,0,_,hq=>by omega
 | 0,i,q+1,hi,hq=>by
  rw[L13_38_eq,show faP 2 false 1 (.ptr b2 0)=some (.ptr b2 2)from rfl,oB,a1.ld1 ho qcx (by decide) g1,oB];dsimp only;rw[h1.len,oB];dsimp only;rw[qff,dF (by omega),oB,ifK_bool,cF,List.drop_of_length_le (by omega),List.drop_of_length_le (by omega),iP rfl]
 | d+1,i,q+1,hi,hq=>by
  have hi1:i<l1.length:=by omega
  have hi2:i<l2.length:=by omega
  have x1:=List.getElem?_eq_getElem hi1;have x2:=List.getElem?_eq_getElem hi2;obtain⟨p1,r1,o1,k1,k2⟩:=h1.ldOnA ho x1 [];obtain⟨p2,r2,o2,j1,j2⟩:=h2.ldOnA ho x2 [];have ih:=L38s_spec (m:=m) (N:=N) ho a1 a2 g1 g2 h1 h2 hl h1k nk ek d (i+1) q (by omega) (by omega);rw[L13_38_eq,show faP 2 false 1 (.ptr b2 0)=some (.ptr b2 2)from rfl,oB,a1.ld1 ho qcx (by decide) g1,oB];dsimp only;rw[h1.len,oB];dsimp only;rw[qff,dT hi1,oB,ifK_bool,cT,oB];simp only[ons,qbk];rw[qbj ho (a1.ld1 ho qcx (by decide) g1) [],oB];simp only[ons,qbk];rw[k1,oB,k2,oB,show faP 2 false 1 (.ptr b3 0)=some (.ptr b3 2)from rfl,oB];simp only[ons,qbk];rw[qbj ho (a2.ld1 ho qcx (by decide) g2) [],oB];simp only[ons,qbk];rw[j1,oB,j2,oB];dsimp only;rw[neqVar,oB];simp only[ons,qbk];rw[qbw ?_,qcd ho,zz_self ho,ifK_bool]
  . have hd:=drop_next x1 x2
    by_cases e:l1[i]=l2[i]
    . rw[e,dT rfl,Bool.not_true,cF,qds (by omega),oB,ih]
      by_cases e2:l1.drop (i+1)=l2.drop (i+1)
      . rw[iP e2,iP (hd.2 ⟨e,e2⟩)]
      . rw[iN e2,iN fun h=>e2 (hd.1 h).2]
    . rw[dF e,nF,cT,iN fun h=>e (hd.1 h).1]
  . refine qcn (r1:=b2+b3+r1+r2+1) (r2:=b2+b3+r1+r2+2) (tags:=[0,1,0,0,1,0,1,0,0,1,0]) (by omega) ?_ (by decide)
    repeat' apply And.intro
    all_goals first
     | trivial
     | (intro e he; cases he; done)
     | (intro e he; cases List.mem_singleton.1 he; exact⟨rfl,by dsimp only; omega,by dsimp only; omega⟩)
end
def qll (a b:DD):Bool:=(a.nm==b.nm&&a.scr==b.scr)&&(decide (a.ins=b.ins)&&decide (a.env=b.env))
theorem sameB_iff {a b:DD}:qll a b=true↔a=b:=by
 unfold qll;simp only[bA,beq_iff_eq,decide_eq_true_eq];constructor
 . rintro ⟨⟨h1,h2⟩,h3,h4⟩
   cases a; cases b;simp only at h1 h2 h3 h4;subst h1; subst h2; subst h3; subst h4; rfl
 . rintro rfl
   exact⟨⟨rfl,rfl⟩,rfl,rfl⟩
theorem nneq (a b:Nat) (c d:Bool):qa4 E0 .neq 3 c d (.int .i64 (a:Int)) (.int .i64 (b:Int))=some (.bool (!decide (a=b))):=by
 rw[binV_ii,intsV_neq]
 congr 3
 simp;omega
section
variable {S T U W:St} {N1 N2:Nat} {T1 T2:Tr V} {a b:DD} {vI1 vE1 vI2 vE2:V}
theorem rq13' {n:Nat} {args:List V} {s:St} {r:En×St} (e:qay E0 (ev E0 KD n) qa1 Tryz.f13 B13 args s=some r):(ev E0 KD (n+1)).f 13 args s=some r:=qa5 (c:=C13) (d:=B13) (by kernel_rfl) (by kernel_rfl) (qa2 C13 _ (by kernel_rfl)) rfl e
theorem same_run (h1:Dx S N1 T1 a vI1 vE1) (h2:Dx S N2 T2 b vI2 vE2) (m:Nat):∃U,(ev E0 KD (m+1)).f 13 [.agg 4 T1,.agg 4 T2] S=some (.ret (.bool (qll a b)),U)/\Grew (fun _=>False) S U:=by
 have ho:=h1.on;obtain⟨a1,a2,a3⟩:=qbt ho 25 4 T1;have on1:=a2.on.trans ho;have hF:=F13_eq (ev E0 KD m) qa1 (.agg 4 T1) (.agg 4 T2) S;rw[show qle 25 (.agg 4 T1) S=some (.ptr S.next 0,(nwP 25 4 T1 S).2)from rfl,oB]at hF;dsimp only at hF;generalize (nwP 25 4 T1 S).2=S1 at a1 a2 a3 on1 hF;obtain⟨b1,b2,b3⟩:=qbt on1 25 4 T2;rw[show qle 25 (.agg 4 T2) S1=some (.ptr S1.next 0,(nwP 25 4 T2 S1).2)from rfl,oB]at hF;dsimp only at hF;generalize (nwP 25 4 T2 S1).2=S2 at b1 b2 b3 hF;have on2:=b2.on.trans on1;have a1':AgAt S2 S.next 25 4 T1:=a1.grew (by omega) (fun h=>h) b2
 have g2:=a2.trans b2;have i1:=h1.ins.grew g2;have i2:=h2.ins.grew g2;have e1:=h1.env.grew g2 fun _ _ h=>h;have e2:=h2.env.grew g2 fun _ _ h=>h;have n1:=a1'.ld1 on2 qcx (by decide) h1.t.nm;have n2:=b1.ld1 on2 qcx (by decide) h2.t.nm;have s1:=a1'.ld1 on2 qcx (by decide) h1.t.scr;have s2:=b1.ld1 on2 qcx (by decide) h2.t.scr;have j1:=a1'.ld1 on2 qcx (by decide) h1.t.ins;have j2:=b1.ld1 on2 qcx (by decide) h2.t.ins;have k1:=a1'.ld1 on2 qcx (by decide) h1.t.env;have k2:=b1.ld1 on2 qcx (by decide) h2.t.env;have f10:faP 0 false 1 (.ptr S.next 0)=some (.ptr S.next 0):=rfl;have f20:faP 0 false 1 (.ptr S1.next 0)=some (.ptr S1.next 0):=rfl;have f13:faP 3 false 1 (.ptr S.next 0)=some (.ptr S.next 3):=rfl;have f23:faP 3 false 1 (.ptr S1.next 0)=some (.ptr S1.next 3):=rfl;have f11:faP 1 false 1 (.ptr S.next 0)=some (.ptr S.next 1):=rfl;have f21:faP 1 false 1 (.ptr S1.next 0)=some (.ptr S1.next 1):=rfl;have f12:faP 2 false 1 (.ptr S.next 0)=some (.ptr S.next 2):=rfl;have f22:faP 2 false 1 (.ptr S1.next 0)=some (.ptr S1.next 2):=rfl;have li1:=i1.tl.len (U:=S2);have li2:=i2.tl.len (U:=S2);have le1:=e1.len S2;have le2:=e2.len S2;rw[f10,oB,n1,oB]at hF;dsimp only at hF;rw[f20,oB,n2,oB]at hF;dsimp only at hF;rw[qlj,oB]at hF;by_cases c1:a.nm=b.nm
 . rw[c1,beq_self_eq_true,Bool.not_true]at hF
   simp only[qaj,oB,nF,cT,f13,s1,f23,s2,qlj,pickV_bool,cF]at hF;by_cases c2:a.scr=b.scr
   . rw[c2,beq_self_eq_true,Bool.not_true]at hF
     simp only[qaj,oB,nF,cT,f11,j1,f21,j2,li1,li2,nneq,pickV_bool,cF]at hF;by_cases c3:a.ins.length=b.ins.length
     . rw[dT c3,Bool.not_true]at hF
       simp only[qaj,oB,nF,cT,f12,k1,f22,k2,le1,le2,nneq,pickV_bool,cF]at hF;by_cases c4:a.env.length=b.env.length
       . rw[dT c4,Bool.not_true,ifK_bool,cF,show V.int .i64 0=.int .i64 ((0:Nat):Int)from rfl,L61s_spec on2 a1' b1 h1.t.ins h2.t.ins i1 i2 c3 (by have:=h1.li; omega) _ _ a.ins.length 0 qa1 (Nat.zero_add _) (by have:=h1.li; unfold qa1; omega),List.drop_zero,List.drop_zero]at hF
         by_cases c5:a.ins=b.ins
         . rw[iP c5,exB_same,R13_34_eq,show V.int .i64 0=.int .i64 ((0:Nat):Int)from rfl,L38s_spec on2 a1' b1 h1.t.env h2.t.env e1 e2 c4 (by have:=h1.le; omega) _ _ a.env.length 0 qa1 (Nat.zero_add _) (by have:=h1.le; unfold qa1; omega),List.drop_zero,List.drop_zero]at hF
           by_cases c6:a.env=b.env
           . rw[iP c6,exB_same,R13_35_eq]at hF
             refine⟨S2,rq13' ?_,g2⟩;refine Eq.trans hF ?_;unfold qll;rw[c1,c2,c5,c6,beq_self_eq_true,beq_self_eq_true,dT rfl,dT rfl]; rfl
           . rw[iN c6]at hF
             refine⟨S2,rq13' ?_,g2⟩;refine Eq.trans hF ?_;unfold qll;rw[dF c6,Bool.and_false,Bool.and_false]
         . rw[iN c5]at hF
           refine⟨S2,rq13' ?_,g2⟩;refine Eq.trans hF ?_;unfold qll;rw[dF c5,Bool.false_and,Bool.and_false]
       . rw[dF c4]at hF
         refine⟨S2,rq13' ?_,g2⟩;refine Eq.trans hF ?_;unfold qll;rw[dF (fun h=>c4 (by rw[h]):¬a.env=b.env),Bool.and_false,Bool.and_false]; rfl
     . rw[dF c3]at hF
       refine⟨S2,rq13' ?_,g2⟩;refine Eq.trans hF ?_;unfold qll;rw[dF (fun h=>c3 (by rw[h]):¬a.ins=b.ins),Bool.false_and,Bool.and_false]; rfl
   . rw[beq_false_of_ne c2]at hF
     refine⟨S2,rq13' ?_,g2⟩;refine Eq.trans hF ?_;unfold qll;rw[beq_false_of_ne c2,Bool.and_false,Bool.false_and]; rfl
 . rw[beq_false_of_ne c1]at hF
   refine⟨S2,rq13' ?_,g2⟩;refine Eq.trans hF ?_;unfold qll;rw[beq_false_of_ne c1,Bool.false_and,Bool.false_and]; rfl
end
theorem cutL_le (l:List Bs):(cutL l).length<=20/\∀p∈cutL l,p.length<=300:=by
 unfold cutL;refine⟨by rw[lM,List.length_take]; omega,fun p hp=>?_⟩;obtain⟨q,_,rfl⟩:=List.mem_map.1 hp;rw[List.length_take]; omega
theorem cutP_le (l:List (Bs×Bs)):(cutP l).length<=20/\∀p∈cutP l,p.1.length<=300/\p.2.length<=300:=by
 unfold cutP;refine⟨by rw[lM,List.length_take]; omega,fun p hp=>?_⟩;obtain⟨q,_,rfl⟩:=List.mem_map.1 hp;dsimp only;rw[List.length_take,List.length_take]; omega
theorem path_ok {h n:Bs} (hh:isH h=true) (hn:qcr n=true):qai (h++[45]++n)=true/\(h++[45]++n).take 32=h/\(h++[45]++n).drop 33=n:=by
 have hl:=isH_len hh;have e1:(h++[45]++n).take 32=h:=by rw[List.append_assoc,<- hl,List.take_left]
 have e2:(h++[45]++n).drop 33=n:=by
  rw[show(33:Nat)=(h++[45]).length by rw[lAq,hl]; rfl,List.drop_left]
 refine⟨?_,e1,e2⟩;unfold qai;rw[e1,e2,hh,hn,dT (by rw[lAq,lAq,hl]; simp; omega),List.append_assoc,List.getElem?_append_right (by omega),hl];rfl
theorem prt_inj {a b:DD} (ha:qft qcr qai qdt a=true) (hb:qft qcr qai qdt b=true) (h:qge a=qge b):a=b:=by
 have h1:=prs_prt' a ha;rw[h,prs_prt' b hb]at h1;exact(Option.some.inj h1).symm
theorem prt_ne (a:DD):qge a≠[]:=fun h=>by
 unfold qge preD at h;rw[iN (by decide),iP rfl]at h;have:=congrArg List.length h;simp at this
section
variable {S T U W:St} {N:Nat} {d:DD} {vI vE:V} {Tt:Tr V}
theorem dx_cut (ho:S.on=false) (h:DrvT Tt (cutD d).nm vI vE (cutD d).scr) (hI:TLo S vI (cutD d).ins N) (hE:VLo S vE (cutD d).env N):Dx S N Tt (cutD d) vI vE:=by
 have h1:=cutL_le d.ins;have h2:=cutP_le d.env;exact⟨ho,h,hI,hE,by show(cutL d.ins).length<=1000; omega,by show(cutP d.env).length<=1000; omega,by show(d.nm.take 300).length<=20000; rw[List.length_take]; omega,fun p hp=>by have:=h1.2 p hp; omega,fun p hp=>by have:=h2.2 p hp; omega,fun p hp=>by have:=h2.2 p hp; omega,by show(d.scr.take 5000).length<=20000; rw[List.length_take]; omega⟩
theorem Dx.grew {P:Nat->Prop} (h:Dx S N Tt d vI vE) (g:Grew P S U) (hw:∀x,N<=x->x<S.next->¬P x):Dx U N Tt d vI vE:=
 ⟨g.on.trans h.on,h.t,h.ins.grewW g fun x hx=>by
  have:=h.ins;rcases this with⟨_,rfl⟩|⟨r,rfl,_,h5,h6,_⟩
  . cases hx
  . cases hx; exact hw _ h6 h5,h.env.grew g fun x hx=>by
  have:=h.env;rcases this with⟨_,rfl⟩|⟨r,rfl,_,h5,h6,_⟩
  . cases hx
  . cases hx; exact hw _ h6 h5,h.li,h.le,h.ln,h.lp,h.lv,h.lw,h.ls⟩
theorem dx_may (ho:S.on=false) (h:DrvT Tt d.nm vI vE d.scr) (hI:TLo S vI d.ins N) (hE:VLo S vE d.env N) (hm:qft qcr qai qdt d=true):Dx S N Tt d vI vE:=by
 obtain⟨m1,m2,m3,m4,m5,m6⟩:=may_all hm;exact⟨ho,h,hI,hE,by omega,by omega,by omega,fun p hp=>by have:=m4 p hp; omega,fun p hp=>by have:=m5 p hp; omega,fun p hp=>by have:=m5 p hp; omega,by omega⟩
theorem e27 (c d:Bool) (a b:Int):qa4 E0 .neq 27 c d (.int .i64 a) (.int .i64 b)=some (.bool (!decide (a=b))):=by rw[binV_ii,intsV_neq]
theorem q27 (c d:Bool) (a b:Int):qa4 E0 .eql 27 c d (.int .i64 a) (.int .i64 b)=some (.bool (decide (a=b))):=by rw[binV_ii,intsV_eql]
theorem bneq (c d:Bool) (a b:Bool):qa4 E0 .neq 4 c d (.bool a) (.bool b)=some (.bool (!(a==b))):=by cases a<;>cases b<;>cases c<;>cases d<;>kernel_rfl
theorem beql (c d:Bool) (a b:Bool):qa4 E0 .eql 4 c d (.bool a) (.bool b)=some (.bool (a==b)):=by cases a<;>cases b<;>cases c<;>cases d<;>kernel_rfl
theorem nil33:qa4 E0 .neq 33 false true .niliface .niliface=some (.bool false):=by kernel_rfl
theorem rq4' {n:Nat} {args:List V} {s:St} {r:En×St} (e:qay E0 (ev E0 KD n) qa1 Tryz.f4 B4 args s=some r):(ev E0 KD (n+1)).f 4 args s=some r:=qa5 (c:=C4) (d:=B4) (by kernel_rfl) (by kernel_rfl) (qa2 C4 _ (by kernel_rfl)) rfl e
end
section
variable {S:St} {A B:Tr V} {da db:DD}
theorem back_run (hA:Raw A da) (hB:Raw B db) (ho:S.on=false) (m:Nat):∃U,(ev E0 KD (m+14)).f 4 [.agg 4 A,.agg 4 B] S=some (.ret (.bool true),U):=by
 suffices hmain:∃U,F4 (ev E0 KD (m+13)) qa1 (.agg 4 A) (.agg 4 B) S=some (.ret (.bool true),U) by
  obtain⟨U,h⟩:=hmain;exact⟨U,rq4' h⟩
 obtain⟨a1,a2,a3⟩:=qbt ho 25 4 A;have on1:=a2.on.trans ho;rw[F4_eq,show qle 25 (.agg 4 A) S=some (.ptr S.next 0,(nwP 25 4 A S).2)from rfl,oB];dsimp only;generalize (nwP 25 4 A S).2=S1 at a1 a2 a3 on1;obtain⟨b1,b2,b3⟩:=qbt on1 25 4 B;rw[show qle 25 (.agg 4 B) S1=some (.ptr S1.next 0,(nwP 25 4 B S1).2)from rfl,oB];dsimp only;generalize (nwP 25 4 B S1).2=S2 at b1 b2 b3;have on2:=b2.on.trans on1;have ga2:AgAt S2 S.next 25 4 A:=a1.grew (by omega) (fun h=>h) b2
 obtain⟨T1,vI1,vE1,S3,N1,c1,c2,c3,c4,on3,c6,c7⟩:=cut_run hA on2 (m+12);have n3:=c6.next
 have ga3:AgAt S3 S.next 25 4 A:=ga2.grew (by omega) (fun h=>h) c6
 have gb3:AgAt S3 S1.next 25 4 B:=b1.grew (by omega) (fun h=>h) c6
 obtain⟨S4,d1,d2,d3,d4⟩:=ga3.stA on3 qcx T1;have on4:=d3.on.trans on3;have gb4:AgAt S4 S1.next 25 4 B:=gb3.grew (by omega) (by omega) d3
 rw[ga2.ldA on2 qcx,oB];dsimp only;rw[show ev E0 KD (m+13)=ev E0 KD (m+12+1)from rfl,c1,callP_ret,d1,oB];dsimp only;rw[gb4.ldA on4 qcx,oB];dsimp only;obtain⟨T2,vI2,vE2,S5,N2,e1,e2,e3,e4,on5,e6,e7⟩:=cut_run hB on4 (m+12);have n5:=e6.next
 have ga5:AgAt S5 S.next 25 4 T1:=d2.grew (by omega) (fun h=>h) e6
 have gb5:AgAt S5 S1.next 25 4 B:=gb4.grew (by omega) (fun h=>h) e6
 obtain⟨S6,f1,f2,f3,f4⟩:=gb5.stA on5 qcx T2;have on6:=f3.on.trans on5;have ga6:AgAt S6 S.next 25 4 T1:=ga5.grew (by omega) (by omega) f3
 rw[e1,callP_ret,f1,oB];dsimp only;have DA6:Dx S6 N1 T1 (cutD da) vI1 vE1:=(((dx_cut on3 c2 c3 c4).grew d3 fun x hx _ e=>by omega).grew e6 fun _ _ _ h=>h).grew f3 fun x hx _ e=>by omega
 have DB6:Dx S6 N2 T2 (cutD db) vI2 vE2:=(dx_cut on5 e2 e3 e4).grew f3 fun x hx _ e=>by omega
 generalize cutD da=a at DA6;generalize cutD db=b at DB6;have n6:S5.next=S6.next:=by omega
 clear hA hB a1 b1 ga2 ga3 gb3 gb4 ga5 gb5 c1 c2 c3 c4 d1 d2 e1 e2 e3 e4 f1;obtain⟨S7,g1,g2⟩:=qnu DA6 (m+1);have DB7:=DB6.grew g2 fun _ _ _ h=>h;have DA7:=DA6.grew g2 fun _ _ _ h=>h;have n7:=g2.next
 have ga7:AgAt S7 S.next 25 4 T1:=ga6.grew (by omega) (fun h=>h) g2
 have gb7:AgAt S7 S1.next 25 4 T2:=f2.grew (by omega) (fun h=>h) g2
 obtain⟨S8,h1,h2⟩:=qnu DB7 (m+1);have DA8:=DA7.grew h2 fun _ _ _ h=>h;have DB8:=DB7.grew h2 fun _ _ _ h=>h;have n8:=h2.next
 have ga8:AgAt S8 S.next 25 4 T1:=ga7.grew (by omega) (fun h=>h) h2
 have gb8:AgAt S8 S1.next 25 4 T2:=gb7.grew (by omega) (fun h=>h) h2
 obtain⟨S9,i1,i2⟩:=path_run DA8 m;have DA9:=DA8.grew i2 fun _ _ _ h=>h;have DB9:=DB8.grew i2 fun _ _ _ h=>h;have n9:=i2.next
 have ga9:AgAt S9 S.next 25 4 T1:=ga8.grew (by omega) (fun h=>h) i2
 have gb9:AgAt S9 S1.next 25 4 T2:=gb8.grew (by omega) (fun h=>h) i2
 obtain⟨S10,j1,j2⟩:=path_run DB9 m;have DA10:=DA9.grew j2 fun _ _ _ h=>h;have DB10:=DB9.grew j2 fun _ _ _ h=>h;have n10:=j2.next
 have ga10:AgAt S10 S.next 25 4 T1:=ga9.grew (by omega) (fun h=>h) j2
 have gb10:AgAt S10 S1.next 25 4 T2:=gb9.grew (by omega) (fun h=>h) j2
 have on10:=DA10.on;rw[ga6.ldA on6 qcx,oB];dsimp only;rw[show ev E0 KD (m+12+1)=ev E0 KD (m+1+12)from rfl,g1,callP_ret];rw[show ∀f:V->Rs,(qa7 (.tuple (if qft qcr qai qdt a=true then [sv (qge a),.int .i64 0]else [sv [],.int .i64 2])) 0).bind f=f (sv (if qft qcr qai qdt a=true then qge a else []))from fun f=>by split<;>rfl,show ∀f:V->Rs,(qa7 (.tuple (if qft qcr qai qdt a=true then [sv (qge a),.int .i64 0]else [sv [],.int .i64 2])) 1).bind f=f (.int .i64 (if qft qcr qai qdt a=true then 0 else 2))from fun f=>by split<;>rfl];rw[gb7.ldA DA7.on qcx,oB];dsimp only;rw[h1,callP_ret];rw[show ∀f:V->Rs,(qa7 (.tuple (if qft qcr qai qdt b=true then [sv (qge b),.int .i64 0]else [sv [],.int .i64 2])) 0).bind f=f (sv (if qft qcr qai qdt b=true then qge b else []))from fun f=>by split<;>rfl,show ∀f:V->Rs,(qa7 (.tuple (if qft qcr qai qdt b=true then [sv (qge b),.int .i64 0]else [sv [],.int .i64 2])) 1).bind f=f (.int .i64 (if qft qcr qai qdt b=true then 0 else 2))from fun f=>by split<;>rfl];rw[ga8.ldA DA8.on qcx,oB];dsimp only;rw[show ev E0 KD (m+1+12)=ev E0 KD (m+13)from rfl,i1,callP_ret]
 rw[show ∀f:V->Rs,(qa7 (.tuple (if qft qcr qai qdt a=true then [sv (qen a),.int .i64 0]else [sv [],.int .i64 2])) 0).bind f=f (sv (if qft qcr qai qdt a=true then qen a else []))from fun f=>by split<;>rfl,show ∀f:V->Rs,(qa7 (.tuple (if qft qcr qai qdt a=true then [sv (qen a),.int .i64 0]else [sv [],.int .i64 2])) 1).bind f=f (.int .i64 (if qft qcr qai qdt a=true then 0 else 2))from fun f=>by split<;>rfl];rw[gb9.ldA DA9.on qcx,oB];dsimp only;rw[j1,callP_ret];rw[show ∀f:V->Rs,(qa7 (.tuple (if qft qcr qai qdt b=true then [sv (qen b),.int .i64 0]else [sv [],.int .i64 2])) 0).bind f=f (sv (if qft qcr qai qdt b=true then qen b else []))from fun f=>by split<;>rfl,show ∀f:V->Rs,(qa7 (.tuple (if qft qcr qai qdt b=true then [sv (qen b),.int .i64 0]else [sv [],.int .i64 2])) 1).bind f=f (.int .i64 (if qft qcr qai qdt b=true then 0 else 2))from fun f=>by split<;>rfl];have he:∀x:Int,(!decide (x=x))=false:=fun x=>by simp
 have hbb:∀x:Bool,(!(x==x))=false:=fun x=>by cases x<;>rfl
 have h20:(!decide ((2:Int)=0))=true:=rfl;have h00:(!decide ((0:Int)=0))=false:=rfl;have hnn:(([]:Bs)==[])=true:=rfl;have hw:∀U:St,(ev E0 KD (m+13)).f 10 [] U=some (.ret (.bool true),U):=fun U=>works_k (m+12) U;cases hma:qft qcr qai qdt a with
 | false=>
  rw[iN Bool.false_ne_true,iN Bool.false_ne_true,iN Bool.false_ne_true];rw[e27,he,oB,show(sv []:V)=sv ([]:Bs)from rfl];simp only[qaj,oB,nF,cT,e27,he,pickV_bool,cF,eqStr,bneq,h20,hnn,hbb,ifK_bool,q27,decide_true,qam,hw,callP_ret];exact⟨_,rfl⟩
 | true=>
  rw[iP rfl,iP rfl,iP rfl];have hpa:(qge a==[])=false:=beq_false_of_ne (prt_ne a)
  have hqa:(qen a==[])=false:=beq_false_of_ne fun h=>by
   have:=congrArg List.length h;unfold qen at this;simp at this
  rw[e27,he,oB,show(sv []:V)=sv ([]:Bs)from rfl];simp only[qaj,oB,nF,cT,e27,he,pickV_bool,cF,eqStr,bneq,hpa,hqa,hbb,ifK_bool,decide_true,Bool.not_true];have hla:=prt_len hma;have hnm:=(may_all hma).2.2.1
  have hchk:qcr a.nm=true:=by
   have:=hma;unfold qft at this;simp only[bA]at this;exact this.1.1.1.1.1
  obtain⟨N0,hN0,hP⟩:=parse_run on10 (m+7) (qge a) (by omega);rw[prs_prt' a hma]at hP;obtain⟨U,T3,vI3,vE3,u1,u2,u3,u4,onU,u5⟩:=hP;have nU:=u5.next
  obtain⟨k1,k2,k3⟩:=qbt onU 25 4 ZD;rw[show ev E0 KD (m+13)=ev E0 KD (m+7+6)from rfl,u1,callP_ret,ex0,oB,ex1,oB,qe2,show nwP 25 4 (Tr.ofListFrom .nil [sv [],.nilslice,.nilslice,sv []] 0) U=nwP 25 4 ZD U from rfl];generalize (nwP 25 4 ZD U).2=S11 at k1 k2 k3;have on11:=k2.on.trans onU;obtain⟨S12,l1,l2,l3,l4⟩:=k1.stA on11 qcx T3;have on12:=l3.on.trans on11;rw[l1,oB];dsimp only;obtain⟨o1,o2,o3⟩:=path_ok (hashB_is ([100,114,118,58]++qge a)) hchk
  have hpl:(qen a).length<=60:=by
   unfold qen;rw[lAq,lAq,qfx];simp; omega
  rw[show ev E0 KD (m+7+6)=ev E0 KD (m+12+1)from rfl,split_k (m+12) _ (by omega),callP_ret]
  have hsp:splitV (qen a)=.tuple [sv (qjk ([100,114,118,58]++qge a)),sv a.nm,.int .i64 0]:=by
   unfold splitV;rw[show qai (qen a)=true from o1,iP rfl,iP rfl,iP rfl,show(qen a).take 32=_ from o2,show(qen a).drop 33=_ from o3]
  rw[hsp,ex0,oB,ex1,oB,ex2,oB,nil33,oB];have g1012:Grew (fun x=>S10.next<=x) S10 S12:=u5.trans ((k2.mono fun _ _ h=>h.elim).trans (l3.mono fun x _ e=>by omega));have DA12:=DA10.grew g1012 fun x _ h1 h2=>by omega
  have DB12:=DB10.grew g1012 fun x _ h1 h2=>by omega
  have ga12:AgAt S12 S.next 25 4 T1:=ga10.grew (by omega) (by omega) g1012
  have gb12:AgAt S12 S1.next 25 4 T2:=gb10.grew (by omega) (by omega) g1012
  have DP12:Dx S12 N0 T3 a vI3 vE3:=by
   have DU:Dx U N0 T3 a vI3 vE3:=dx_may onU u2 u3 u4 hma;exact DU.grew (k2.own (lR _) l3) fun _ _ _ h=>h
  obtain⟨S13,q1,q2⟩:=same_run DP12 DA12 (m+12);rw[sameB_iff.2 rfl]at q1;obtain⟨LS,q1'⟩:=Lg.ev_lg lgD q1 [];have on13:=q2.on.trans on12;have ga13:AgAt S13 S.next 25 4 T1:=ga12.grew (by omega) (fun h=>h) q2
  have hnm13:=ga13.ld1 on13 qcx (by decide) DA12.t.nm;have hpth:qen a=qjk ([100,114,118,58]++qge a)++[45]++a.nm:=rfl
  have hsl:∀X:St,qb4 E0 9 (sv (qen a)) none (some (.int .i64 32)) none X=some (sv (qjk ([100,114,118,58]++qge a)),X):=fun X=>by
   rw[show V.int .i64 32=.int .i64 ((32:Nat):Int)from rfl,qdf und9 (qen a) (qd2 .i64 (show 32<=(qen a).length by unfold qen; rw[lAq,lAq,qfx]; omega)) (by unfold qen; rw[lAq,lAq,qfx]; omega),List.drop_zero,Nat.sub_zero,show(qen a).take 32=_ from o2]
  have hadd:qa4 E0 .add 9 true false (sv [100,114,118,58]) (sv (qge a))=some (sv ([100,114,118,58]++qge a)):=addStr _ _ (by simp; omega);have hh:∀X:St,(ev E0 KD (m+12+1)).f 14 [sv ([100,114,118,58]++qge a)] X=some (.ret (sv (qjk ([100,114,118,58]++qge a))),X):=fun X=>hash_k (m+12) _ (by rw[lAq]; simp; omega) X;simp only[qaj,oB,nF,cT,ons,qbk];rw[l2.ldOn qcx,oB];simp only[qaj,oB,nF,cT,ons,qbk];rw[ga12.ldOn qcx,oB];simp only[qaj,oB,nF,cT,ons,qbk];rw[q1',qbf];simp only[qaj,oB,nF,Bool.not_true,cT,cF,pickV_bool,unV_not,e27,decide_true,ons,qbk,show faP 0 false 1 (.ptr S.next 0)=some (.ptr S.next 0)from rfl];rw[qbj on13 hnm13 [],oB];simp only[qaj,oB,nF,Bool.not_true,cT,cF,pickV_bool,qlj,beq_self_eq_true,ons,qbk,hsl,hadd,hh,qbf];rw[qbw ?_,qcd on12,ifK_bool,cF]
  . have on14:(zz S12 S13).on=false:=(qga on12 q2).on.trans on12
    have gz:Grew (fun _=>False) S13 (zz S12 S13):=qfe on12 on13;have ga14:AgAt (zz S12 S13) S.next 25 4 T1:=ga13.grew (by have:=q2.next; omega) (fun h=>h) gz
    have gb14:AgAt (zz S12 S13) S1.next 25 4 T2:=(gb12.grew (by omega) (fun h=>h) q2).grew (by have:=q2.next; omega) (fun h=>h) gz
    have DA14:=(DA12.grew q2 fun _ _ _ h=>h).grew gz fun _ _ _ h=>h;have DB14:=(DB12.grew q2 fun _ _ _ h=>h).grew gz fun _ _ _ h=>h;generalize zz S12 S13=S14 at on14 gz ga14 gb14 DA14 DB14;cases hmb:qft qcr qai qdt b with
    | false=>
     rw[iN Bool.false_ne_true,h20,cT,show ev E0 KD (m+12+1)=ev E0 KD (m+13)from rfl,hw,callP_ret];exact⟨_,rfl⟩
    | true=>
     rw[iP rfl,h00,cF,iP rfl,iP rfl];obtain⟨S15,r1,r2⟩:=same_run DA14 DB14 (m+12);rw[ga14.ldA on14 qcx,oB];dsimp only;rw[gb14.ldA on14 qcx,oB];dsimp only;rw[r1,callP_ret,beql,oB];by_cases hab:a=b
     . have e1:(qge a==qge b)=true:=by rw[hab]; exact beq_self_eq_true _
       have e2:(qen a==qen b)=true:=by rw[hab]; exact beq_self_eq_true _
       rw[sameB_iff.2 hab,e1];simp only[beq_self_eq_true,qam,qaj,oB,cT,cF,qlj,e1,eqStr,e2,Bool.not_true,nF,pickV_bool];rw[show ev E0 KD (m+12+1)=ev E0 KD (m+13)from rfl,hw,callP_ret];exact⟨_,rfl⟩
     . have e1:(qge a==qge b)=false:=beq_false_of_ne fun h=>hab (prt_inj hma hmb h)
       have e2:qll a b=false:=by
        cases hs:qll a b with
        | false=>rfl
        | true=>exact absurd (sameB_iff.1 hs) hab
       rw[e2,e1];simp only[beq_self_eq_true,qam,qaj,oB,cT,cF,qlj,e1,Bool.not_true,nF,pickV_bool];rw[show ev E0 KD (m+12+1)=ev E0 KD (m+13)from rfl,hw,callP_ret];exact⟨_,rfl⟩
  . have hc:qbu [⟨U.next,0,0+4,false⟩] [⟨S.next,0,0+4,false⟩]=false:=qc3 (by simp)
    show(bif (bif qbu [⟨U.next,0,0+4,false⟩] [⟨S.next,0,0+4,false⟩]then true else false)then false else(bif (bif qbu [] []then true else false)then false else true))=true;rw[hc]; rfl
end
def frz (W:World):Rho:=⟨fun _=>none,fun k=>W.heap[k]?⟩
theorem relF (W:World):Rel E0 (base0 W) (frz W) s0 W:=
 ⟨⟨rfl,rfl,rfl,lR _,fun _ _=>rfl⟩,fun _ _=>rfl,lR _,fun b o h=>by simp[s0,Tr.get_nil]at h,fun b b' o o' cb sh sz sh' sz' h=>by simp[s0,Tr.get_nil]at h,fun g b h=>(by rw[glob0]at h; cases h),fun k o h=>h,fun b o cb sh sz h=>(by simp[s0,Tr.get_nil]at h),fun k o h _=>trivial⟩
theorem qha {α:Type} {f:Nat->Option α}:∀(n k:Nat) {r:List α},((List.range' k n).mapM f)=some r->r.length=n/\∀i,i<n->∃y,r[i]?=some y/\f (k+i)=some y
 | 0,k,r,h=>by
  simp at h; subst h;exact⟨rfl,fun i hi=>by omega⟩
 | n+1,k,r,h=>by
  rw[List.range'_succ,List.mapM_cons]at h;simp only[Option.bind_eq_bind,oI,Option.pure_def,oS]at h;obtain⟨y,hy,r',hr',rfl⟩:=h;obtain⟨h1,h2⟩:=qha n (k+1) hr';refine⟨by simp[h1],fun i hi=>?_⟩;cases i with
  | zero=>exact⟨y,rfl,hy⟩
  | succ i=>
   obtain⟨z,hz1,hz2⟩:=h2 i (by omega);exact⟨z,by simpa using hz1,by rw[show k+(i+1)=k+1+i by omega]; exact hz2⟩
theorem cells?_at {W:World} {a:Addr} {n:Nat} {cs:List Value} (h:W.cells? 0 a n=some cs):cs.length=n/\∀i,i<n->∃y,cs[i]?=some y/\W.cell? (a.add i)=some y:=by
 unfold World.cells? at h;rw[iP (Nat.zero_le _),List.range_eq_range']at h;obtain⟨h1,h2⟩:=qha n 0 h
 exact⟨h1,fun i hi=>by
  obtain⟨y,hy1,hy2⟩:=h2 i hi
  exact⟨y,hy1,by rw[Nat.zero_add]at hy2; exact hy2⟩⟩
theorem add_eq {a:Addr} (h:a.spot=none) (n:Nat):a.add n=⟨a.block,a.off+n,none⟩:=by
 unfold Addr.add;split
 . rename_i h0
   subst h0;cases a;simp only at h;subst h;rfl
 . rfl
theorem u22:Tryz.prog.underlying 22=some (.slice 9):=by kernel_rfl
theorem u23:Tryz.prog.underlying 23=some (.slice 41):=by kernel_rfl
theorem u9:Tryz.prog.underlying 9=some .string:=by kernel_rfl
theorem u25:∃a b c d,Tryz.prog.underlying 25=some (.struct #[a,b,c,d])/\a.type=9/\a.offset=0/\b.type=22/\b.offset=1/\c.type=23/\c.offset=2/\d.type=9/\d.offset=3:=⟨_,_,_,_,Tryz.underlying25,rfl,rfl,rfl,rfl,rfl,rfl,rfl,rfl⟩
theorem u41:∃a b,Tryz.prog.underlying 41=some (.struct #[a,b])/\a.type=9/\a.offset=0/\b.type=9/\b.offset=1:=⟨_,_,Tryz.underlying41,rfl,rfl,rfl,rfl⟩
theorem c9:Tryz.prog.cellsOf 9=1:=by kernel_rfl
theorem c22:Tryz.prog.cellsOf 22=1:=by kernel_rfl
theorem c23:Tryz.prog.cellsOf 23=1:=by kernel_rfl
theorem c25:Tryz.prog.cellsOf 25=4:=by kernel_rfl
theorem c41:Tryz.prog.cellsOf 41=2:=by kernel_rfl
theorem flat_at {β:Type} {z:Nat} (hz:0<z):∀(ls:List (List β)),(∀l∈ls,l.length=z)->∀(j:Nat) c,ls.flatten[j]?=some c->∃l,ls[j/z]?=some l/\l[j%z]?=some c
 | [],_,j,c,h=>by simp at h
 | l::ls,hl,j,c,h=>by
  rw[List.flatten_cons]at h;have h0:=hl l (List.mem_cons_self ..);by_cases hj:j<z
  . rw[List.getElem?_append_left (by omega)]at h
    exact⟨l,by rw[Nat.div_eq_of_lt hj]; rfl,by rw[Nat.mod_eq_of_lt hj]; exact h⟩
  . rw[List.getElem?_append_right (by omega),h0]at h
    obtain⟨l',h1,h2⟩:=flat_at hz ls (fun x hx=>hl x (mO _ hx)) (j-z) c h;refine⟨l',?_,?_⟩
    . rw[show j=(j-z)+z by omega,Nat.add_div_right _ hz]; exact h1
    . rw[show j=(j-z)+z by omega,Nat.add_mod_right]; exact h2
theorem pick_any {α:Type} {P:Nat->α->Prop}:∀(n:Nat),(∀i,i<n->∃b,P i b)->∃l:List α,l.length=n/\∀i b,l[i]?=some b->P i b
 | 0,_=>⟨[],rfl,fun i b h=>by simp at h⟩
 | n+1,h=>by
  obtain⟨l,h1,h2⟩:=pick_any n fun i hi=>h i (by omega);obtain⟨b,hb⟩:=h n (by omega);refine⟨l++[b],by simp[h1],fun i c hc=>?_⟩;by_cases hi:i<n
  . rw[List.getElem?_append_left (by omega)]at hc
    exact h2 i c hc
  . have hi2:i=n:=by
     have:=(List.getElem?_eq_some_iff.1 hc).1;simp[h1]at this;omega
    subst hi2;rw[List.getElem?_append_right (by omega)]at hc;simp[h1]at hc;subst hc;exact hb
theorem vrels_map {ρ:Rho} {α:Type} (f:α->V) (g:α->Value):∀l:List α,(∀a∈l,VRel ρ (f a) (g a))->VRels ρ (l.map f) (l.map g)
 | [],_=>.nil
 | a::l,h=>.cons (h a (List.mem_cons_self ..)) (vrels_map f g l fun b hb=>h b (mO _ hb))
section
variable {H:Type} {enc:TypeId×Value->H} {W:World}
theorem ql1 {α:Type} {t e z:Nat} {F:α->V} {Q:α->Prop} (ht:Tryz.prog.underlying t=some (.slice e)) (hz:Tryz.prog.cellsOf e=z) (hz0:0<z)
 (el:∀fuel cs (x:DataW H×List MemPlace),DataW.trod enc Tryz.prog W 0 (fun _=>true) true fuel e cs=some x->∃(a:α) (cv:Value),VRel (frz W) (F a) cv/\qan (F a)=false/\cv.cells.toList=cs/\Q a)
 {fuel:Nat} {cs:List Value} {x:DataW H×List MemPlace} (h:DataW.trod enc Tryz.prog W 0 (fun _=>true) true fuel t cs=some x) :
 ∃(cv:Value) (v:V) (l:List α),cs=[cv]/\VRel (frz W) v cv/\((l=[]/\(v=.nilslice\/v=.eslice))\/v=.list z (l.map F))/\(∀a∈l,Q a)/\∃ad len cap,cv=.slice ad len cap:=by
 rcases DataW.trod_slice ht h with⟨hv,_⟩|⟨a,len,cap,elems,rest,m,hm,hv,_,_,hcap,hmax,hel,hat,_⟩
 . exact⟨_,.nilslice,[],hv,.nilslice,.inl ⟨rfl,.inl rfl⟩,fun _ h=>by simp at h,_,_,_,rfl⟩
 . by_cases h0:len=0
   . subst h0
     exact⟨_,.eslice,[],hv,.eslice a cap,.inl ⟨rfl,.inr rfl⟩,fun _ h=>by simp at h,_,_,_,rfl⟩
   . have hAt:∀i,i<len->∃p:α×Value,VRel (frz W) (F p.1) p.2/\qan (F p.1)=false/\Q p.1/\p.2.cells.toList.length=z/\∀k,k<z->∃y,p.2.cells.toList[k]?=some y/\W.cell? ((a.add (i*z)).add k)=some y:=fun i hi=>by
      have:=hat i hi;rw[hz,List.getElem?_eq_getElem (by omega),oI]at this;obtain⟨cells,h1,h2⟩:=this;obtain⟨b,cv,b1,b2,b3,b4⟩:=el _ _ _ h2;obtain⟨c1,c2⟩:=cells?_at h1;exact⟨(b,cv),b1,b2,b4,by rw[b3]; exact c1,by rw[b3]; exact c2⟩
     obtain⟨p0,_,_,_,_,q0⟩:=hAt 0 (by omega);obtain⟨y0,_,hb0⟩:=q0 0 hz0
     have hspot:a.spot=none/\∃bg ty fr,W.heap[a.block]?=some (.cells bg ty fr):=by
      rw[Nat.zero_mul,show(a.add 0).add 0=a from rfl]at hb0;unfold World.cell? at hb0;split at hb0
      . rename_i bg ty fr hh
        split at hb0
        . cases hb0
        . rename_i hsp
          exact⟨by simpa using hsp,bg,ty,fr,hh⟩
      . cases hb0
     obtain⟨hsp,bg,ty,fr,hheap⟩:=hspot;obtain⟨l,l1,l2⟩:=pick_any len hAt;have hin:∀p∈l,∃i,l[i]?=some p:=fun p hp=>List.mem_iff_getElem?.1 hp;refine⟨_,.list z ((l.map (·.1)).map F),l.map (·.1),hv,?_,.inr rfl,fun b hb=>?_,_,_,_,rfl⟩
     . rw[List.map_map]
       refine .list (vrels_map _ (·.2) l fun p hp=>?_) (fun v hv=>?_) (by rw[lM]; exact l1) hcap fun _=>⟨fun cv hcv=>?_,hsp,bg,ty,fr,hheap,fun j c hj=>?_⟩
       . obtain⟨i,hi⟩:=hin p hp
         exact(l2 i p hi).1
       . rw[List.mem_map]at hv
         obtain⟨p,hp,rfl⟩:=hv;obtain⟨i,hi⟩:=hin p hp;exact(l2 i p hi).2.1
       . rw[List.mem_map]at hcv
         obtain⟨p,hp,rfl⟩:=hcv;obtain⟨i,hi⟩:=hin p hp;have:=(l2 i p hi).2.2.2.1
         rwa [Array.length_toList]at this
       . rw[List.flatMap_def,List.map_map]at hj
         obtain⟨cl,h1,h2⟩:=flat_at hz0 _ (fun cl hcl=>by
          rw[List.mem_map]at hcl;obtain⟨p,hp,rfl⟩:=hcl;obtain⟨i,hi⟩:=hin p hp
          exact(l2 i p hi).2.2.2.1) j c hj
         rw[List.getElem?_map,Option.map_eq_some_iff]at h1;obtain⟨p,hp,rfl⟩:=h1;obtain⟨y,y1,y2⟩:=(l2 _ p hp).2.2.2.2 (j%z) (Nat.mod_lt _ hz0)
         have hc:c=y:=by
          have:=h2.symm.trans y1;simpa using this
         subst hc;rw[add_eq hsp,add_eq rfl]at y2;unfold World.cell? at y2;simp only at y2;rw[hheap]at y2
         have he:a.off+j/z*z+j%z=a.off+j:=by
          have:=Nat.div_add_mod j z;rw[Nat.mul_comm]at this;omega
         rw[he]at y2;exact y2
     . rw[List.mem_map]at hb
       obtain⟨p,hp,rfl⟩:=hb;obtain⟨i,hi⟩:=hin p hp;exact(l2 i p hi).2.2.1
theorem texts_of_trod {fuel:Nat} {cs:List Value} {x:DataW H×List MemPlace} (h:DataW.trod enc Tryz.prog W 0 (fun _=>true) true fuel 22 cs=some x) :
 ∃(cv:Value) (v:V) (l:List Bs),cs=[cv]/\VRel (frz W) v cv/\TV v l/\∃ad len cap,cv=.slice ad len cap:=by
 obtain⟨cv,v,l,h1,h2,h3,_,h4⟩:=ql1 (F:=sv) (Q:=fun _=>True) u22 c9 (by omega) (fun fuel cs x hx=>by
  obtain⟨s,rfl,_,_⟩:=DataW.trod_string u9 hx
  exact⟨s.data.toList,.string s,.str s,rfl,rfl,trivial⟩) h
 exact⟨cv,v,l,h1,h2,h3,h4⟩
theorem vars_of_trod {fuel:Nat} {cs:List Value} {x:DataW H×List MemPlace} (h:DataW.trod enc Tryz.prog W 0 (fun _=>true) true fuel 23 cs=some x) :
 ∃(cv:Value) (v:V) (l:List (Bs×Bs)),cs=[cv]/\VRel (frz W) v cv/\EV v l/\∃ad len cap,cv=.slice ad len cap:=by
 obtain⟨cv,v,l,h1,h2,h3,_,h5⟩:=ql1 (F:=pairV) (Q:=fun _=>True) u23 c41 (by omega) (fun fuel cs x hx=>by
  obtain⟨fa,fb,hu,a1,a2,b1,b2⟩:=u41;obtain⟨y0,y1,n,_,hl,k0,k1⟩:=Go.ChangeShapes.trod_struct2 hu hx;rw[c41]at hl;rw[a1,a2,c9]at k0;rw[b1,b2,c9]at k1
  match cs,hl with
  | [w0,w1],_=>
   obtain⟨s0,q0,_,_⟩:=DataW.trod_string u9 k0;obtain⟨s1,q1,_,_⟩:=DataW.trod_string u9 k1;simp only[List.drop_zero,List.drop_succ_cons,List.take_succ_cons,List.take_zero,List.cons.injEq,and_true]at q0 q1;subst q0 q1;refine⟨(s0.data.toList,s1.data.toList),.agg #[.string s0,.string s1],?_,rfl,rfl,trivial⟩;unfold pairV qg4;refine .agg rfl (fun i cv hcv=>?_) fun i v hv cv hcv=>?_
   . match i,hcv with
     | 0,h=>cases h; rfl
     | 1,h=>cases h; rfl
   . rw[Tr.get_ofList]at hv
     match i,hv,hcv with
     | 0,h,h'=>cases h; cases h'; exact .str s0
     | 1,h,h'=>cases h; cases h'; exact .str s1) h
 exact⟨cv,v,l,h1,h2,h3,h5⟩
theorem qmx {fuel:Nat} {cs:List Value} {x:DataW H×List MemPlace} (h:DataW.trod enc Tryz.prog W 0 (fun _=>true) true fuel 25 cs=some x) :
 ∃(A:Tr V) (d:DD),VRel (frz W) (.agg 4 A) (.agg cs.toArray)/\Raw A d:=by
 obtain⟨fa,fb,fc,fd,hu,a1,a2,b1,b2,d1,d2,e1,e2⟩:=u25;obtain⟨y0,y1,y2,y3,n,_,hl,k0,k1,k2,k3⟩:=Go.Joins.trod_struct4 hu h;rw[c25]at hl;rw[a1,a2,c9]at k0;rw[b1,b2,c22]at k1;rw[d1,d2,c23]at k2;rw[e1,e2,c9]at k3
 match cs,hl with
 | [w0,w1,w2,w3],_=>
  obtain⟨s0,q0,_,_⟩:=DataW.trod_string u9 k0;obtain⟨c1,v1,l1,q1,r1,t1,ad,len,cap,z1⟩:=texts_of_trod k1;obtain⟨c2,v2,l2,q2,r2,t2,ad2,len2,cap2,z2⟩:=vars_of_trod k2;obtain⟨s3,q3,_,_⟩:=DataW.trod_string u9 k3;simp only[List.drop_zero,List.drop_succ_cons,List.take_succ_cons,List.take_zero,List.cons.injEq,and_true]at q0 q1 q2 q3;subst q0 q1 q2 q3;refine⟨Tr.ofListFrom .nil [sv s0.data.toList,v1,v2,sv s3.data.toList] 0,⟨s0.data.toList,l1,l2,s3.data.toList⟩,?_,⟨by rw[Tr.get_ofList]; rfl,⟨v1,by rw[Tr.get_ofList]; rfl,t1⟩,⟨v2,by rw[Tr.get_ofList]; rfl,t2⟩,by rw[Tr.get_ofList]; rfl⟩⟩;refine .agg rfl (fun i cv hcv=>?_) fun i v hv cv hcv=>?_
  . match i,hcv with
    | 0,h=>cases h; rfl
    | 1,h=>cases h; rw[z1]; rfl
    | 2,h=>cases h; rw[z2]; rfl
    | 3,h=>cases h; rfl
  . rw[Tr.get_ofList]at hv
    match i,hv,hcv with
    | 0,h,h'=>cases h; cases h'; exact .str s0
    | 1,h,h'=>cases h; cases h'; exact r1
    | 2,h,h'=>cases h; cases h'; exact r2
    | 3,h,h'=>cases h; cases h'; exact .str s3
theorem back_calls (W:World) {A B:Tr V} {da db:DD} {v w:Value} (hv:VRel (frz W) (.agg 4 A) v) (hA:Raw A da) (hw:VRel (frz W) (.agg 4 B) w) (hB:Raw B db):Calls Tryz.prog 4 #[v,w] W fun e w'=>e=.returned (.bool true)/\Below W.heap.size W w':=by
 obtain⟨U,hl⟩:=back_run (S:=s0) hA hB rfl 0;refine((ev_sim qm7 okD (0+14)).call (base0 W) _ s0 W 4 [.agg 4 A,.agg 4 B] #[v,w] _ U (relF W) (.cons hv (.cons hw .nil)) hl).mono fun ce w' hce=>?_;obtain⟨ρ',cv,rfl,_,hv,hR⟩:=hce;cases hv;exact⟨rfl,qkv hR⟩
end
end Go.Proofs.YtpgegoeghaplkaaGreatDoor.W
