/-
  WHAT THE FUNCTIONS COME TO: each is read by the evaluator,printed,and told as a function of data,part 15 of 15 (no condition).
-/
import Derived.Test.YtpgegoeghaplkaaGreatDoorW14
import Derived.Test.YtpgegoeghaplkaaGreatDoorProg
import Derived.KernelRfl
import Derived.WalkKit
import Derived.ProofKit
import Derived.OpenShut
import Derived.Carry
import Derived.ChangeMaps5
import Derived.Lib.SmallJoins
noncomputable section
namespace Go.Proofs.YtpgegoeghaplkaaGreatDoor.W
open Go.Proofs.YtpgegoeghaplkaaGreatDoor.Ev Go.RowKit
theorem refKD:RefK KD:=⟨rfl,rfl,rfl,rfl,rfl,rfl,rfl,rfl,rfl,rfl,rfl,rfl,rfl,rfl,rfl,rfl,rfl,rfl,rfl,rfl,rfl,rfl,rfl⟩
section
variable {S T U:St} {K:FuncId->Option KF}
theorem L54p_spec {m N b N1:Nat} {Tt:Tr V} {vI:V} {l:List Bs} (ho:S.on=false) (hA:AgAt S b 25 4 Tt) (hI:Tt.get 1=some vI) (hL:TLo S vI l N1) (hl:l.length<=1000) (hlp:∀p∈l,p.length<=20000) (nk:Ac->St->Rs) (ek:Nat->Ac->St->Rs) :
 ∀(r:List Bs) (i q:Nat) (out:Bs),l.drop i=r->r.length<q->out.length+r.length*20100<1000000000->
 L7_54 (ev E0 K m) N nk ek q (.ptr b 0) (sv out) (.int .i64 (i:Int)) S=ek 0 (fr 61 [(1,.ptr b 0),(4,sv (out++r.flatMap inL))]) S
 | _,_,0,_,_,hq,_=>by omega
 | [],i,q+1,out,hi,_,_=>by
  rw[L7_54_eq,show faP 1 false 1 (.ptr b 0)=some (.ptr b 1)from rfl,oB,hA.ld1 ho qdc (by decide) hI,oB];dsimp only;rw[hL.tl.len,oB];dsimp only;rw[qds,dF (Nat.not_lt.2 (qau hi)),oB,ifK_bool,cF];simp
 | p::r,i,q+1,out,hi,hq,hb=>by
  obtain⟨hil,hf,hrest,hmem⟩:=qba hi;have hat:l[i]?=some p:=by rw[List.getElem?_eq_getElem hil,hf]
  have hpl:=hlp p hmem;rw[List.length_cons]at hb;have ih:=L54p_spec (m:=m) (N:=N) ho hA hI hL hl hlp nk ek r (i+1) q (out++[105,110,32]++p++[10]) hrest (by simpa using hq) (by simp; omega);obtain⟨x,x1,x2⟩:=hL.tl.ld ho hat;rw[L7_54_eq,show faP 1 false 1 (.ptr b 0)=some (.ptr b 1)from rfl,oB,hA.ld1 ho qdc (by decide) hI,oB];dsimp only;rw[hL.tl.len,oB];dsimp only;rw[qds,dT hil,oB,ifK_bool,cT,qc6 _ _ (by simp; omega),oB,oB,hA.ld1 ho qdc (by decide) hI,oB];dsimp only;rw[x1,oB,x2,oB];dsimp only;rw[qc6 _ _ (by simp; omega),oB,qc6 _ _ (by simp; omega),oB,qc1 (by omega),oB,ih];simp[inL,wIn]
theorem L23p_spec (hK:RefK K) {m N b N1:Nat} {Tt:Tr V} {vE:V} {l:List (Bs×Bs)} (ho:S.on=false) (hA:AgAt S b 25 4 Tt) (hI:Tt.get 2=some vE) (hL:VLo S vE l N1) (hl:l.length<=1000) (hlp:∀p∈l,p.1.length<=20000) (hlq:∀p∈l,p.2.length<=1000) (nk:Ac->St->Rs) (ek:Nat->Ac->St->Rs) :
 ∀(r:List (Bs×Bs)) (i q:Nat) (out:Bs),l.drop i=r->r.length<q->out.length+r.length*23000<1000000000->
 L7_23 (ev E0 K (m+1)) N nk ek q (.ptr b 0) (sv out) (.int .i64 (i:Int)) S=ek 2 (fr 61 [(1,.ptr b 0),(4,sv (out++r.flatMap envL))]) S
 | _,_,0,_,_,hq,_=>by omega
 | [],i,q+1,out,hi,_,_=>by
  rw[L7_23_eq,show faP 2 false 1 (.ptr b 0)=some (.ptr b 2)from rfl,oB,hA.ld1 ho qdc (by decide) hI,oB];dsimp only;rw[hL.len,oB];dsimp only;rw[qds,dF (Nat.not_lt.2 (qau hi)),oB,ifK_bool,cF];simp
 | p::r,i,q+1,out,hi,hq,hb=>by
  obtain⟨hil,hf,hrest,hmem⟩:=qba hi;have hat:l[i]?=some p:=by rw[List.getElem?_eq_getElem hil,hf]
  have hpl:=hlp p hmem;have hql:=hlq p hmem;have hxl:=qmt p.2;rw[List.length_cons]at hb;have ih:=L23p_spec hK (m:=m) (N:=N) ho hA hI hL hl hlp hlq nk ek r (i+1) q (out++[101,110,118,32]++p.1++[32]++hexD p.2++[10]) hrest (by simpa using hq) (by simp; omega);obtain⟨r1,x1,x2,x3⟩:=hL.cells ho hat;have hI':=qbx ho (hA.ld1 ho qdc (by decide) hI) [];have hfb:faP 2 false 1 (.ptr b 0)=some (.ptr b 2):=rfl;have hf0:faP 0 false 1 (.ptr r1 (i*2))=some (.ptr r1 (i*2)):=rfl;have hf1:faP 1 false 1 (.ptr r1 (i*2))=some (.ptr r1 (i*2+1)):=rfl;rw[L7_23_eq,hfb,oB,hA.ld1 ho qdc (by decide) hI,oB];dsimp only;rw[hL.len,oB];dsimp only;rw[qds,dT hil,oB,ifK_bool,cT,qc6 _ _ (by simp; omega),oB,oB];simp only[ons,qar];rw[hI',oB,x1,oB,hf0,oB];simp only[ons,qar];rw[x2,oB];dsimp only;rw[qc6 _ _ (by simp; omega),oB,qc6 _ _ (by simp; omega),oB,oB];simp only[ons,qar];rw[hI',oB,x1,oB,hf1,oB];simp only[ons,qar];rw[x3,oB];simp only[ons,qar];rw[dhex_on hK m p.2 hql,qal,qc6 _ _ (by simp; omega),oB,qc6 _ _ (by simp; omega),oB];simp only[ons,qar];rw[qb3 ?_,qao ho,qjx ho,qc1 (by omega),oB,ih]
  . simp[envL,wEnv]
  . refine qb0 (r1:=b+r1+1) (r2:=b+r1+2) (tags:=[0,0,0,1,0,0,0,1,0,0,0,1,0,0,0,1]) (by omega) ?_ (by decide)
    repeat' apply And.intro
    all_goals first
     | trivial
     | (intro e he; cases he; done)
     | (intro e he; cases List.mem_singleton.1 he; exact⟨rfl,by dsimp only; omega,by dsimp only; omega⟩)
theorem dprint_run (hK:RefK K) (hLg:Lg.KnLoc K) {N:Nat} {Tt:Tr V} {d:DD} {vI vE:V} (h:Dx S N Tt d vI vE) (m:Nat):∃U,(ev E0 K (m+6)).f 7 [.agg 4 Tt] S=some (.ret (.tuple (if qje qf0 qb1 qhb d=true then [sv (prtD d),.int .i64 0]else [sv [],.int .i64 2])),U)/\Grew (fun _=>False) S U:=by
 have ho:=h.on;obtain⟨a1,a2,a3⟩:=qc7 ho 25 4 Tt;have on1:=a2.on.trans ho;have hF:=F7_eq (ev E0 K (m+5)) qa1 (.agg 4 Tt) S;rw[show qjy 25 (.agg 4 Tt) S=some (.ptr S.next 0,(nwP 25 4 Tt S).2)from rfl,oB]at hF;dsimp only at hF;generalize (nwP 25 4 Tt S).2=S1 at a1 a2 a3 on1 hF;have h1:Dx S1 N Tt d vI vE:=⟨on1,h.t,h.ins.grew a2,h.env.grew a2 fun _ _ h=>h,h.li,h.le,h.ln,h.lp,h.lv,h.lw,h.ls⟩
 obtain⟨S2,b1,b2⟩:=dmay_run hK hLg h1 m;have on2:=b2.on.trans on1;have ga2:AgAt S2 S.next 25 4 Tt:=a1.grew (by omega) (fun h=>h) b2
 have h2:Dx S2 N Tt d vI vE:=⟨on2,h.t,h1.ins.grew b2,h1.env.grew b2 fun _ _ h=>h,h.li,h.le,h.ln,h.lp,h.lv,h.lw,h.ls⟩
 rw[a1.ldA on1 qdc,oB]at hF;dsimp only at hF;rw[b1,callP_ret,unV_not,oB,ifK_bool]at hF;cases hm:qje qf0 qb1 qhb d with
 | false=>
  rw[hm]at hF;exact⟨S2,rv7 hK hF,a2.trans b2⟩
 | true=>
  have li:=h.li;have le:=h.le;have lnm:=h.ln;have lsc:=h.ls;have hin:=qmo inL 20100 d.ins fun p hp=>by have:=h.lp p hp; unfold inL wIn; simp; omega
  have hen:=qmo envL 23000 d.env fun p hp=>by
   have:=h.lv p hp;have:=h.lw p hp;have:=qmt p.2;unfold envL wEnv;simp; omega
  rw[hm,Bool.not_true,cF,show faP 0 false 1 (.ptr S.next 0)=some (.ptr S.next 0)from rfl,oB,ga2.ld1 on2 qdc (by decide) h2.t.nm,oB]at hF;dsimp only at hF;rw[show(sv [100,114,118,32]:V)=sv ([100,114,118,32]:Bs)from rfl,qc6 _ _ (by simp; omega),oB,qc6 _ _ (by simp; omega),oB,show V.int .i64 0=.int .i64 ((0:Nat):Int)from rfl]at hF;rw[L54p_spec on2 ga2 h2.t.ins h2.ins h2.li h2.lp _ _ d.ins 0 qa1 _ rfl (by unfold qa1; omega) (by simp; omega),exB_same,R7_13_eq,show V.int .i64 0=.int .i64 ((0:Nat):Int)from rfl]at hF;rw[show m+5=m+4+1 from rfl,L23p_spec hK on2 ga2 h2.t.env h2.env h2.le h2.lv h2.lw _ _ d.env 0 qa1 _ rfl (by unfold qa1; omega) (by simp only[lAq,List.length_cons,List.length_nil]; omega),exB_same,R7_14_eq,qc6 _ _ (by simp only[lAq,List.length_cons,List.length_nil]; omega),oB,show faP 3 false 1 (.ptr S.next 0)=some (.ptr S.next 3)from rfl,oB,ga2.ld1 on2 qdc (by decide) h2.t.scr,oB]at hF;dsimp only at hF;rw[qc6 _ _ (by simp only[lAq,List.length_cons,List.length_nil]; omega),oB]at hF;refine⟨S2,rv7 hK (hF.trans ?_),a2.trans b2⟩;rw[iP rfl]
  congr 6
theorem dpathD_run {N:Nat} {Tt:Tr V} {d:DD} {vI vE:V} (h:Dx S N Tt d vI vE) (m:Nat):∃U,(ev E0 KD (m+7)).f 9 [.agg 4 Tt] S=some (.ret (.tuple (if qje qf0 qb1 qhb d=true then [sv (pathD d),.int .i64 0]else [sv [],.int .i64 2])),U)/\Grew (fun _=>False) S U:=by
 have ho:=h.on;obtain⟨a1,a2,a3⟩:=qc7 ho 25 4 Tt;have on1:=a2.on.trans ho;have hF:=F9_eq (ev E0 KD (m+6)) qa1 (.agg 4 Tt) S;rw[show qjy 25 (.agg 4 Tt) S=some (.ptr S.next 0,(nwP 25 4 Tt S).2)from rfl,oB]at hF;dsimp only at hF;generalize (nwP 25 4 Tt S).2=S1 at a1 a2 a3 on1 hF;rw[a1.ldA on1 qdc,oB]at hF;dsimp only at hF;have h1:Dx S1 N Tt d vI vE:=⟨on1,h.t,h.ins.grew a2,h.env.grew a2 fun _ _ h=>h,h.li,h.le,h.ln,h.lp,h.lv,h.lw,h.ls⟩
 obtain⟨S2,b1,b2⟩:=dprint_run refKD lgD h1 m;have on2:=b2.on.trans on1;rw[b1,callP_ret]at hF;cases hm:qje qf0 qb1 qhb d with
 | false=>
  rw[hm,iN Bool.false_ne_true,ex0,oB,ex1,oB,show qa4 E0 .neq 27 false true (.int .i64 2) (.int .i64 0)=some (.bool true) by kernel_rfl,oB,ifK_bool,cT]at hF;exact⟨S2,rv9 refKD hF,a2.trans b2⟩
 | true=>
  have hl:=prt_len hm;have hlh:=qj4 ([100,114,118,58]++prtD d);have ag2:AgAt S2 S.next 25 4 Tt:=a1.grew (by omega) (fun h=>h) b2
  have hsl:([100,114,118,58]++prtD d:Bs).length<80000:=by rw[lAq]; simp; omega
  obtain⟨S3,c1,c2⟩:=dhash_run refKD lgD (m+1) on2 ([100,114,118,58]++prtD d) hsl;obtain⟨c,hc,hc2⟩:=id ag2;have hbn:S.next<S2.next:=by have:=b2.next; omega
  obtain⟨S3',c1',_⟩:=dhash_run (S:=icy S2 S.next 25 4 1 c) refKD lgD (m+1) on2 ([100,114,118,58]++prtD d) hsl;obtain⟨L8,q1,q2⟩:=Fz.ev_log fzD lgD (icy_same hc hbn) c1' c1;have on3:=c2.on.trans on2;have ag3:AgAt S3 S.next 25 4 Tt:=ag2.grew hbn (fun h=>h) c2
  obtain⟨LP,p1⟩:=Lg.ev_lg lgD (dnpath_run refKD (m+3) on3 (ql6 ([100,114,118,58]++prtD d)) d.nm (by omega) (by have:=h.ln; omega)) [];rw[hm,iP rfl,ex0,oB,ex1,oB,show qa4 E0 .neq 27 false true (.int .i64 0) (.int .i64 0)=some (.bool false) by kernel_rfl,oB,ifK_bool,cF]at hF;rw[show(sv [100,114,118,58]:V)=sv ([100,114,118,58]:Bs)from rfl,qc6 _ _ (by simp; omega),oB]at hF;simp only[ons,qar]at hF;rw[show ev E0 KD (m+6)=ev E0 KD (m+1+5)from rfl,q1,qal,show faP 0 false 1 (.ptr S.next 0)=some (.ptr S.next 0)from rfl,oB]at hF;simp only[ons,qar]at hF;rw[qbx on3 (ag3.ld1 on3 qdc (by decide) h.t.nm) [],oB]at hF;simp only[ons,qar]at hF;rw[show ev E0 KD (m+1+5)=ev E0 KD (m+3+3)from rfl,p1,qal,npath_of hm,ex0,oB,ex1,oB]at hF;simp only[ons,qar]at hF
  have hprs:qaw [[],[],(S3.lg L8).log,[],(S3.lg [⟨S.next,0,0+1,false⟩]).log,(S3.lg LP).log,[],[],[],[]] [(2,[4])]=true:=by
   refine pairs_one (b:=S.next) q2 (fun e he=>?_) rfl;have he':e∈[(⟨S.next,0,0+1,false⟩:LE)]:=he;rw[List.mem_singleton.1 he']; exact⟨rfl,rfl⟩
  rw[qb3 hprs,qao on2]at hF;exact⟨_,rv9 refKD hF,a2.trans (b2.trans (c2.trans (qcu on2 on3)))⟩
end
end Go.Proofs.YtpgegoeghaplkaaGreatDoor.W
namespace Go.Proofs.YtpgegoeghaplkaaGreatDoor.W
open Go.Proofs.YtpgegoeghaplkaaGreatDoor.Ev
set_option maxRecDepth 100000
noncomputable section
def C5:Code:=Tryz.f5.body.getD .skip
def B5:D:=(qak C5 [[],[],[],[1,2,3,4],[],[1,2,3],[],[],[0,1,2,3],[2],[],[1,2,3,5],[],[2,3],[],[],[0,2,3],[2],[]]).1
def RL5:List Nat:=cellsOf Tryz.f5.results.toList
def R5_20 (self:EV) (N:Nat) (nk:Ac->St->Rs) (ek:Nat->Ac->St->Rs) (a:Ac) (S:St):Rs:=qa7 [1,2,3] a fun a=>dr E0 self RL5 N (B5.r.r).r (mkK E0 self Tryz.f5 nk ek) a S
def R5_21 (self:EV) (N:Nat) (nk:Ac->St->Rs) (ek:Nat->Ac->St->Rs) (a:Ac) (S:St):Rs:=qa7 [2,3] a fun a=>dr E0 self RL5 N (B5.r.r.r.l).r (mkK E0 self Tryz.f5 nk ek) a S
theorem R5_21_eq (self:EV) (N:Nat) (nk:Ac->St->Rs) (ek:Nat->Ac->St->Rs) ( v2 v3:V) (S:St):R5_21 self N nk ek (fr 98 [(2,v2),(3,v3)]) S =
(ldA 4 v3 S).bind fun p22=>
(stP 4 v2 p22.1 p22.2).bind fun p23=>
(ldrA 4 v2 p23.2).bind fun p24=>
some (.ret p24.1,p24.2):=by kernel_rfl
def L5_26 (self:EV) (N:Nat) (nk:Ac->St->Rs) (ek:Nat->Ac->St->Rs) (n:Nat) ( v1 v2 v3 v5:V) (S:St):Rs:=qb8 [1,2,3,5] (dr E0 self RL5 N (B5.r.r.r.l.l.r.l.l)) (mkK E0 self Tryz.f5 nk ek) n (fr 98 [(1,v1),(2,v2),(3,v3),(5,v5)]) S
theorem L5_26_eq (self:EV) (N:Nat) (nk:Ac->St->Rs) (ek:Nat->Ac->St->Rs) (n:Nat) ( v1 v2 v3 v5:V) (S:St):L5_26 self N nk ek (n+1) v1 v2 v3 v5 S =
(faP 2 false 1 v1).bind fun t28=>
(ld1 t28 S).bind fun p29=>
(lnS p29.1 p29.2).bind fun p30=>
(qa4 E0 .lss 3 false false v5 p30.1).bind fun t31=>
(qa2 true t31).bind fun g33=>(bif g33 then some v5 else some (.tuple [])).bind fun t33=>
(qa2 true t31).bind fun g34=>(bif g34 then qa4 E0 .lss 3 false true t33 (.int .i64 20)else some (.tuple [])).bind fun t34=>
(qay t31 (some t34) (some (.bool false))).bind fun t35=>
ifK t35 (
(faP 2 false 1 v3).bind fun t36=>
(ld1 t36 (onS p30.2)).bind fun p37=>
(faP 2 false 1 v1).bind fun t38=>
(ld1 t38 (onS p37.2)).bind fun p39=>
(ixP 2 p39.1 v5).bind fun t41=>
(faP 0 false 1 t41).bind fun t42=>
(ld1 t42 (onS p39.2)).bind fun p43=>
(faP 2 false 1 v1).bind fun t44=>
(ld1 t44 (onS p43.2)).bind fun p45=>
(ixP 2 p45.1 v5).bind fun t47=>
(faP 0 false 1 t47).bind fun t48=>
(ld1 t48 (onS p45.2)).bind fun p49=>
(qbr p49.1 (onS p49.2)).bind fun p50=>
(qj1 minV p50.1 [(.int .i64 300)] (onS p50.2)).bind fun p51=>
(qb6 E0 9 p43.1 none (some p51.1) none (onS p51.2)).bind fun p52=>
(faP 2 false 1 v1).bind fun t53=>
(ld1 t53 (onS p52.2)).bind fun p54=>
(ixP 2 p54.1 v5).bind fun t56=>
(faP 1 false 1 t56).bind fun t57=>
(ld1 t57 (onS p54.2)).bind fun p58=>
(faP 2 false 1 v1).bind fun t59=>
(ld1 t59 (onS p58.2)).bind fun p60=>
(ixP 2 p60.1 v5).bind fun t62=>
(faP 1 false 1 t62).bind fun t63=>
(ld1 t63 (onS p60.2)).bind fun p64=>
(qbr p64.1 (onS p64.2)).bind fun p65=>
(qj1 minV p65.1 [(.int .i64 300)] (onS p65.2)).bind fun p66=>
(qb6 E0 9 p58.1 none (some p66.1) none (onS p66.2)).bind fun p67=>
(qfj E0 41 [(0,p52.1),(1,p67.1)]).bind fun t68=>
(bsP 41 2 1 (Tr.ofListFrom .nil [(sv []),(sv [])] 0) [(0,t68)] (onS p67.2)).bind fun p69=>
(apP 41 2 32 p37.1 p69.1 (onS p69.2)).bind fun p70=>
(faP 2 false 1 v3).bind fun t71=>
(stP 1 t71 p70.1 (onS p70.2)).bind fun p72=>
qgb [(1,[3,7,9,13,14,15,16,18,22,24,28,29,30,31,33]),(3,[9,13,14,15,18,22,24,28,29,30,31]),(7,[9,13,14,15,18,22,24,28,29,30,31]),(9,[18,22,24,28,29,30,31]),(13,[18,22,24,28,29,30,31]),(14,[18,22,24,28,29,30,31]),(15,[18,22,24,28,29,30,31]),(16,[18,22,24,28,29,30,31]),(18,[24,28,29,30]),(22,[24,28,29,30])] p30.2 [[],p37.2.log,[],p39.2.log,[],[],[],p43.2.log,[],p45.2.log,[],[],[],p49.2.log,p50.2.log,p51.2.log,p52.2.log,[],p54.2.log,[],[],[],p58.2.log,[],p60.2.log,[],[],[],p64.2.log,p65.2.log,p66.2.log,p67.2.log,[],p69.2.log,p70.2.log,[],p72.2.log] p72.2 fun S73=>
(qa4 E0 .add 3 false true v5 (.int .i64 1)).bind fun t75=>
L5_26 self N nk ek n v1 v2 v3 t75 S73) (
ek 2 (fr 98 [(2,v2),(3,v3)]) p30.2):=by kernel_rfl
theorem R5_20_eq (self:EV) (N:Nat) (nk:Ac->St->Rs) (ek:Nat->Ac->St->Rs) ( v1 v2 v3:V) (S:St):R5_20 self N nk ek (fr 98 [(1,v1),(2,v2),(3,v3)]) S =
L5_26 self N (R5_21 self N (fun a s=>qa7 [2] a fun a=>nk a s) ek) (exB 2 (R5_21 self N (fun a s=>qa7 [2] a fun a=>nk a s) ek) ek) N v1 v2 v3 (.int .i64 0) S:=by kernel_rfl
def L5_78 (self:EV) (N:Nat) (nk:Ac->St->Rs) (ek:Nat->Ac->St->Rs) (n:Nat) ( v1 v2 v3 v4:V) (S:St):Rs:=qb8 [1,2,3,4] (dr E0 self RL5 N (B5.r.r.l.r.l.l)) (mkK E0 self Tryz.f5 nk ek) n (fr 98 [(1,v1),(2,v2),(3,v3),(4,v4)]) S
theorem L5_78_eq (self:EV) (N:Nat) (nk:Ac->St->Rs) (ek:Nat->Ac->St->Rs) (n:Nat) ( v1 v2 v3 v4:V) (S:St):L5_78 self N nk ek (n+1) v1 v2 v3 v4 S =
(faP 1 false 1 v1).bind fun t80=>
(ld1 t80 S).bind fun p81=>
(lnS p81.1 p81.2).bind fun p82=>
(qa4 E0 .lss 3 false false v4 p82.1).bind fun t83=>
(qa2 true t83).bind fun g85=>(bif g85 then some v4 else some (.tuple [])).bind fun t85=>
(qa2 true t83).bind fun g86=>(bif g86 then qa4 E0 .lss 3 false true t85 (.int .i64 20)else some (.tuple [])).bind fun t86=>
(qay t83 (some t86) (some (.bool false))).bind fun t87=>
ifK t87 (
(faP 1 false 1 v3).bind fun t88=>
(ld1 t88 (onS p82.2)).bind fun p89=>
(faP 1 false 1 v1).bind fun t90=>
(ld1 t90 (onS p89.2)).bind fun p91=>
(ixP 1 p91.1 v4).bind fun t93=>
(ld1 t93 (onS p91.2)).bind fun p94=>
(faP 1 false 1 v1).bind fun t95=>
(ld1 t95 (onS p94.2)).bind fun p96=>
(ixP 1 p96.1 v4).bind fun t98=>
(ld1 t98 (onS p96.2)).bind fun p99=>
(qbr p99.1 (onS p99.2)).bind fun p100=>
(qj1 minV p100.1 [(.int .i64 300)] (onS p100.2)).bind fun p101=>
(qb6 E0 9 p94.1 none (some p101.1) none (onS p101.2)).bind fun p102=>
(bsP 9 1 1 (Ev.one (sv [])) [(0,p102.1)] (onS p102.2)).bind fun p103=>
(apP 9 1 16 p89.1 p103.1 (onS p103.2)).bind fun p104=>
(faP 1 false 1 v3).bind fun t105=>
(stP 1 t105 p104.1 (onS p104.2)).bind fun p106=>
qgb [(1,[3,6,8,11,12,13,14,15]),(3,[8,11,12,13]),(6,[8,11,12,13])] p82.2 [[],p89.2.log,[],p91.2.log,[],[],p94.2.log,[],p96.2.log,[],[],p99.2.log,p100.2.log,p101.2.log,p102.2.log,p103.2.log,p104.2.log,[],p106.2.log] p106.2 fun S107=>
(qa4 E0 .add 3 false true v4 (.int .i64 1)).bind fun t109=>
L5_78 self N nk ek n v1 v2 v3 t109 S107) (
ek 0 (fr 98 [(1,v1),(2,v2),(3,v3)]) p82.2):=by kernel_rfl
def F5 (self:EV) (N:Nat) (x0:V) (S:St):Rs:=qaq E0 self N Tryz.f5 B5 [x0] S
theorem F5_eq (self:EV) (N:Nat) (x0:V) (S:St):F5 self N x0 S =
(qjy 25 x0 S).bind fun p0=>
(some (nwP 25 4 (Tr.ofListFrom .nil [(sv []),.nilslice,.nilslice,(sv [])] 0) p0.2)).bind fun p1=>
(faP 0 false 1 p0.1).bind fun t2=>
(ld1 t2 (onS p1.2)).bind fun p3=>
(faP 0 false 1 p0.1).bind fun t4=>
(ld1 t4 (onS p3.2)).bind fun p5=>
(qbr p5.1 (onS p5.2)).bind fun p6=>
(qj1 minV p6.1 [(.int .i64 300)] (onS p6.2)).bind fun p7=>
(qb6 E0 9 p3.1 none (some p7.1) none (onS p7.2)).bind fun p8=>
(faP 3 false 1 p0.1).bind fun t9=>
(ld1 t9 (onS p8.2)).bind fun p10=>
(faP 3 false 1 p0.1).bind fun t11=>
(ld1 t11 (onS p10.2)).bind fun p12=>
(qbr p12.1 (onS p12.2)).bind fun p13=>
(qj1 minV p13.1 [(.int .i64 5000)] (onS p13.2)).bind fun p14=>
(qb6 E0 9 p10.1 none (some p14.1) none (onS p14.2)).bind fun p15=>
(qfj E0 25 [(0,p8.1),(3,p15.1)]).bind fun t16=>
(some (nwP 25 4 (Tr.ofListFrom .nil [(sv []),.nilslice,.nilslice,(sv [])] 0) (onS p15.2))).bind fun p17=>
(stP 4 p17.1 t16 (onS p17.2)).bind fun p18=>
qgb [(1,[3,4,5,8,10,11,12,13,15]),(3,[8,10,11,12,13,15]),(4,[8,10,11,12,13,15]),(5,[8,10,11,12,13,15]),(6,[8,10,11,12,13,15]),(8,[10,11,12,15]),(10,[15]),(11,[15]),(12,[15]),(13,[15])] p1.2 [[],p3.2.log,[],p5.2.log,p6.2.log,p7.2.log,p8.2.log,[],p10.2.log,[],p12.2.log,p13.2.log,p14.2.log,p15.2.log,[],p17.2.log,p18.2.log] p18.2 fun S19=>
L5_78 self N (R5_20 self N (qat E0 self Tryz.f5) qad) (exB 0 (R5_20 self N (qat E0 self Tryz.f5) qad) qad) N p0.1 p1.1 p17.1 (.int .i64 0) S19:=by kernel_rfl
end
end Go.Proofs.YtpgegoeghaplkaaGreatDoor.W
namespace Go.Proofs.YtpgegoeghaplkaaGreatDoor.W
open Go.Proofs.YtpgegoeghaplkaaGreatDoor.Ev Go.RowKit
def TV (v:V) (l:List Bs):Prop:=(l=[]/\(v=.nilslice\/v=.eslice))\/v=.list 1 (l.map sv)
def pairV (p:Bs×Bs):V:=.agg 2 (qip p)
def EV (v:V) (l:List (Bs×Bs)):Prop:=(l=[]/\(v=.nilslice\/v=.eslice))\/v=.list 2 (l.map pairV)
section
variable {S T U W:St}
theorem TV.len {v:V} {l:List Bs} (h:TV v l):lnS v S=some (.int .i64 (l.length:Int),S):=by
 rcases h with⟨rfl,rfl|rfl⟩|rfl
 . rfl
 . rfl
 . show some (V.int .i64 (Int.ofNat (l.map sv).length),S)=_
   rw[lM]; rfl
theorem TV.ix {v:V} {l:List Bs} (h:TV v l) {i:Nat} {a:Bs} (ha:l[i]?=some a):ixP 1 v (.int .i64 (i:Int))=some (.cptr (sv a)):=by
 rcases h with⟨rfl,_⟩|rfl
 . simp at ha
 . show(bif Nat.beq 1 1&&Nat.blt 0 1 then((l.map sv)[i]?).bind fun v=>some (V.cptr v)else none)=_
   rw[List.getElem?_map,ha]; rfl
theorem EV.len {v:V} {l:List (Bs×Bs)} (h:EV v l):lnS v S=some (.int .i64 (l.length:Int),S):=by
 rcases h with⟨rfl,rfl|rfl⟩|rfl
 . rfl
 . rfl
 . show some (V.int .i64 (Int.ofNat (l.map pairV).length),S)=_
   rw[lM]; rfl
theorem EV.ix {v:V} {l:List (Bs×Bs)} (h:EV v l) {i:Nat} {a:Bs×Bs} (ha:l[i]?=some a):ixP 2 v (.int .i64 (i:Int))=some (.cptr (pairV a)):=by
 rcases h with⟨rfl,_⟩|rfl
 . simp at ha
 . show(bif Nat.beq 2 2&&Nat.blt 0 2 then((l.map pairV)[i]?).bind fun v=>some (V.cptr v)else none)=_
   rw[List.getElem?_map,ha]; rfl
theorem fa0 (p:Bs×Bs):faP 0 false 1 (.cptr (pairV p))=some (.cptr (sv p.1)):=by unfold pairV qip; kernel_rfl
theorem fa1 (p:Bs×Bs):faP 1 false 1 (.cptr (pairV p))=some (.cptr (sv p.2)):=by unfold pairV qip; kernel_rfl
theorem ldc (a:Bs) (S:St):ld1 (.cptr (sv a)) S=some (sv a,S):=rfl
theorem take_minE (l:List UInt8) (n:Nat):List.take (min l.length n) l=l.take n:=by
 rcases Nat.le_total l.length n with h|h
 . rw[Nat.min_eq_left h,List.take_length,List.take_of_length_le h]
 . rw[Nat.min_eq_right h]
theorem cutNE (s:Bs) (n:Nat) (S:St):qb6 E0 9 (sv s) none (some (.int .i64 ((min s.length n:Nat):Int))) none S=some (sv (s.take n),S):=by
 rw[qda und9 s (qep .i64 (Nat.min_le_left ..)) (Nat.min_le_left ..),List.drop_zero,Nat.sub_zero,take_minE]
theorem minK (n c:Nat) (S:St):qj1 minV (.int .i64 (n:Int)) [(.int .i64 (c:Int))] S=some (.int .i64 ((min n c:Nat):Int),S):=by
 rw[foldK_min]
 congr 3
 omega
theorem qlk (i n:Nat) (c:Nat) (K:V->Rs):((qa4 E0 .lss 3 false false (.int .i64 (i:Int)) (.int .i64 (n:Int))).bind fun t10=>
(qa2 true t10).bind fun g12=>(bif g12 then some (V.int .i64 (i:Int))else some (.tuple [])).bind fun t12=>
(qa2 true t10).bind fun g13=>(bif g13 then qa4 E0 .lss 3 false true t12 (.int .i64 (c:Int))else some (.tuple [])).bind fun t13=>
(qay t10 (some t13) (some (.bool false))).bind fun t14=>K t14)=K (.bool (decide (i<n)&&decide (i<c))):=by
 rw[binV_ii,intsV_lss,oB];by_cases h:i<n
 . rw[show decide ((i:Int)<(n:Int))=true from dT (by omega),dT h]
   simp only[qah,oB,cT,pickV_bool,Bool.true_and];rw[binV_ii,intsV_lss];by_cases h2:i<c
   . rw[show decide ((i:Int)<(c:Int))=true from dT (by omega),dT h2]; rfl
   . rw[show decide ((i:Int)<(c:Int))=false from dF (by omega),dF h2]; rfl
 . rw[show decide ((i:Int)<(n:Int))=false from dF (by omega),dF h]
   rfl
theorem bs_text (ho:S.on=false) (a:Bs):∃U,(∀m,bsP 9 1 1 (Ev.one (sv [])) [(0,sv a)] (stt S m)=some (.slice S.next 0 1 1,stt U (m.map fun l=>⟨S.next,0,big,true⟩::l)))/\Grew (fun _=>False) S U/\U.next=S.next+1:=by
 obtain⟨U,a1,a2,a3,a4⟩:=qe5 ho 9 (Ev.one (sv [])) [sv a] (fun v hv=>by rw[List.mem_singleton.1 hv]; exact qkg a) (by show 1<big; unfold big; decide);exact⟨U,a1,a3,a4⟩
theorem TLo.pushOn (ho:S.on=false) {v:V} {l:List Bs} {N:Nat} (h:TLo S v l N) (hN:N<=S.next) (hl:l.length<100000) (a:Bs) :
 ∃(W:St) (v':V) (U:St) (l':List LE),bsP 9 1 1 (Ev.one (sv [])) [(0,sv a)] (S.lg [])=some (.slice S.next 0 1 1,W.lg [⟨S.next,0,big,true⟩])/\apP 9 1 16 v (.slice S.next 0 1 1) (W.lg [])=some (v',U.lg l')/\TLo U v' (l++[a]) N/\Grew (fun x=>N<=x) S U:=by
 obtain⟨y,W,v',U,h1,h2,h3,h4⟩:=TLo.push ho h hN hl a;obtain⟨W',k1,k2,k3⟩:=bs_text ho a;have e:=(k1 none).symm.trans (show bsP 9 1 1 (Ev.one (sv [])) [(0,sv a)] (stt S none)=some (y,W)from h1);simp only[oS,pM]at e;obtain⟨rfl,rfl⟩:=e;obtain⟨l',c2⟩:=lg_of (lg_apP 9 1 16 v (.slice S.next 0 1 1)) h2 [];exact⟨_,v',U,l',k1 (some []),c2,h3,h4⟩
end
def cutL (l:List Bs):List Bs:=(l.take 20).map fun a=>a.take 300
def cutP (l:List (Bs×Bs)):List (Bs×Bs):=(l.take 20).map fun p=>(p.1.take 300,p.2.take 300)
def cutD (d:DD):DD:=⟨d.nm.take 300,cutL d.ins,cutP d.env,d.scr.take 5000⟩
theorem map_push {α β:Type} (l:List α) (f:α->β) {i c:Nat} (hi:i<l.length) (hc:i<c):((l.take c).take (i+1)).map f=((l.take c).take i).map f++[f l[i]]:=by
 have h1:i<(l.take c).length:=by rw[List.length_take]; omega
 rw[List.take_add_one,List.getElem?_eq_getElem h1,List.map_append,List.getElem_take]; rfl
section
variable {S T U W:St} {b1 b3 N0:Nat} {A:Tr V}
theorem L78c_spec {m N:Nat} {wI:V} {ins:List Bs} (hA1:A.get 1=some wI) (hTV:TV wI ins) (h13:b1<b3) (h30:b3<N0) {v2:V} (nk:Ac->St->Rs) (ek:Nat->Ac->St->Rs) :
 ∀(d i q:Nat) (T:Tr V) (vI:V) (U:St),i+d=min ins.length 20->d<q->U.on=false->AgAt U b1 25 4 A->AgAt U b3 25 4 T->N0<=U.next->T.get 1=some vI->TLo U vI (((ins.take 20).take i).map fun a=>a.take 300) N0->
 ∃T' vI' W,L5_78 (ev E0 KD m) N nk ek q (.ptr b1 0) v2 (.ptr b3 0) (.int .i64 (i:Int)) U=ek 0 (fr 98 [(1,.ptr b1 0),(2,v2),(3,.ptr b3 0)]) W/\AgAt W b3 25 4 T'/\T'.get 1=some vI'/\(∀j,j≠1->T'.get j=T.get j)/\TLo W vI' (cutL ins) N0/\Grew (fun x=>x=b3\/N0<=x) U W
 | _,_,0,_,_,_,_,hq,_,_,_,_,_,_=>by omega
 | 0,i,q+1,T,vI,U,hi,hq,ho,hA,hT,hN,ht,hL=>by
  refine⟨T,vI,U,?_,hT,ht,fun _ _=>rfl,?_,Grew.refl _ _⟩
  . rw[L5_78_eq,show faP 1 false 1 (.ptr b1 0)=some (.ptr b1 1)from rfl,oB,hA.ld1 ho qdc (by decide) hA1,oB]
    dsimp only;rw[hTV.len,oB];dsimp only
    rw[show(V.int .i64 20)=.int .i64 ((20:Nat):Int)from rfl,qlk i ins.length 20,show(decide (i<ins.length)&&decide (i<20))=false from by
     rw[Bool.and_eq_false_iff,decide_eq_false_iff_not,decide_eq_false_iff_not]; omega,ifK_bool,cF]
  . rw[List.take_of_length_le (l:=ins.take 20) (by rw[List.length_take]; omega)]at hL
    exact hL
 | d+1,i,q+1,T,vI,U,hi,hq,ho,hA,hT,hN,ht,hL=>by
  have h1:i<ins.length:=by omega
  have h2:i<20:=by omega
  have hix:=hTV.ix (List.getElem?_eq_getElem h1);obtain⟨W1,v',U1,l1,k1,k2,k3,k4⟩:=TLo.pushOn ho hL hN (by rw[lM,List.length_take]; omega) (ins[i].take 300);have on1:=k4.on.trans ho;have n1:=k4.next
  have hb3:b3<U.next:=by omega
  have hT1:AgAt U1 b3 25 4 T:=hT.grew hb3 (by omega) k4;have hov:=k3.oneV;obtain⟨U2,c1,c2,c3,c4⟩:=hT1.st1 on1 qdc (by decide) (i:=1) (by decide) v' hov.size hov.cells hov.tup;obtain⟨l2,c1'⟩:=qh8 on1 c1;have gU:Grew (fun x=>x=b3\/N0<=x) U (zz U U2):=qdy ho ((k4.mono fun x _ e=>.inr e).trans (c3.mono fun x _ e=>.inl e));have g0:Grew (fun _=>False) U2 (zz U U2):=qcu ho (c3.on.trans on1);have nz:(zz U U2).next=U2.next:=rfl
  obtain⟨T',vI',W,t1,t2,t3,t4,t5,t6⟩:=L78c_spec (m:=m) (N:=N) hA1 hTV h13 h30 (v2:=v2) nk ek d (i+1) q (T.set v' 1) v' (zz U U2) (by omega) (by omega) (gU.on.trans ho) (hA.grew (by omega) (fun e=>by rcases e with e|e<;>omega) gU) (c2.grew (by omega) (fun h=>h) g0) (by omega) (by rw[Tr.get_set,iP rfl]) (by
   rw[map_push ins _ h1 h2]
   exact(k3.grewW c3 fun x hx e=>by
    rcases k3 with⟨_,rfl⟩|⟨r,rfl,_,_,h6,_⟩
    . cases hx
    . cases hx; omega).grew g0)
  refine⟨T',vI',W,?_,t2,t3,fun j hj=>by rw[t4 j hj,Tr.get_set,iN hj],t5,gU.trans t6⟩;rw[L5_78_eq,show faP 1 false 1 (.ptr b1 0)=some (.ptr b1 1)from rfl,oB,hA.ld1 ho qdc (by decide) hA1,oB];dsimp only;rw[hTV.len,oB];dsimp only;rw[show(V.int .i64 20)=.int .i64 ((20:Nat):Int)from rfl,qlk i ins.length 20,dT h1,dT h2,Bool.and_self,ifK_bool,cT,show faP 1 false 1 (.ptr b3 0)=some (.ptr b3 1)from rfl,oB];simp only[ons,qar];rw[qbx ho (hT.ld1 ho qdc (by decide) ht) [],oB,oB];simp only[ons,qar];rw[qbx ho (hA.ld1 ho qdc (by decide) hA1) [],oB];simp only[ons,qar];rw[hix,oB,ldc,oB,oB];simp only[ons,qar];rw[qbx ho (hA.ld1 ho qdc (by decide) hA1) [],oB];simp only[ons,qar];rw[hix,oB,ldc,oB];simp only[ons,qar];rw[qa5,oB];simp only[ons,qar];rw[show(V.int .i64 300)=.int .i64 ((300:Nat):Int)from rfl,minK,oB];simp only[ons,qar];rw[cutNE,oB];simp only[ons,qar];rw[k1,oB];simp only[ons,qar];rw[k2,oB,oB];simp only[ons,qar];rw[c1',oB];dsimp only;rw[qb3 ?_,qao ho,qc1 (by omega),oB]
  . exact t1
  . refine qb0 (r1:=U.next) (r2:=U.next+1) (tags:=[0,1,0,1,0,0,0,0,1,0,0,0,0,0,0,2,4,0,4]) (by omega) ?_ (by decide)
    repeat' apply And.intro
    all_goals first
     | trivial
     | (intro e he; cases he; done)
     | (intro e he; cases List.mem_singleton.1 he; exact⟨rfl,by dsimp only; omega,by dsimp only; omega⟩)
     | (intro e he; cases List.mem_singleton.1 he; rfl)
     | (intro e he; trivial)
end
section
variable {S T U W:St} {b1 b3 N0:Nat} {A:Tr V}
theorem L26c_spec {m N:Nat} {wE:V} {env:List (Bs×Bs)} (hA2:A.get 2=some wE) (hTV:EV wE env) (h13:b1<b3) (h30:b3<N0) {v2:V} (nk:Ac->St->Rs) (ek:Nat->Ac->St->Rs) :
 ∀(d i q:Nat) (T:Tr V) (vE:V) (U:St),i+d=min env.length 20->d<q->U.on=false->AgAt U b1 25 4 A->AgAt U b3 25 4 T->N0<=U.next->T.get 2=some vE->VLo U vE (((env.take 20).take i).map fun p=>(p.1.take 300,p.2.take 300)) N0->
 ∃T' vE' W,L5_26 (ev E0 KD m) N nk ek q (.ptr b1 0) v2 (.ptr b3 0) (.int .i64 (i:Int)) U=ek 2 (fr 98 [(2,v2),(3,.ptr b3 0)]) W/\AgAt W b3 25 4 T'/\T'.get 2=some vE'/\(∀j,j≠2->T'.get j=T.get j)/\VLo W vE' (cutP env) N0/\Grew (fun x=>x=b3\/N0<=x) U W
 | _,_,0,_,_,_,_,hq,_,_,_,_,_,_=>by omega
 | 0,i,q+1,T,vE,U,hi,hq,ho,hA,hT,hN,ht,hL=>by
  refine⟨T,vE,U,?_,hT,ht,fun _ _=>rfl,?_,Grew.refl _ _⟩
  . rw[L5_26_eq,show faP 2 false 1 (.ptr b1 0)=some (.ptr b1 2)from rfl,oB,hA.ld1 ho qdc (by decide) hA2,oB]
    dsimp only;rw[hTV.len,oB];dsimp only
    rw[show(V.int .i64 20)=.int .i64 ((20:Nat):Int)from rfl,qlk i env.length 20,show(decide (i<env.length)&&decide (i<20))=false from by
     rw[Bool.and_eq_false_iff,decide_eq_false_iff_not,decide_eq_false_iff_not]; omega,ifK_bool,cF]
  . rw[List.take_of_length_le (l:=env.take 20) (by rw[List.length_take]; omega)]at hL
    exact hL
 | d+1,i,q+1,T,vE,U,hi,hq,ho,hA,hT,hN,ht,hL=>by
  have h1:i<env.length:=by omega
  have h2:i<20:=by omega
  have hix:=hTV.ix (List.getElem?_eq_getElem h1);obtain⟨W1,j1,j2,j3,j4⟩:=bs_var ho (qip (env[i].1.take 300,env[i].2.take 300));obtain⟨v',U1,l1,k2,k3,k4',hov⟩:=(hL.grew j3 fun _ _ h=>h).pushOn (j3.on.trans ho) (by omega) (by rw[lM,List.length_take]; omega) j2 []
  have k4:Grew (fun x=>N0<=x) U U1:=(j3.mono fun _ _ h=>h.elim).trans (k4'.mono fun x hx e=>by
   rcases hL with⟨_,rfl⟩|⟨r,rfl,_,_,h6,_⟩
   . cases e
   . cases e; exact h6)
  have on1:=k4.on.trans ho;have n1:=k4.next
  have hb3:b3<U.next:=by omega
  have hT1:AgAt U1 b3 25 4 T:=hT.grew hb3 (by omega) k4;obtain⟨U2,c1,c2,c3,c4⟩:=hT1.st1 on1 qdc (by decide) (i:=2) (by decide) v' hov.size hov.cells hov.tup;obtain⟨l2,c1'⟩:=qh8 on1 c1;have gU:Grew (fun x=>x=b3\/N0<=x) U (zz U U2):=qdy ho ((k4.mono fun x _ e=>.inr e).trans (c3.mono fun x _ e=>.inl e));have g0:Grew (fun _=>False) U2 (zz U U2):=qcu ho (c3.on.trans on1);have nz:(zz U U2).next=U2.next:=rfl
  obtain⟨T',vE',W,t1,t2,t3,t4,t5,t6⟩:=L26c_spec (m:=m) (N:=N) hA2 hTV h13 h30 (v2:=v2) nk ek d (i+1) q (T.set v' 2) v' (zz U U2) (by omega) (by omega) (gU.on.trans ho) (hA.grew (by omega) (fun e=>by rcases e with e|e<;>omega) gU) (c2.grew (by omega) (fun h=>h) g0) (by omega) (by rw[Tr.get_set,iP rfl]) (by
   rw[map_push env _ h1 h2]
   exact(k3.grew c3 fun x hx e=>by
    rcases k3 with⟨_,rfl⟩|⟨r,rfl,_,_,h6,_⟩
    . cases hx
    . cases hx; omega).grew g0 fun _ _ h=>h)
  refine⟨T',vE',W,?_,t2,t3,fun j hj=>by rw[t4 j hj,Tr.get_set,iN hj],t5,gU.trans t6⟩;rw[L5_26_eq,show faP 2 false 1 (.ptr b1 0)=some (.ptr b1 2)from rfl,oB,hA.ld1 ho qdc (by decide) hA2,oB];dsimp only;rw[hTV.len,oB];dsimp only;rw[show(V.int .i64 20)=.int .i64 ((20:Nat):Int)from rfl,qlk i env.length 20,dT h1,dT h2,Bool.and_self,ifK_bool,cT,show faP 2 false 1 (.ptr b3 0)=some (.ptr b3 2)from rfl,oB];simp only[ons,qar];rw[qbx ho (hT.ld1 ho qdc (by decide) ht) [],oB,oB];simp only[ons,qar];rw[qbx ho (hA.ld1 ho qdc (by decide) hA2) [],oB];simp only[ons,qar];rw[hix,oB,fa0,oB,ldc,oB,oB];simp only[ons,qar];rw[qbx ho (hA.ld1 ho qdc (by decide) hA2) [],oB];simp only[ons,qar];rw[hix,oB,fa0,oB,ldc,oB];simp only[ons,qar];rw[qa5,oB];simp only[ons,qar];rw[show(V.int .i64 300)=.int .i64 ((300:Nat):Int)from rfl,minK,oB];simp only[ons,qar];rw[cutNE,oB,oB];simp only[ons,qar];rw[qbx ho (hA.ld1 ho qdc (by decide) hA2) [],oB];simp only[ons,qar];rw[hix,oB,fa1,oB,ldc,oB,oB];simp only[ons,qar];rw[qbx ho (hA.ld1 ho qdc (by decide) hA2) [],oB];simp only[ons,qar];rw[hix,oB,fa1,oB,ldc,oB];simp only[ons,qar];rw[qa5,oB];simp only[ons,qar];rw[minK,oB];simp only[ons,qar];rw[cutNE,oB,build_41,oB];simp only[ons,qar];rw[j1 [],oB];simp only[ons,qar];rw[k2,oB,oB];simp only[ons,qar];rw[c1',oB];dsimp only;rw[qb3 ?_,qao ho,qc1 (by omega),oB]
  . exact t1
  . refine qb0 (r1:=U.next) (r2:=U.next+1) (tags:=[0,1,0,1,0,0,0,0,0,1,0,0,0,0,0,0,0,0,1,0,0,0,0,0,1,0,0,0,0,0,0,0,0,2,4,0,4]) (by omega) ?_ (by decide)
    repeat' apply And.intro
    all_goals first
     | trivial
     | (intro e he; cases he; done)
     | (intro e he; cases List.mem_singleton.1 he; exact⟨rfl,by dsimp only; omega,by dsimp only; omega⟩)
     | (intro e he; cases List.mem_singleton.1 he; rfl)
     | (intro e he; trivial)
theorem rq5' {n:Nat} {args:List V} {s:St} {r:En×St} (e:qaq E0 (ev E0 KD n) qa1 Tryz.f5 B5 args s=some r):(ev E0 KD (n+1)).f 5 args s=some r:=qa6 (c:=C5) (d:=B5) (by kernel_rfl) (by kernel_rfl) (qa3 C5 _ (by kernel_rfl)) rfl e
structure Raw (A:Tr V) (d:DD):Prop where
 nm:A.get 0=some (sv d.nm)
 ins:∃w,A.get 1=some w/\TV w d.ins
 env:∃w,A.get 2=some w/\EV w d.env
 scr:A.get 3=some (sv d.scr)
def T0 (a b:Bs):Tr V:=Tr.ofListFrom .nil [sv a,.nilslice,.nilslice,sv b] 0
theorem build_25b (a b:Bs):qfj E0 25 [(0,sv a),(3,sv b)]=some (.agg 4 (T0 a b)):=by kernel_rfl
end
section
variable {S T U W:St} {A:Tr V} {d:DD}
theorem cut_run (hR:Raw A d) (ho:S.on=false) (m:Nat):∃T vI vE U N,(ev E0 KD (m+1)).f 5 [.agg 4 A] S=some (.ret (.agg 4 T),U)/\DrvT T (cutD d).nm vI vE (cutD d).scr/\TLo U vI (cutD d).ins N/\VLo U vE (cutD d).env N/\U.on=false/\Grew (fun _=>False) S U/\S.next<=N:=by
 obtain⟨wI,i1,i2⟩:=hR.ins;obtain⟨wE,e1,e2⟩:=hR.env;obtain⟨a1,a2,a3⟩:=qc7 ho 25 4 A;have on1:=a2.on.trans ho;have hF:=F5_eq (ev E0 KD m) qa1 (.agg 4 A) S;rw[show qjy 25 (.agg 4 A) S=some (.ptr S.next 0,(nwP 25 4 A S).2)from rfl,oB]at hF;dsimp only at hF;generalize (nwP 25 4 A S).2=S1 at a1 a2 a3 on1 hF;obtain⟨b1,b2,b3⟩:=qc7 on1 25 4 ZD;rw[oB,qet,show nwP 25 4 (Tr.ofListFrom .nil [(sv []),.nilslice,.nilslice,(sv [])] 0) S1=nwP 25 4 ZD S1 from rfl]at hF;generalize (nwP 25 4 ZD S1).2=S2 at b1 b2 b3 hF;have on2:=b2.on.trans on1;have hA2:AgAt S2 S.next 25 4 A:=a1.grew (by omega) (fun h=>h) b2
 obtain⟨c1,c2,c3⟩:=qc7 on2 25 4 ZD
 have hnw:nwP 25 4 (Tr.ofListFrom .nil [(sv []),.nilslice,.nilslice,(sv [])] 0) (S2.lg [])=(.ptr S2.next 0,(nwP 25 4 ZD S2).2.lg [⟨S2.next,0,big,true⟩]):=by
  unfold nwP qae;rw[nw_lg on2]; rfl
 generalize (nwP 25 4 ZD S2).2=S3 at c1 c2 c3 hnw;have on3:=c2.on.trans on2;obtain⟨S4,k1,k2,k3,k4⟩:=c1.stA on3 qdc (T0 (d.nm.take 300) (d.scr.take 5000));obtain⟨l4,k1'⟩:=qh8 on3 k1;have n0:ld1 (.ptr S.next 0) S2=some (sv d.nm,S2):=hA2.ld1 on2 qdc (by decide) hR.nm;have n3:ld1 (.ptr S.next 3) S2=some (sv d.scr,S2):=hA2.ld1 on2 qdc (by decide) hR.scr;rw[show faP 0 false 1 (.ptr S.next 0)=some (.ptr S.next 0)from rfl,oB]at hF;simp only[ons,qar]at hF;rw[qbx on2 n0 [],oB,oB]at hF;simp only[ons,qar]at hF;rw[qbx on2 n0 [],oB]at hF;simp only[ons,qar]at hF;rw[qa5,oB]at hF;simp only[ons,qar]at hF;rw[show(V.int .i64 300)=.int .i64 ((300:Nat):Int)from rfl,minK,oB]at hF;simp only[ons,qar]at hF;rw[cutNE,oB,show faP 3 false 1 (.ptr S.next 0)=some (.ptr S.next 3)from rfl,oB]at hF;simp only[ons,qar]at hF;rw[qbx on2 n3 [],oB,oB]at hF;simp only[ons,qar]at hF;rw[qbx on2 n3 [],oB]at hF;simp only[ons,qar]at hF;rw[qa5,oB]at hF;simp only[ons,qar]at hF;rw[show(V.int .i64 5000)=.int .i64 ((5000:Nat):Int)from rfl,minK,oB]at hF;simp only[ons,qar]at hF;rw[cutNE,oB,build_25b,oB]at hF;simp only[ons,qar]at hF;rw[hnw,oB]at hF;simp only[ons,qar]at hF;rw[k1',oB]at hF;dsimp only at hF;have gz:Grew (fun x=>x=S2.next) S2 (zz S2 S4):=qdy on2 ((c2.mono fun _ _ h=>h.elim).trans k3);have g0:Grew (fun _=>False) S4 (zz S2 S4):=qcu on2 (k3.on.trans on3)
 have nz:(zz S2 S4).next=S4.next:=rfl
 have hA5:AgAt (zz S2 S4) S.next 25 4 A:=hA2.grew (by omega) (by omega) gz
 have hT5:AgAt (zz S2 S4) S2.next 25 4 (T0 (d.nm.take 300) (d.scr.take 5000)):=k2.grew (by omega) (fun h=>h) g0
 have on5:=gz.on.trans on2;have t1:(T0 (d.nm.take 300) (d.scr.take 5000)).get 1=some .nilslice:=by unfold T0; rw[Tr.get_ofList]; rfl
 have t2:(T0 (d.nm.take 300) (d.scr.take 5000)).get 2=some .nilslice:=by unfold T0; rw[Tr.get_ofList]; rfl
 have t0:(T0 (d.nm.take 300) (d.scr.take 5000)).get 0=some (sv (d.nm.take 300)):=by unfold T0; rw[Tr.get_ofList]; rfl
 have t3:(T0 (d.nm.take 300) (d.scr.take 5000)).get 3=some (sv (d.scr.take 5000)):=by unfold T0; rw[Tr.get_ofList]; rfl
 obtain⟨TA,vI,S6,p1,p2,p3,p4,p5,p6⟩:=L78c_spec (m:=m) (N:=qa1) (b1:=S.next) (b3:=S2.next) (N0:=S4.next) i1 i2 (by omega) (by omega) (v2:=.ptr S1.next 0) (R5_20 (ev E0 KD m) qa1 (qat E0 (ev E0 KD m) Tryz.f5) qad) (exB 0 (R5_20 (ev E0 KD m) qa1 (qat E0 (ev E0 KD m) Tryz.f5) qad) qad) (min d.ins.length 20) 0 qa1 _ .nilslice (zz S2 S4) (by omega) (by unfold qa1; omega) on5 hA5 hT5 (by omega) t1 (by rw[List.take_zero]; exact .nil);have n6:=p6.next
 have on6:=p6.on.trans on5;have hA6:AgAt S6 S.next 25 4 A:=hA5.grew (by omega) (by omega) p6
 obtain⟨TB,vE,S7,q1,q2,q3,q4,q5,q6⟩:=L26c_spec (m:=m) (N:=qa1) (b1:=S.next) (b3:=S2.next) (N0:=S6.next) e1 e2 (by omega) (by omega) (v2:=.ptr S1.next 0) (R5_21 (ev E0 KD m) qa1 (fun a s=>qa7 [2] a fun a=>qat E0 (ev E0 KD m) Tryz.f5 a s) qad) (exB 2 (R5_21 (ev E0 KD m) qa1 (fun a s=>qa7 [2] a fun a=>qat E0 (ev E0 KD m) Tryz.f5 a s) qad) qad) (min d.env.length 20) 0 qa1 TA .nilslice S6 (by omega) (by unfold qa1; omega) on6 hA6 p2 (lR _) ((p4 2 (by decide)).trans t2) (by rw[List.take_zero]; exact .inl ⟨rfl,rfl⟩);have n7:=q6.next
 have on7:=q6.on.trans on6;have hB7:AgAt S7 S1.next 25 4 ZD:=((b1.grew (by omega) (by omega) gz).grew (by omega) (by omega) p6).grew (by omega) (by omega) q6
 obtain⟨S8,r1,r2,r3,r4⟩:=hB7.stA on7 qdc TB;have on8:=r3.on.trans on7
 have hI7:TLo S7 vI (cutD d).ins S4.next:=p5.grewW q6 fun x hx e=>by
  rcases p5 with⟨_,rfl⟩|⟨r,rfl,_,h5,h6,_⟩
  . cases hx
  . cases hx; rcases e with e|e<;>omega
 have hI8:TLo S8 vI (cutD d).ins S4.next:=hI7.grewW r3 fun x hx e=>by
  rcases hI7 with⟨_,rfl⟩|⟨r,rfl,_,h5,h6,_⟩
  . cases hx
  . cases hx; omega
 have hE8:VLo S8 vE (cutD d).env S6.next:=q5.grew r3 fun x hx e=>by
  rcases q5 with⟨_,rfl⟩|⟨r,rfl,_,h5,h6,_⟩
  . cases hx
  . cases hx; omega
 refine⟨TB,vI,vE,S8,S4.next,rq5' ?_,⟨(q4 0 (by decide)).trans ((p4 0 (by decide)).trans t0),(q4 1 (by decide)).trans p3,q3,(q4 3 (by decide)).trans ((p4 3 (by decide)).trans t3)⟩,hI8,?_,on8,?_,by omega⟩
 . refine hF.trans ?_
   rw[qb3 ?_,qao on2,show V.int .i64 0=.int .i64 ((0:Nat):Int)from rfl]
   . refine p1.trans ?_
     rw[exB_same,R5_20_eq,show V.int .i64 0=.int .i64 ((0:Nat):Int)from rfl];refine q1.trans ?_;rw[exB_same,R5_21_eq,q2.ldA on7 qdc,oB];dsimp only;rw[r1,oB];dsimp only;rw[r2.ldrA on8 qdc,oB]
   . refine qb0 (r1:=S2.next) (r2:=S2.next+1) (tags:=[0,1,0,1,0,0,0,0,1,0,1,0,0,0,0,2,4]) (by omega) ?_ (by decide)
     repeat' apply And.intro
     all_goals first
      | trivial
      | (intro e he; cases he; done)
      | (intro e he; cases List.mem_singleton.1 he; exact⟨rfl,by dsimp only; omega,by dsimp only; omega⟩)
      | (intro e he; cases List.mem_singleton.1 he; rfl)
      | (intro e he; trivial)
 . rcases hE8 with h|⟨r,h1,h2,h3,h4,h5⟩
   . exact .inl h
   . exact .inr ⟨r,h1,h2,h3,by omega,h5⟩
 . exact Grew.then (Grew.then (Grew.then (Grew.then (Grew.then a2 b2 fun _ _ h=>h) gz fun x hx e=>by omega) p6 fun x hx e=>by rcases e with e|e<;>omega) q6 fun x hx e=>by rcases e with e|e<;>omega) r3 fun x hx e=>by omega
end
end Go.Proofs.YtpgegoeghaplkaaGreatDoor.W


namespace Go.Proofs.YtpgegoeghaplkaaGreatDoor.W
open Go.Proofs.YtpgegoeghaplkaaGreatDoor.Ev Go.RowKit
theorem cutL_le (l:List Bs):(cutL l).length<=20/\∀p∈cutL l,p.length<=300:=by
 unfold cutL;refine⟨by rw[lM,List.length_take]; omega,fun p hp=>?_⟩;obtain⟨q,_,rfl⟩:=List.mem_map.1 hp;rw[List.length_take]; omega
theorem cutP_le (l:List (Bs×Bs)):(cutP l).length<=20/\∀p∈cutP l,p.1.length<=300/\p.2.length<=300:=by
 unfold cutP;refine⟨by rw[lM,List.length_take]; omega,fun p hp=>?_⟩;obtain⟨q,_,rfl⟩:=List.mem_map.1 hp;dsimp only;rw[List.length_take,List.length_take]; omega
section
variable {S T U W:St} {N:Nat} {d:DD} {vI vE:V} {Tt:Tr V}
theorem dx_cut (ho:S.on=false) (h:DrvT Tt (cutD d).nm vI vE (cutD d).scr) (hI:TLo S vI (cutD d).ins N) (hE:VLo S vE (cutD d).env N):Dx S N Tt (cutD d) vI vE:=by
 have h1:=cutL_le d.ins;have h2:=cutP_le d.env;exact⟨ho,h,hI,hE,by show(cutL d.ins).length<=1000; omega,by show(cutP d.env).length<=1000; omega,by show(d.nm.take 300).length<=20000; rw[List.length_take]; omega,fun p hp=>by have:=h1.2 p hp; omega,fun p hp=>by have:=h2.2 p hp; omega,fun p hp=>by have:=h2.2 p hp; omega,by show(d.scr.take 5000).length<=20000; rw[List.length_take]; omega⟩
theorem Dx.grew {P:Nat->Prop} (h:Dx S N Tt d vI vE) (g:Grew P S U) (hw:∀x,N<=x->x<S.next->¬P x):Dx U N Tt d vI vE:=
 ⟨g.on.trans h.on,h.t,h.ins.grewW g fun x hx=>by
  have:=h.ins;rcases this with⟨_,rfl⟩|⟨r,rfl,_,h5,h6,_⟩
  . cases hx
  . cases hx; exact hw _ h6 h5,h.env.grew g fun x hx=>by
  have:=h.env;rcases this with⟨_,rfl⟩|⟨r,rfl,_,h5,h6,_⟩
  . cases hx
  . cases hx; exact hw _ h6 h5,h.li,h.le,h.ln,h.lp,h.lv,h.lw,h.ls⟩
theorem q27 (c d:Bool) (a b:Int):qa4 E0 .eql 27 c d (.int .i64 a) (.int .i64 b)=some (.bool (decide (a=b))):=by rw[binV_ii,intsV_eql]
end
section
variable {S:St} {A B:Tr V} {da db:DD}
end
def frz (W:World):Rho:=⟨fun _=>none,fun k=>W.heap[k]?⟩
theorem relF (W:World):Rel E0 (base0 W) (frz W) s0 W:=
 ⟨⟨rfl,rfl,rfl,lR _,fun _ _=>rfl⟩,fun _ _=>rfl,lR _,fun b o h=>by simp[s0,Tr.get_nil]at h,fun b b' o o' cb sh sz sh' sz' h=>by simp[s0,Tr.get_nil]at h,fun g b h=>(by rw[glob0]at h; cases h),fun k o h=>h,fun b o cb sh sz h=>(by simp[s0,Tr.get_nil]at h),fun k o h _=>trivial⟩
theorem qgw {α:Type} {f:Nat->Option α}:∀(n k:Nat) {r:List α},((List.range' k n).mapM f)=some r->r.length=n/\∀i,i<n->∃y,r[i]?=some y/\f (k+i)=some y
 | 0,k,r,h=>by
  simp at h; subst h;exact⟨rfl,fun i hi=>by omega⟩
 | n+1,k,r,h=>by
  rw[List.range'_succ,List.mapM_cons]at h;simp only[Option.bind_eq_bind,oI,Option.pure_def,oS]at h;obtain⟨y,hy,r',hr',rfl⟩:=h;obtain⟨h1,h2⟩:=qgw n (k+1) hr';refine⟨by simp[h1],fun i hi=>?_⟩;cases i with
  | zero=>exact⟨y,rfl,hy⟩
  | succ i=>
   obtain⟨z,hz1,hz2⟩:=h2 i (by omega);exact⟨z,by simpa using hz1,by rw[show k+(i+1)=k+1+i by omega]; exact hz2⟩
theorem cells?_at {W:World} {a:Addr} {n:Nat} {cs:List Value} (h:W.cells? 0 a n=some cs):cs.length=n/\∀i,i<n->∃y,cs[i]?=some y/\W.cell? (a.add i)=some y:=by
 unfold World.cells? at h;rw[iP (Nat.zero_le _),List.range_eq_range']at h;obtain⟨h1,h2⟩:=qgw n 0 h
 exact⟨h1,fun i hi=>by
  obtain⟨y,hy1,hy2⟩:=h2 i hi
  exact⟨y,hy1,by rw[Nat.zero_add]at hy2; exact hy2⟩⟩
theorem add_eq {a:Addr} (h:a.spot=none) (n:Nat):a.add n=⟨a.block,a.off+n,none⟩:=by
 unfold Addr.add;split
 . rename_i h0
   subst h0;cases a;simp only at h;subst h;rfl
 . rfl
theorem u22:Tryz.prog.underlying 22=some (.slice 9):=by kernel_rfl
theorem u23:Tryz.prog.underlying 23=some (.slice 41):=by kernel_rfl
theorem u9:Tryz.prog.underlying 9=some .string:=by kernel_rfl
theorem u25:∃a b c d,Tryz.prog.underlying 25=some (.struct #[a,b,c,d])/\a.type=9/\a.offset=0/\b.type=22/\b.offset=1/\c.type=23/\c.offset=2/\d.type=9/\d.offset=3:=⟨_,_,_,_,Tryz.underlying25,rfl,rfl,rfl,rfl,rfl,rfl,rfl,rfl⟩
theorem u41:∃a b,Tryz.prog.underlying 41=some (.struct #[a,b])/\a.type=9/\a.offset=0/\b.type=9/\b.offset=1:=⟨_,_,Tryz.underlying41,rfl,rfl,rfl,rfl⟩
theorem c9:Tryz.prog.cellsOf 9=1:=by kernel_rfl
theorem c22:Tryz.prog.cellsOf 22=1:=by kernel_rfl
theorem c23:Tryz.prog.cellsOf 23=1:=by kernel_rfl
theorem c25:Tryz.prog.cellsOf 25=4:=by kernel_rfl
theorem c41:Tryz.prog.cellsOf 41=2:=by kernel_rfl
theorem flat_at {β:Type} {z:Nat} (hz:0<z):∀(ls:List (List β)),(∀l∈ls,l.length=z)->∀(j:Nat) c,ls.flatten[j]?=some c->∃l,ls[j/z]?=some l/\l[j%z]?=some c
 | [],_,j,c,h=>by simp at h
 | l::ls,hl,j,c,h=>by
  rw[List.flatten_cons]at h;have h0:=hl l (List.mem_cons_self ..);by_cases hj:j<z
  . rw[List.getElem?_append_left (by omega)]at h
    exact⟨l,by rw[Nat.div_eq_of_lt hj]; rfl,by rw[Nat.mod_eq_of_lt hj]; exact h⟩
  . rw[List.getElem?_append_right (by omega),h0]at h
    obtain⟨l',h1,h2⟩:=flat_at hz ls (fun x hx=>hl x (mO _ hx)) (j-z) c h;refine⟨l',?_,?_⟩
    . rw[show j=(j-z)+z by omega,Nat.add_div_right _ hz]; exact h1
    . rw[show j=(j-z)+z by omega,Nat.add_mod_right]; exact h2
theorem pick_any {α:Type} {P:Nat->α->Prop}:∀(n:Nat),(∀i,i<n->∃b,P i b)->∃l:List α,l.length=n/\∀i b,l[i]?=some b->P i b
 | 0,_=>⟨[],rfl,fun i b h=>by simp at h⟩
 | n+1,h=>by
  obtain⟨l,h1,h2⟩:=pick_any n fun i hi=>h i (by omega);obtain⟨b,hb⟩:=h n (by omega);refine⟨l++[b],by simp[h1],fun i c hc=>?_⟩;by_cases hi:i<n
  . rw[List.getElem?_append_left (by omega)]at hc
    exact h2 i c hc
  . have hi2:i=n:=by
     have:=(List.getElem?_eq_some_iff.1 hc).1;simp[h1]at this;omega
    subst hi2;rw[List.getElem?_append_right (by omega)]at hc;simp[h1]at hc;subst hc;exact hb
theorem vrels_map {ρ:Rho} {α:Type} (f:α->V) (g:α->Value):∀l:List α,(∀a∈l,VRel ρ (f a) (g a))->VRels ρ (l.map f) (l.map g)
 | [],_=>.nil
 | a::l,h=>.cons (h a (List.mem_cons_self ..)) (vrels_map f g l fun b hb=>h b (mO _ hb))
section
variable {H:Type} {enc:TypeId×Value->H} {W:World}
theorem qkw {α:Type} {t e z:Nat} {F:α->V} {Q:α->Prop} (ht:Tryz.prog.underlying t=some (.slice e)) (hz:Tryz.prog.cellsOf e=z) (hz0:0<z)
 (el:∀fuel cs (x:DataW H×List MemPlace),DataW.trod enc Tryz.prog W 0 (fun _=>true) true fuel e cs=some x->∃(a:α) (cv:Value),VRel (frz W) (F a) cv/\qam (F a)=false/\cv.cells.toList=cs/\Q a)
 {fuel:Nat} {cs:List Value} {x:DataW H×List MemPlace} (h:DataW.trod enc Tryz.prog W 0 (fun _=>true) true fuel t cs=some x) :
 ∃(cv:Value) (v:V) (l:List α),cs=[cv]/\VRel (frz W) v cv/\((l=[]/\(v=.nilslice\/v=.eslice))\/v=.list z (l.map F))/\(∀a∈l,Q a)/\∃ad len cap,cv=.slice ad len cap:=by
 rcases DataW.trod_slice ht h with⟨hv,_⟩|⟨a,len,cap,elems,rest,m,hm,hv,_,_,hcap,hmax,hel,hat,_⟩
 . exact⟨_,.nilslice,[],hv,.nilslice,.inl ⟨rfl,.inl rfl⟩,fun _ h=>by simp at h,_,_,_,rfl⟩
 . by_cases h0:len=0
   . subst h0
     exact⟨_,.eslice,[],hv,.eslice a cap,.inl ⟨rfl,.inr rfl⟩,fun _ h=>by simp at h,_,_,_,rfl⟩
   . have hAt:∀i,i<len->∃p:α×Value,VRel (frz W) (F p.1) p.2/\qam (F p.1)=false/\Q p.1/\p.2.cells.toList.length=z/\∀k,k<z->∃y,p.2.cells.toList[k]?=some y/\W.cell? ((a.add (i*z)).add k)=some y:=fun i hi=>by
      have:=hat i hi;rw[hz,List.getElem?_eq_getElem (by omega),oI]at this;obtain⟨cells,h1,h2⟩:=this;obtain⟨b,cv,b1,b2,b3,b4⟩:=el _ _ _ h2;obtain⟨c1,c2⟩:=cells?_at h1;exact⟨(b,cv),b1,b2,b4,by rw[b3]; exact c1,by rw[b3]; exact c2⟩
     obtain⟨p0,_,_,_,_,q0⟩:=hAt 0 (by omega);obtain⟨y0,_,hb0⟩:=q0 0 hz0
     have hspot:a.spot=none/\∃bg ty fr,W.heap[a.block]?=some (.cells bg ty fr):=by
      rw[Nat.zero_mul,show(a.add 0).add 0=a from rfl]at hb0;unfold World.cell? at hb0;split at hb0
      . rename_i bg ty fr hh
        split at hb0
        . cases hb0
        . rename_i hsp
          exact⟨by simpa using hsp,bg,ty,fr,hh⟩
      . cases hb0
     obtain⟨hsp,bg,ty,fr,hheap⟩:=hspot;obtain⟨l,l1,l2⟩:=pick_any len hAt;have hin:∀p∈l,∃i,l[i]?=some p:=fun p hp=>List.mem_iff_getElem?.1 hp;refine⟨_,.list z ((l.map (·.1)).map F),l.map (·.1),hv,?_,.inr rfl,fun b hb=>?_,_,_,_,rfl⟩
     . rw[List.map_map]
       refine .list (vrels_map _ (·.2) l fun p hp=>?_) (fun v hv=>?_) (by rw[lM]; exact l1) hcap fun _=>⟨fun cv hcv=>?_,hsp,bg,ty,fr,hheap,fun j c hj=>?_⟩
       . obtain⟨i,hi⟩:=hin p hp
         exact(l2 i p hi).1
       . rw[List.mem_map]at hv
         obtain⟨p,hp,rfl⟩:=hv;obtain⟨i,hi⟩:=hin p hp;exact(l2 i p hi).2.1
       . rw[List.mem_map]at hcv
         obtain⟨p,hp,rfl⟩:=hcv;obtain⟨i,hi⟩:=hin p hp;have:=(l2 i p hi).2.2.2.1
         rwa [Array.length_toList]at this
       . rw[List.flatMap_def,List.map_map]at hj
         obtain⟨cl,h1,h2⟩:=flat_at hz0 _ (fun cl hcl=>by
          rw[List.mem_map]at hcl;obtain⟨p,hp,rfl⟩:=hcl;obtain⟨i,hi⟩:=hin p hp
          exact(l2 i p hi).2.2.2.1) j c hj
         rw[List.getElem?_map,Option.map_eq_some_iff]at h1;obtain⟨p,hp,rfl⟩:=h1;obtain⟨y,y1,y2⟩:=(l2 _ p hp).2.2.2.2 (j%z) (Nat.mod_lt _ hz0)
         have hc:c=y:=by
          have:=h2.symm.trans y1;simpa using this
         subst hc;rw[add_eq hsp,add_eq rfl]at y2;unfold World.cell? at y2;simp only at y2;rw[hheap]at y2
         have he:a.off+j/z*z+j%z=a.off+j:=by
          have:=Nat.div_add_mod j z;rw[Nat.mul_comm]at this;omega
         rw[he]at y2;exact y2
     . rw[List.mem_map]at hb
       obtain⟨p,hp,rfl⟩:=hb;obtain⟨i,hi⟩:=hin p hp;exact(l2 i p hi).2.2.1
theorem texts_of_trod {fuel:Nat} {cs:List Value} {x:DataW H×List MemPlace} (h:DataW.trod enc Tryz.prog W 0 (fun _=>true) true fuel 22 cs=some x) :
 ∃(cv:Value) (v:V) (l:List Bs),cs=[cv]/\VRel (frz W) v cv/\TV v l/\∃ad len cap,cv=.slice ad len cap:=by
 obtain⟨cv,v,l,h1,h2,h3,_,h4⟩:=qkw (F:=sv) (Q:=fun _=>True) u22 c9 (by omega) (fun fuel cs x hx=>by
  obtain⟨s,rfl,_,_⟩:=DataW.trod_string u9 hx
  exact⟨s.data.toList,.string s,.str s,rfl,rfl,trivial⟩) h
 exact⟨cv,v,l,h1,h2,h3,h4⟩
theorem vars_of_trod {fuel:Nat} {cs:List Value} {x:DataW H×List MemPlace} (h:DataW.trod enc Tryz.prog W 0 (fun _=>true) true fuel 23 cs=some x) :
 ∃(cv:Value) (v:V) (l:List (Bs×Bs)),cs=[cv]/\VRel (frz W) v cv/\EV v l/\∃ad len cap,cv=.slice ad len cap:=by
 obtain⟨cv,v,l,h1,h2,h3,_,h5⟩:=qkw (F:=pairV) (Q:=fun _=>True) u23 c41 (by omega) (fun fuel cs x hx=>by
  obtain⟨fa,fb,hu,a1,a2,b1,b2⟩:=u41;obtain⟨y0,y1,n,_,hl,k0,k1⟩:=Go.ChangeShapes.trod_struct2 hu hx;rw[c41]at hl;rw[a1,a2,c9]at k0;rw[b1,b2,c9]at k1
  match cs,hl with
  | [w0,w1],_=>
   obtain⟨s0,q0,_,_⟩:=DataW.trod_string u9 k0;obtain⟨s1,q1,_,_⟩:=DataW.trod_string u9 k1;simp only[List.drop_zero,List.drop_succ_cons,List.take_succ_cons,List.take_zero,List.cons.injEq,and_true]at q0 q1;subst q0 q1;refine⟨(s0.data.toList,s1.data.toList),.agg #[.string s0,.string s1],?_,rfl,rfl,trivial⟩;unfold pairV qip;refine .agg rfl (fun i cv hcv=>?_) fun i v hv cv hcv=>?_
   . match i,hcv with
     | 0,h=>cases h; rfl
     | 1,h=>cases h; rfl
   . rw[Tr.get_ofList]at hv
     match i,hv,hcv with
     | 0,h,h'=>cases h; cases h'; exact .str s0
     | 1,h,h'=>cases h; cases h'; exact .str s1) h
 exact⟨cv,v,l,h1,h2,h3,h5⟩
theorem drv_of_trod {fuel:Nat} {cs:List Value} {x:DataW H×List MemPlace} (h:DataW.trod enc Tryz.prog W 0 (fun _=>true) true fuel 25 cs=some x) :
 ∃(A:Tr V) (d:DD),VRel (frz W) (.agg 4 A) (.agg cs.toArray)/\Raw A d:=by
 obtain⟨fa,fb,fc,fd,hu,a1,a2,b1,b2,d1,d2,e1,e2⟩:=u25;obtain⟨y0,y1,y2,y3,n,_,hl,k0,k1,k2,k3⟩:=Go.Joins.trod_struct4 hu h;rw[c25]at hl;rw[a1,a2,c9]at k0;rw[b1,b2,c22]at k1;rw[d1,d2,c23]at k2;rw[e1,e2,c9]at k3
 match cs,hl with
 | [w0,w1,w2,w3],_=>
  obtain⟨s0,q0,_,_⟩:=DataW.trod_string u9 k0;obtain⟨c1,v1,l1,q1,r1,t1,ad,len,cap,z1⟩:=texts_of_trod k1;obtain⟨c2,v2,l2,q2,r2,t2,ad2,len2,cap2,z2⟩:=vars_of_trod k2;obtain⟨s3,q3,_,_⟩:=DataW.trod_string u9 k3;simp only[List.drop_zero,List.drop_succ_cons,List.take_succ_cons,List.take_zero,List.cons.injEq,and_true]at q0 q1 q2 q3;subst q0 q1 q2 q3;refine⟨Tr.ofListFrom .nil [sv s0.data.toList,v1,v2,sv s3.data.toList] 0,⟨s0.data.toList,l1,l2,s3.data.toList⟩,?_,⟨by rw[Tr.get_ofList]; rfl,⟨v1,by rw[Tr.get_ofList]; rfl,t1⟩,⟨v2,by rw[Tr.get_ofList]; rfl,t2⟩,by rw[Tr.get_ofList]; rfl⟩⟩;refine .agg rfl (fun i cv hcv=>?_) fun i v hv cv hcv=>?_
  . match i,hcv with
    | 0,h=>cases h; rfl
    | 1,h=>cases h; rw[z1]; rfl
    | 2,h=>cases h; rw[z2]; rfl
    | 3,h=>cases h; rfl
  . rw[Tr.get_ofList]at hv
    match i,hv,hcv with
    | 0,h,h'=>cases h; cases h'; exact .str s0
    | 1,h,h'=>cases h; cases h'; exact r1
    | 2,h,h'=>cases h; cases h'; exact r2
    | 3,h,h'=>cases h; cases h'; exact .str s3
end
section
variable {S:St} {A:Tr V} {da:DD}
theorem rq3' {n:Nat} {args:List V} {s:St} {r:En×St} (e:qaq E0 (ev E0 KD n) qa1 Tryz.f3 B3 args s=some r):(ev E0 KD (n+1)).f 3 args s=some r:=qa6 (c:=C3) (d:=B3) (by kernel_rfl) (by kernel_rfl) (qa3 C3 _ (by kernel_rfl)) rfl e
theorem prints_run (hA:Raw A da) (ho:S.on=false) (m:Nat):∃U,(ev E0 KD (m+14)).f 3 [.agg 4 A] S=some (.ret (.bool true),U):=by
 suffices hmain:∃U,F3 (ev E0 KD (m+13)) qa1 (.agg 4 A) S=some (.ret (.bool true),U) by
  obtain⟨U,h⟩:=hmain;exact⟨U,rq3' h⟩
 obtain⟨a1,a2,a3⟩:=qc7 ho 25 4 A;have on1:=a2.on.trans ho;rw[F3_eq,show qjy 25 (.agg 4 A) S=some (.ptr S.next 0,(nwP 25 4 A S).2)from rfl,oB];dsimp only;generalize (nwP 25 4 A S).2=S1 at a1 a2 a3 on1;obtain⟨T1,vI1,vE1,S3,N1,c1,c2,c3,c4,on3,c6,c7⟩:=cut_run hA on1 (m+12);have n3:=c6.next
 have ga3:AgAt S3 S.next 25 4 A:=a1.grew (by omega) (fun h=>h) c6
 obtain⟨S4,d1,d2,d3,d4⟩:=ga3.stA on3 qdc T1;have on4:=d3.on.trans on3;rw[a1.ldA on1 qdc,oB];dsimp only;rw[show ev E0 KD (m+13)=ev E0 KD (m+12+1)from rfl,c1,callP_ret,d1,oB];dsimp only;have DA4:Dx S4 N1 T1 (cutD da) vI1 vE1:=(dx_cut on3 c2 c3 c4).grew d3 fun x hx _ e=>by omega
 generalize cutD da=a at DA4;obtain⟨S5,g1,g2⟩:=print_run DA4 (m+1);have n5:=g2.next
 have DA5:=DA4.grew g2 fun _ _ _ h=>h;have ga5:AgAt S5 S.next 25 4 T1:=d2.grew (by omega) (fun h=>h) g2
 obtain⟨S6,h1,h2⟩:=dprint_run refKD lgD DA5 (m+7);have n6:=h2.next
 have DA6:=DA5.grew h2 fun _ _ _ h=>h;have ga6:AgAt S6 S.next 25 4 T1:=ga5.grew (by omega) (fun h=>h) h2
 obtain⟨S7,i1,i2⟩:=path_run DA6 m;have n7:=i2.next
 have DA7:=DA6.grew i2 fun _ _ _ h=>h;have ga7:AgAt S7 S.next 25 4 T1:=ga6.grew (by omega) (fun h=>h) i2
 obtain⟨S8,j1,j2⟩:=dpathD_run DA7 (m+6);rw[d2.ldA on4 qdc,oB];dsimp only;have hx0:∀(x:Bs) (f:V->Rs),(qab (.tuple (if qje qf0 qb1 qhb a=true then [sv x,.int .i64 0]else [sv [],.int .i64 2])) 0).bind f=f (sv (if qje qf0 qb1 qhb a=true then x else [])):=fun x f=>by split<;>rfl
 have hx1:∀(x:Bs) (f:V->Rs),(qab (.tuple (if qje qf0 qb1 qhb a=true then [sv x,.int .i64 0]else [sv [],.int .i64 2])) 1).bind f=f (.int .i64 (if qje qf0 qb1 qhb a=true then 0 else 2)):=fun x f=>by split<;>rfl
 rw[show ev E0 KD (m+12+1)=ev E0 KD (m+1+12)from rfl,g1,callP_ret,hx0,hx1,ga5.ldA DA5.on qdc,oB];dsimp only;rw[show ev E0 KD (m+1+12)=ev E0 KD (m+7+6)from rfl,h1,callP_ret,hx0,hx1,ga6.ldA DA6.on qdc,oB];dsimp only;rw[show ev E0 KD (m+7+6)=ev E0 KD (m+13)from rfl,i1,callP_ret,hx0,hx1,ga7.ldA DA7.on qdc,oB];dsimp only;rw[show ev E0 KD (m+13)=ev E0 KD (m+6+7)from rfl,j1,callP_ret,hx0,hx1,eqStr,oB];have hw:∀U:St,(ev E0 KD (m+6+7)).f 10 [] U=some (.ret (.bool true),U):=fun U=>works_k (m+12) U;generalize (if qje qf0 qb1 qhb a=true then(0:Int)else 2)=e;have he:(decide (e=e))=true:=by simp
 simp only[beq_self_eq_true,qah,oB,cT,q27,eqStr,pickV_bool,decide_true,hw,callP_ret];exact⟨_,rfl⟩
theorem prints_calls (W:World) {v:Value} (hv:VRel (frz W) (.agg 4 A) v) (hA:Raw A da):Calls Tryz.prog 3 #[v] W fun e w'=>e=.returned (.bool true)/\Below W.heap.size W w':=by
 obtain⟨U,hl⟩:=prints_run (S:=s0) hA rfl 0;refine((ev_sim qlx okD (0+14)).call (base0 W) _ s0 W 3 [.agg 4 A] #[v] _ U (relF W) (.cons hv .nil) hl).mono fun ce w' hce=>?_;obtain⟨ρ',cv,rfl,_,hv,hR⟩:=hce;cases hv;exact⟨rfl,qkr hR⟩
end
end Go.Proofs.YtpgegoeghaplkaaGreatDoor.W
end
