/-
  WHAT THE FUNCTIONS COME TO: each is read by the evaluator,printed,and told as a function of data,part 5 of 15 (no condition).
-/
import Derived.Test.YtpgegoeghaplkaaGreatDoorW4
import Derived.Test.YtpgegoeghaplkaaGreatDoorProg
import Derived.KernelRfl
noncomputable section
namespace Go.Proofs.YtpgegoeghaplkaaGreatDoor.W
open Go.Proofs.YtpgegoeghaplkaaGreatDoor.Ev
set_option maxRecDepth 100000
noncomputable section
def C72:Code:=Tryz.f72.body.getD .skip
def B72:D:=(qak C72 [[],[],[],[],[0,1,2,3],[],[0,1,2],[],[],[0,1,2,3,14,15,16],[],[0,1,2,3],[],[],[],[0,1,2,3],[],[0,0,1,2,3],[0,1,2,3],[0,0,1,2,3],[0,1,2,3],[0,0,1,2],[0,1],[],[0,1,2,29,30,31],[],[0,1,2],[],[],[],[0,0,1,2],[0,1],[],[0,1,2,41],[],[0,1],[],[],[],[0,0,1],[0,1],[]]).1
def RL72:List Nat:=cellsOf Tryz.f72.results.toList
def R72_3 (self:EV) (N:Nat) (nk:Ac->St->Rs) (ek:Nat->Ac->St->Rs) (a:Ac) (S:St):Rs:=qa7 [0,1,2] a fun a=>dr E0 self RL72 N (B72.r.l.r.r).r (mkK E0 self Tryz.f72 nk ek) a S
def R72_4 (self:EV) (N:Nat) (nk:Ac->St->Rs) (ek:Nat->Ac->St->Rs) (a:Ac) (S:St):Rs:=qa7 [0,1,2] a fun a=>dr E0 self RL72 N (B72.r.l.r.r.r.l).r (mkK E0 self Tryz.f72 nk ek) a S
def R72_5 (self:EV) (N:Nat) (nk:Ac->St->Rs) (ek:Nat->Ac->St->Rs) (a:Ac) (S:St):Rs:=qa7 [0,1] a fun a=>dr E0 self RL72 N (B72.r.l.r.r.r.l.r.l).r (mkK E0 self Tryz.f72 nk ek) a S
theorem R72_5_eq (self:EV) (N:Nat) (nk:Ac->St->Rs) (ek:Nat->Ac->St->Rs) ( v0 v1:V) (S:St):R72_5 self N nk ek (fr 54 [(0,v0),(1,v1)]) S =
(ldA 8 v0 (onS S)).bind fun p6=>
(ldA 64 v1 (onS p6.2)).bind fun p7=>
(stP 8 v0 p6.1 (onS p7.2)).bind fun p8=>
(stP 64 v1 p7.1 (onS p8.2)).bind fun p9=>
qgb [(0,[1]),(1,[2])] S [p6.2.log,p7.2.log,p8.2.log,p9.2.log] p9.2 fun S10=>
(ldrA 8 v0 S10).bind fun p11=>
(ldrA 64 v1 p11.2).bind fun p12=>
some (.ret (.tuple [p11.1,p12.1]),p12.2):=by kernel_rfl
def L72_14 (self:EV) (N:Nat) (nk:Ac->St->Rs) (ek:Nat->Ac->St->Rs) (n:Nat) ( v0 v1 v2 v41:V) (S:St):Rs:=qb8 [0,1,2,41] (dr E0 self RL72 N (B72.r.l.r.r.r.l.r.l.l.r.l.l)) (mkK E0 self Tryz.f72 nk ek) n (fr 54 [(0,v0),(1,v1),(2,v2),(41,v41)]) S
theorem L72_14_eq (self:EV) (N:Nat) (nk:Ac->St->Rs) (ek:Nat->Ac->St->Rs) (n:Nat) ( v0 v1 v2 v41:V) (S:St):L72_14 self N nk ek (n+1) v0 v1 v2 v41 S =
(qa4 E0 .lss 3 false true v41 (.int .i64 8)).bind fun t15=>
ifK t15 (
(ixP 1 v2 v41).bind fun t21=>
(ld1 t21 S).bind fun p22=>
qaf (self.f 96 [p22.1,(.fn (.func 98) [] [])] p22.2) fun t23 S23=>
(ixA 8 1 false 1 v0 v41).bind fun t24=>
(stP 1 t24 t23 S23).bind fun p25=>
(qa4 E0 .add 3 false true v41 (.int .i64 1)).bind fun t26=>
L72_14 self N nk ek n v0 v1 v2 t26 p25.2) (
ek 6 (fr 54 [(0,v0),(1,v1)]) S):=by kernel_rfl
theorem R72_4_eq (self:EV) (N:Nat) (nk:Ac->St->Rs) (ek:Nat->Ac->St->Rs) ( v0 v1 v2:V) (S:St):R72_4 self N nk ek (fr 54 [(0,v0),(1,v1),(2,v2)]) S =
L72_14 self N (R72_5 self N (fun a s=>qa7 [0,1] a fun a=>nk a s) ek) (exB 6 (R72_5 self N (fun a s=>qa7 [0,1] a fun a=>nk a s) ek) ek) N v0 v1 v2 (.int .i64 0) S:=by kernel_rfl
def L72_31 (self:EV) (N:Nat) (nk:Ac->St->Rs) (ek:Nat->Ac->St->Rs) (n:Nat) ( v0 v1 v2 v29 v30 v31:V) (S:St):Rs:=qb8 [0,1,2,29,30,31] (dr E0 self RL72 N (B72.r.l.r.r.r.l.l.r.l.l)) (mkK E0 self Tryz.f72 nk ek) n (fr 54 [(0,v0),(1,v1),(2,v2),(29,v29),(30,v30),(31,v31)]) S
theorem L72_31_eq (self:EV) (N:Nat) (nk:Ac->St->Rs) (ek:Nat->Ac->St->Rs) (n:Nat) ( v0 v1 v2 v29 v30 v31:V) (S:St):L72_31 self N nk ek (n+1) v0 v1 v2 v29 v30 v31 S =
(qa4 E0 .lss 3 false false v31 v30).bind fun t32=>
ifK t32 (
(ixP 1 v29 v31).bind fun t34=>
(ld1 t34 S).bind fun p35=>
qaf (self.f 96 [p35.1,(.fn (.func 97) [] [])] p35.2) fun t40 S40=>
(ixA 64 1 false 1 v1 v31).bind fun t41=>
(stP 1 t41 t40 S40).bind fun p42=>
(qa4 E0 .add 3 false true v31 (.int .i64 1)).bind fun t43=>
L72_31 self N nk ek n v0 v1 v2 v29 v30 t43 p42.2) (
ek 4 (fr 54 [(0,v0),(1,v1),(2,v2)]) S):=by kernel_rfl
theorem R72_3_eq (self:EV) (N:Nat) (nk:Ac->St->Rs) (ek:Nat->Ac->St->Rs) ( v0 v1 v2:V) (S:St):R72_3 self N nk ek (fr 54 [(0,v0),(1,v1),(2,v2)]) S =
(lnS v2 S).bind fun p29=>
L72_31 self N (R72_4 self N (fun a s=>qa7 [0,1] a fun a=>nk a s) ek) (exB 4 (R72_4 self N (fun a s=>qa7 [0,1] a fun a=>nk a s) ek) ek) N v0 v1 v2 v2 p29.1 (.int .i64 0) p29.2:=by kernel_rfl
def qhq (self:EV) (N:Nat) (nk:Ac->St->Rs) (ek:Nat->Ac->St->Rs) (n:Nat):Ac->St->Rs:=fun a S=>qa7 [0,1,2,3] a fun a=>qb8 [0,1,2,3] (dr E0 self RL72 N (B72.r.l.r.r.l.r.l.l)) (mkK E0 self Tryz.f72 nk ek) n a S
def L72_46 (self:EV) (N:Nat) (nk:Ac->St->Rs) (ek:Nat->Ac->St->Rs) (n:Nat) ( v0 v1 v2 v3:V) (S:St):Rs:=qb8 [0,1,2,3] (dr E0 self RL72 N (B72.r.l.r.r.l.r.l.l)) (mkK E0 self Tryz.f72 nk ek) n (fr 54 [(0,v0),(1,v1),(2,v2),(3,v3)]) S
def qhr (self:EV) (N:Nat) (nk:Ac->St->Rs) (ek:Nat->Ac->St->Rs) (a:Ac) (S:St):Rs:=qa7 [0,1,2,3] a fun a=>dr E0 self RL72 N (B72.r.l.r.r.l.r.l.l.r).r (mkK E0 self Tryz.f72 nk ek) a S
theorem R72_50_eq (self:EV) (N:Nat) (nk:Ac->St->Rs) (ek:Nat->Ac->St->Rs) ( v0 v1 v2 v3:V) (S:St):qhr self N nk ek (fr 54 [(0,v0),(1,v1),(2,v2),(3,v3)]) S =
(qa4 E0 .add 108 false true v3 (.int .u64 1)).bind fun t52=>
nk (fr 54 [(0,v0),(1,v1),(2,v2),(3,t52)]) S:=by kernel_rfl
def R72_54 (self:EV) (N:Nat) (nk:Ac->St->Rs) (ek:Nat->Ac->St->Rs) (a:Ac) (S:St):Rs:=qa7 [0,1,2,3] a fun a=>dr E0 self RL72 N (B72.r.l.r.r.l.r.l.l.r.l.l).r (mkK E0 self Tryz.f72 nk ek) a S
theorem R72_54_eq (self:EV) (N:Nat) (nk:Ac->St->Rs) (ek:Nat->Ac->St->Rs) ( v0 v1 v2 v3:V) (S:St):R72_54 self N nk ek (fr 54 [(0,v0),(1,v1),(2,v2),(3,v3)]) S =
(bsP 108 1 1 (Ev.one (.int .u64 0)) [(0,v3)] S).bind fun p57=>
(apP 108 1 8 v2 p57.1 p57.2).bind fun p58=>
nk (fr 54 [(0,v0),(1,v1),(2,p58.1),(3,v3)]) p58.2:=by kernel_rfl
def L72_63 (self:EV) (N:Nat) (nk:Ac->St->Rs) (ek:Nat->Ac->St->Rs) (n:Nat) ( v0 v1 v2 v3 v14 v15 v16:V) (S:St):Rs:=qb8 [0,1,2,3,14,15,16] (dr E0 self RL72 N (B72.r.l.r.r.l.r.l.l.r.l.l.l.r.l.l)) (mkK E0 self Tryz.f72 nk ek) n (fr 54 [(0,v0),(1,v1),(2,v2),(3,v3),(14,v14),(15,v15),(16,v16)]) S
theorem L72_63_eq (self:EV) (N:Nat) (nk:Ac->St->Rs) (ek:Nat->Ac->St->Rs) (n:Nat) ( v0 v1 v2 v3 v14 v15 v16:V) (S:St):L72_63 self N nk ek (n+1) v0 v1 v2 v3 v14 v15 v16 S =
(qa4 E0 .lss 3 false false v16 v15).bind fun t64=>
ifK t64 (
(ixP 1 v14 v16).bind fun t65=>
(ld1 t65 S).bind fun p66=>
(qa4 E0 .rem 108 false false v3 p66.1).bind fun t70=>
(qa4 E0 .eql 108 false true t70 (.int .u64 0)).bind fun t71=>
ifK t71 (
ek 1 (fr 54 [(0,v0),(1,v1),(2,v2),(3,v3)]) p66.2) (
(qa4 E0 .add 3 false true v16 (.int .i64 1)).bind fun t72=>
L72_63 self N nk ek n v0 v1 v2 v3 v14 v15 t72 p66.2)) (
ek 2 (fr 54 [(0,v0),(1,v1),(2,v2),(3,v3)]) S):=by kernel_rfl
theorem qm0 (self:EV) (N:Nat) (nk:Ac->St->Rs) (ek:Nat->Ac->St->Rs) (n:Nat) ( v0 v1 v2 v3:V) (S:St):L72_46 self N nk ek (n+1) v0 v1 v2 v3 S =
(lnS v2 S).bind fun p48=>
(qa4 E0 .lss 3 false true p48.1 (.int .i64 64)).bind fun t49=>
ifK t49 (
(lnS v2 p48.2).bind fun p61=>
L72_63 self N (R72_54 self N (qhr self N (qhq self N nk ek n) ek) (exB 1 (qhr self N (qhq self N nk ek n) ek) ek)) (exB 2 (R72_54 self N (qhr self N (qhq self N nk ek n) ek) (exB 1 (qhr self N (qhq self N nk ek n) ek) ek)) (exB 1 (qhr self N (qhq self N nk ek n) ek) ek)) N v0 v1 v2 v3 v2 p61.1 (.int .i64 0) p61.2) (
ek 0 (fr 54 [(0,v0),(1,v1),(2,v2)]) p48.2):=by kernel_rfl
theorem N72_46_eq (self:EV) (N:Nat) (nk:Ac->St->Rs) (ek:Nat->Ac->St->Rs) (n:Nat) ( v0 v1 v2 v3:V) (S:St):qhq self N nk ek n (fr 54 [(0,v0),(1,v1),(2,v2),(3,v3)]) S=L72_46 self N nk ek n v0 v1 v2 v3 S:=by kernel_rfl
def F72 (self:EV) (N:Nat) (S:St):Rs:=qaq E0 self N Tryz.f72 B72 [] S
theorem F72_eq (self:EV) (N:Nat) (S:St):F72 self N S =
(some (nwP 88 8 (Tr.ofListFrom .nil [(.int .u32 0),(.int .u32 0),(.int .u32 0),(.int .u32 0),(.int .u32 0),(.int .u32 0),(.int .u32 0),(.int .u32 0)] 0) S)).bind fun p0=>
(some (nwP 89 64 (Tr.ofListFrom .nil z64q 0) p0.2)).bind fun p1=>
L72_46 self N (R72_3 self N (qat E0 self Tryz.f72) qad) (exB 0 (R72_3 self N (qat E0 self Tryz.f72) qad) qad) N p0.1 p1.1 .nilslice (.int .u64 2) p1.2:=by kernel_rfl
def C96:Code:=Tryz.f96.body.getD .skip
def B96:D:=(qak C96 [[],[],[0,1,5,6],[],[5],[],[],[],[0,5],[4],[]]).1
def RL96:List Nat:=cellsOf Tryz.f96.results.toList
def R96_3 (self:EV) (N:Nat) (nk:Ac->St->Rs) (ek:Nat->Ac->St->Rs) (a:Ac) (S:St):Rs:=qa7 [5] a fun a=>dr E0 self RL96 N (B96.r.r).r (mkK E0 self Tryz.f96 nk ek) a S
theorem R96_3_eq (self:EV) (N:Nat) (nk:Ac->St->Rs) (ek:Nat->Ac->St->Rs) ( v5:V) (S:St):R96_3 self N nk ek (fr 24 [(5,v5)]) S =
(cvI .u32 v5 S).bind fun p5=>
some (.ret p5.1,p5.2):=by kernel_rfl
def L96_7 (self:EV) (N:Nat) (nk:Ac->St->Rs) (ek:Nat->Ac->St->Rs) (n:Nat) ( v0 v1 v5 v6:V) (S:St):Rs:=qb8 [0,1,5,6] (dr E0 self RL96 N (B96.r.r.l.l.l)) (mkK E0 self Tryz.f96 nk ek) n (fr 24 [(0,v0),(1,v1),(5,v5),(6,v6)]) S
theorem L96_7_eq (self:EV) (N:Nat) (nk:Ac->St->Rs) (ek:Nat->Ac->St->Rs) (n:Nat) ( v0 v1 v5 v6:V) (S:St):L96_7 self N nk ek (n+1) v0 v1 v5 v6 S =
(qa4 E0 .sub 108 false false v6 v5).bind fun t10=>
(qa4 E0 .gtr 108 false true t10 (.int .u64 1)).bind fun t11=>
ifK t11 (
(qa4 E0 .add 108 false false v5 v6).bind fun t14=>
(qa4 E0 .quo 108 false true t14 (.int .u64 2)).bind fun t15=>
qaf (qc8 E0 self v1 [t15,v0] S) fun t20 S20=>
ifK t20 (
L96_7 self N nk ek n v0 v1 v5 t15 S20) (
L96_7 self N nk ek n v0 v1 t15 v6 S20)) (
ek 0 (fr 24 [(5,v5)]) S):=by kernel_rfl
def F96 (self:EV) (N:Nat) (x0 x1:V) (S:St):Rs:=qaq E0 self N Tryz.f96 B96 [x0,x1] S
theorem F96_eq (self:EV) (N:Nat) (x0 x1:V) (S:St):F96 self N x0 x1 S =
L96_7 self N (R96_3 self N (qat E0 self Tryz.f96) qad) (exB 0 (R96_3 self N (qat E0 self Tryz.f96) qad) qad) N x0 x1 (.int .u64 0) (.int .u64 68719476736) S:=by kernel_rfl
end
end Go.Proofs.YtpgegoeghaplkaaGreatDoor.W
namespace Go.Proofs.YtpgegoeghaplkaaGreatDoor.W
open Go.Proofs.YtpgegoeghaplkaaGreatDoor.Ev Go.RowKit
def rootF (ab:Nat->Nat->Bool) (p:Nat):Nat->Nat->Nat->Nat
 | 0,lo,_=>lo
 | k+1,lo,hi=>if 1<hi-lo then(if ab ((lo+hi)/2) p then rootF ab p k lo ((lo+hi)/2)else rootF ab p k ((lo+hi)/2) hi)else lo
theorem subU {a b:Nat} (h:b<=a) (ha:a<18446744073709551616) (c d:Bool):qa4 E0 .sub 108 c d (.int .u64 (a:Int)) (.int .u64 (b:Int))=some (.int .u64 ((a-b:Nat):Int)):=by
 rw[binV_ii,intsV_sub,show((a:Int)-(b:Int))=((a-b:Nat):Int) by omega,wrap_u64 (by omega) (by omega)]
theorem addU {a b:Nat} (h:a+b<18446744073709551616) (c d:Bool):qa4 E0 .add 108 c d (.int .u64 (a:Int)) (.int .u64 (b:Int))=some (.int .u64 ((a+b:Nat):Int)):=by
 rw[binV_ii,intsV_add,show((a:Int)+(b:Int))=((a+b:Nat):Int) by omega,wrap_u64 (by omega) (by omega)]
theorem gtrU (a b:Nat) (c d:Bool):qa4 E0 .gtr 108 c d (.int .u64 (a:Int)) (.int .u64 (b:Int))=some (.bool (decide (b<a))):=by
 rw[binV_ii,intsV_gtr]; congr 2; simp
theorem halfU {a:Nat} (ha:a<18446744073709551616):qa4 E0 .quo 108 false true (.int .u64 (a:Int)) (.int .u64 2)=some (.int .u64 ((a/2:Nat):Int)):=by
 rw[binV_ii,qj7 _ _ _ (by decide),show(a:Int).tdiv 2=((a/2:Nat):Int) by rw[Int.tdiv_eq_ediv_of_nonneg (by omega)]; omega,wrap_u64 (by omega) (by omega)]
section
variable {S T U:St}
theorem qm1 {self:EV} {N:Nat} (nk:Ac->St->Rs) (ek:Nat->Ac->St->Rs) {v1:V} (ab:Nat->Nat->Bool) (p:Nat) (hf:∀x:Nat,x<=68719476736->qc8 E0 self v1 [.int .u64 (x:Int),.int .u64 (p:Int)] S=some (.ret (.bool (ab x p)),S)) :
 ∀(k lo hi q:Nat),k<q->lo<hi->hi-lo<=2^k->hi<=68719476736->
 L96_7 self N nk ek q (.int .u64 (p:Int)) v1 (.int .u64 (lo:Int)) (.int .u64 (hi:Int)) S=ek 0 (fr 24 [(5,.int .u64 (rootF ab p k lo hi:Int))]) S
 | _,_,_,0,hq,_,_,_=>by omega
 | 0,lo,hi,q+1,hq,hl,hk,hh=>by
  rw[L96_7_eq,subU (by omega) (by omega),oB,show V.int .u64 1=.int .u64 ((1:Nat):Int)from rfl,gtrU,dF (by omega),oB,ifK_bool,cF];rfl
 | k+1,lo,hi,q+1,hq,hl,hk,hh=>by
  have hp:2^(k+1)=2*2^k:=by rw[Nat.pow_succ]; omega
  rw[L96_7_eq,subU (by omega) (by omega),oB,show V.int .u64 1=.int .u64 ((1:Nat):Int)from rfl,gtrU];unfold rootF;by_cases h1:1<hi-lo
  . rw[dT h1,oB,ifK_bool,cT,addU (by omega),oB,halfU (by omega),oB,hf _ (by omega),callP_ret,ifK_bool,iP h1]
    cases ab ((lo+hi)/2) p with
    | true=>rw[cT,iP rfl]; exact qm1 nk ek ab p hf k lo _ q (by omega) (by omega) (by omega) (by omega)
    | false=>rw[cF,iN (by simp)]; exact qm1 nk ek ab p hf k _ hi q (by omega) (by omega) (by omega) (by omega)
  . rw[dF h1,oB,ifK_bool,cF,iN h1]
def rootC (ab:Nat->Nat->Bool) (p:Nat):Int:=IntKind.u32.wrap (rootF ab p 36 0 68719476736:Int)
theorem f80_run {K:FuncId->Option KF} (hK:K 96=none) {f:FuncId} (hx:E0.ext.get f=none) (hb:qb5 E0 f=true) (m:Nat) (ab:Nat->Nat->Bool) (p:Nat) (hf:∀x:Nat,x<=68719476736->(ev E0 K m).f f [.int .u64 (x:Int),.int .u64 (p:Int)] S=some (.ret (.bool (ab x p)),S)) :
 (ev E0 K (m+1)).f 96 [.int .u64 (p:Int),.fn (.func f) [] []] S=some (.ret (.int .u32 (rootC ab p)),S):=by
 refine qa6 (K:=K) (fn:=Tryz.f96) (c:=C96) (d:=B96) (by kernel_rfl) (by kernel_rfl) (qa3 C96 _ (by kernel_rfl)) hK ?_;show F96 (ev E0 K m) qa1 (.int .u64 (p:Int)) (.fn (.func f) [] []) S=_;rw[F96_eq,show V.int .u64 0=.int .u64 ((0:Nat):Int)from rfl,show V.int .u64 68719476736=.int .u64 ((68719476736:Nat):Int)from rfl];rw[qm1 (S:=S) _ _ ab p (fun x hxx=>(qbm hx hb [] [] _ S).trans (hf x hxx)) 36 0 68719476736 qa1 (by unfold qa1; omega) (by omega) (by decide) (by omega),exB_same,R96_3_eq,cvI_int,oB];rfl
def numC (p:Nat):Tr V:=Ev.one (.int .u64 (p:Int))
def PL (S:St) (v:V) (L:List Nat) (N:Nat):Prop:=(L=[]/\v=.nilslice)\/(L≠[]/\∃r,v=.oslice r 0 L.length 1/\RowAt S r 108 1 (L.map numC)/\r<S.next/\N<=r)
theorem PL.len {v:V} {L:List Nat} {N:Nat} (h:PL S v L N) (U:St):lnS v U=some (.int .i64 (L.length:Int),U):=by
 rcases h with⟨rfl,rfl⟩|⟨_,r,rfl,_⟩
 . rfl
 . exact qjc (fun _ _ e=>by cases e) rfl
theorem PL.grew {W:Nat->Prop} {v:V} {L:List Nat} {N:Nat} (h:PL S v L N) (g:Grew W S T) (hw:∀x,N<=x->x<S.next->¬W x):PL T v L N:=by
 rcases h with h|⟨h0,r,h1,h2,h3,h4⟩
 . exact .inl h
 . exact .inr ⟨h0,r,h1,h2.grew h3 (hw r h4 h3) g,Nat.lt_of_lt_of_le h3 g.next,h4⟩
theorem ixP_os1 (r n i:Nat) (h:i<n):ixP 1 (.oslice r 0 n 1) (.int .i64 (i:Int))=some (.ptr r i):=by
 show(bif Nat.blt i n then some (V.ptr r (0+i*1))else none)=_;rw[blt_true.2 h,cT,Nat.zero_add,Nat.mul_one]
theorem PL.at {v:V} {L:List Nat} {N:Nat} (h:PL S v L N) (ho:S.on=false) {i:Nat} (hi:i<L.length):∃q,ixP 1 v (.int .i64 (i:Int))=some q/\ld1 q S=some (.int .u64 (L[i]:Int),S):=by
 rcases h with⟨rfl,_⟩|⟨_,r,rfl,h2,h3,h4⟩
 . simp at hi
 . refine⟨_,ixP_os1 r _ i hi,?_⟩
   have hx:(L.map numC)[i]?=some (numC L[i]):=by rw[List.getElem?_map,List.getElem?_eq_getElem hi]; rfl
   exact h2.ld1 ho hx
theorem bsU (ho:S.on=false) (p:Nat):∃t,bsP 108 1 1 (Ev.one (.int .u64 0)) [(0,.int .u64 (p:Int))] S=some (.slice S.next 0 1 1,t)/\RowAt t S.next 108 1 [numC p]/\Grew (fun _=>False) S t/\t.next=S.next+1:=by
 refine⟨nw S (.cells 108 1 1 false ((Tr.tab 1 1 fun _=>Ev.one (.int .u64 0)).set (numC p) 0)),?_,?_,qca ho _ _,rfl⟩
 . unfold bsP qgd qgd
   simp only[V.size,qam,Nat.beq_refl,nF,Bool.and_true,show Nat.blt 0 1=true from rfl,cT,Tr.setC_eq,oB];rfl
 . refine qe8 ho (by omega) rfl (by unfold big; omega) fun i t h=>?_
   rw[Tr.get_set];cases i with
   | zero=>simpa using h
   | succ i=>simp at h
theorem PL.push {v:V} {L:List Nat} {N:Nat} (h:PL S v L N) (ho:S.on=false) (hN:N<=S.next) (hl:L.length<1000) (p:Nat):∃y W v' U,bsP 108 1 1 (Ev.one (.int .u64 0)) [(0,.int .u64 (p:Int))] S=some (y,W)/\apP 108 1 8 v y W=some (v',U)/\PL U v' (L++[p]) N/\Grew (fun x=>N<=x) S U:=by
 obtain⟨W,h1,h2,h3,h4⟩:=bsU ho p;have on1:=h3.on.trans ho;rcases h with⟨rfl,rfl⟩|⟨hne,r,rfl,hr,hr2,hr3⟩
 . obtain⟨U,k1,k2,k3,k4⟩:=ap1_first (B:=8) on1 h2 (by unfold qac; omega)
   exact⟨_,W,_,U,h1,k1,.inr ⟨by simp,W.next,rfl,k2,by omega,by omega⟩,(h3.trans k3).mono fun _ _ h=>h.elim⟩
 . have hrow:=hr.grew hr2 (fun h=>h) h3
   obtain⟨U,k1,k2,k3,k4⟩:=ap1_more (B:=8) on1 h2 hrow (by rw[lM]; unfold qac; omega) (by rw[lM]; unfold big; omega);rw[lM]at k1;refine⟨_,W,_,U,h1,k1,.inr ⟨by simp,W.next,by rw[lAq]; rfl,by rw[List.map_append]; exact k2,by omega,by omega⟩,(h3.mono fun _ _ h=>h.elim).trans (k3.mono fun x _ e=>by subst e; exact hr3)⟩
theorem lssK (a b:Nat) (d:Bool):qa4 E0 .lss 3 false d (.int .i64 (a:Int)) (.int .i64 (b:Int))=some (.bool (decide (a<b))):=by
 rw[binV_ii,intsV_lss]; congr 2; simp
theorem succK {i:Nat} (h:i<100000):qa4 E0 .add 3 false true (.int .i64 (i:Int)) (.int .i64 1)=some (.int .i64 ((i+1:Nat):Int)):=by
 rw[binV_ii,intsV_add,show((i:Int)+1)=((i+1:Nat):Int) by omega,qbg (by omega) (by omega)]
theorem remU {a b:Nat} (h:b≠0):qa4 E0 .rem 108 false false (.int .u64 (a:Int)) (.int .u64 (b:Int))=some (.int .u64 ((a%b:Nat):Int)):=by
 rw[binV_ii,qgt _ _ _ (by omega),Int.tmod_eq_emod_of_nonneg (by omega)]
 congr 2
theorem eqlU0 (a:Nat):qa4 E0 .eql 108 false true (.int .u64 (a:Int)) (.int .u64 0)=some (.bool (decide (a=0))):=by
 rw[binV_ii,intsV_eql]; congr 2; simp
theorem L63c_spec {self:EV} {N M:Nat} {v0 v1 v2 v14:V} {L:List Nat} (nk:Ac->St->Rs) (ek:Nat->Ac->St->Rs) (ho:S.on=false) (hP:PL S v14 L M) (hl:L.length<1000) (h0:∀p∈L,p≠0) (x:Nat) :
 ∀(r:List Nat) (i q:Nat),L.drop i=r->r.length<q->
 L72_63 self N nk ek q v0 v1 v2 (.int .u64 (x:Int)) v14 (.int .i64 (L.length:Int)) (.int .i64 (i:Int)) S=ek (if r.any (fun p=>decide (x%p=0))then 1 else 2) (fr 54 [(0,v0),(1,v1),(2,v2),(3,.int .u64 (x:Int))]) S
 | _,_,0,_,hq=>by omega
 | [],i,q+1,hi,_=>by
  rw[L72_63_eq,lssK,dF (Nat.not_lt.2 (qau hi)),oB,ifK_bool,cF];rfl
 | p::r,i,q+1,hi,hq=>by
  obtain⟨hlt,hp,hr,hmem⟩:=qba hi;obtain⟨a,a1,a2⟩:=hP.at ho hlt;have ih:=L63c_spec (self:=self) (N:=N) (v0:=v0) (v1:=v1) (v2:=v2) nk ek ho hP hl h0 x r (i+1) q hr (by simpa using hq);rw[L72_63_eq,lssK,dT hlt,oB,ifK_bool,cT,a1,oB,a2,oB];dsimp only;rw[hp,remU (h0 p hmem),oB,eqlU0,oB,ifK_bool,List.any_cons];by_cases e:x%p=0
  . rw[dT e,cT,Bool.true_or,iP rfl]
  . rw[dF e,cF,Bool.false_or,succK (by omega),oB,ih]
def qev:Nat->Nat->List Nat->List Nat
 | 0,_,L=>L
 | k+1,x,L=>if L.length<64 then qev k (x+1) (if L.any (fun p=>decide (x%p=0))then L else L++[x])else L
theorem qlz {self:EV} {N M:Nat} (hN:1000<N) {v0 v1:V} (nk:Ac->St->Rs) (ek:Nat->Ac->St->Rs) :
 ∀(k x q:Nat) (L:List Nat) (v:V) (S:St),k<q->S.on=false->PL S v L M->M<=S.next->(∀p∈L,p≠0)->x≠0->x+k<100000->L.length<=64->64<=(qev k x L).length->
 ∃v' U,L72_46 self N nk ek q v0 v1 v (.int .u64 (x:Int)) S=ek 0 (fr 54 [(0,v0),(1,v1),(2,v')]) U/\PL U v' (qev k x L) M/\Grew (fun b=>M<=b) S U
 | _,_,0,_,_,_,hq,_,_,_,_,_,_,_,_=>by omega
 | 0,x,q+1,L,v,S,hq,ho,hP,hM,h0,hx,hxk,hL,h64=>by
  refine⟨v,S,?_,hP,Grew.refl _ _⟩;rw[qm0,hP.len,oB];dsimp only;rw[show V.int .i64 64=.int .i64 ((64:Nat):Int)from rfl,lssK,dF (by unfold qev at h64; omega),oB,ifK_bool,cF]
 | k+1,x,q+1,L,v,S,hq,ho,hP,hM,h0,hx,hxk,hL,h64=>by
  unfold qev at h64 ⊢;by_cases hl:L.length<64
  . rw[iP hl]at h64 ⊢
    have hh:∀e,e=1\/e=2->L72_46 self N nk ek (q+1) v0 v1 v (.int .u64 (x:Int)) S=exB 2 (R72_54 self N (qhr self N (qhq self N nk ek q) ek) (exB 1 (qhr self N (qhq self N nk ek q) ek) ek)) (exB 1 (qhr self N (qhq self N nk ek q) ek) ek) (if L.any (fun p=>decide (x%p=0))then 1 else 2) (fr 54 [(0,v0),(1,v1),(2,v),(3,.int .u64 (x:Int))]) S:=fun e he=>by
     rw[qm0,hP.len,oB];dsimp only;rw[show V.int .i64 64=.int .i64 ((64:Nat):Int)from rfl,lssK,dT hl,oB,ifK_bool,cT,hP.len,oB];dsimp only;rw[show V.int .i64 0=.int .i64 ((0:Nat):Int)from rfl,L63c_spec _ _ ho hP (by omega) h0 x L 0 N rfl (by omega)]
    have hh:=hh 1 (.inl rfl);by_cases hd:L.any (fun p=>decide (x%p=0))=true
    . rw[iP hd]at h64 hh ⊢
      obtain⟨v',U,t1,t2,t3⟩:=qlz (self:=self) hN (v0:=v0) (v1:=v1) nk ek k (x+1) q L v S (by omega) ho hP hM h0 (by omega) (by omega) hL h64;refine⟨v',U,hh.trans ?_,t2,t3⟩;show exB 1 (qhr self N (qhq self N nk ek q) ek) ek 1 _ S=_;rw[exB_same,R72_50_eq,show V.int .u64 1=.int .u64 ((1:Nat):Int)from rfl,addU (by omega),oB,N72_46_eq,t1]
    . rw[iN hd]at h64 hh ⊢
      obtain⟨y,W,v1',U1,a1,a2,a3,a4⟩:=hP.push ho hM (by omega) x;have n1:=a4.next
      obtain⟨v',U,t1,t2,t3⟩:=qlz (self:=self) hN (v0:=v0) (v1:=v1) nk ek k (x+1) q (L++[x]) v1' U1 (by omega) (a4.on.trans ho) a3 (by omega) (fun p hp=>by
       rcases List.mem_append.1 hp with h|h
       . exact h0 p h
       . rw[List.mem_singleton.1 h]; exact hx) (by omega) (by omega) (by rw[lAq,List.length_singleton]; omega) h64
      refine⟨v',U,hh.trans ?_,t2,a4.trans t3⟩;rw[exB_same,R72_54_eq,a1,oB];dsimp only;rw[a2,oB];dsimp only;rw[R72_50_eq,show V.int .u64 1=.int .u64 ((1:Nat):Int)from rfl,addU (by omega),oB,N72_46_eq,t1]
  . rw[iN hl]at h64 ⊢
    refine⟨v,S,?_,hP,Grew.refl _ _⟩;rw[qm0,hP.len,oB];dsimp only;rw[show V.int .i64 64=.int .i64 ((64:Nat):Int)from rfl,lssK,dF hl,oB,ifK_bool,cF]
def qg9 (g:Nat->Int):List Nat->Nat->Tr V->Tr V
 | [],_,t=>t
 | p::r,i,t=>qg9 g r (i+1) (t.set (.int .u32 (g p)) i)
theorem qi7 (g:Nat->Int):∀(r:List Nat) (i:Nat) (t:Tr V),(∀(j:Nat) v,t.get j=some v->∃n:Int,v=.int .u32 n)->∀(j:Nat) v,(qg9 g r i t).get j=some v->∃n:Int,v=.int .u32 n
 | [],_,_,h,j,v,hj=>h j v hj
 | p::r,i,t,h,j,v,hj=>qi7 g r (i+1) _ (fun k w hk=>by
  rw[Tr.get_set]at hk;by_cases e:k=i
  . rw[iP e]at hk; cases hk; exact⟨_,rfl⟩
  . rw[iN e]at hk; exact h k w hk) j v hj
theorem ixA_k {z b i:Nat} (h:i<z):ixA z 1 false 1 (.ptr b 0) (.int .i64 (i:Int))=some (.ptr b i):=by
 show(bif Nat.blt i z then some (V.ptr b (0+i*1))else none)=_;rw[blt_true.2 h,cT,Nat.zero_add,Nat.mul_one]
theorem L31c_spec {self:EV} {N M b:Nat} {v0 v2 v29:V} {L:List Nat} {g:Nat->Int} (hf:∀p∈L,∀S,self.f 96 [.int .u64 (p:Int),.fn (.func 97) [] []] S=some (.ret (.int .u32 (g p)),S)) (hL:L.length<=64) (hb:b<M) (nk:Ac->St->Rs) (ek:Nat->Ac->St->Rs) :
 ∀(r:List Nat) (i q:Nat) (t:Tr V) (S:St),L.drop i=r->r.length<q->S.on=false->PL S v29 L M->AgAt S b 89 64 t->
 ∃U,L72_31 self N nk ek q v0 (.ptr b 0) v2 v29 (.int .i64 (L.length:Int)) (.int .i64 (i:Int)) S=ek 4 (fr 54 [(0,v0),(1,.ptr b 0),(2,v2)]) U/\AgAt U b 89 64 (qg9 g r i t)/\Grew (fun x=>x=b) S U/\U.next=S.next
 | _,_,0,_,_,_,hq,_,_,_=>by omega
 | [],i,q+1,t,S,hi,_,ho,hP,hA=>by
  refine⟨S,?_,hA,Grew.refl _ _,rfl⟩;rw[L72_31_eq,lssK,dF (Nat.not_lt.2 (qau hi)),oB,ifK_bool,cF]
 | p::r,i,q+1,t,S,hi,hq,ho,hP,hA=>by
  obtain⟨hlt,hp,hr,hmem⟩:=qba hi;obtain⟨a,a1,a2⟩:=hP.at ho hlt;obtain⟨W,b1,b2,b3,b4⟩:=hA.st1 ho (by unfold big; decide) (by decide) (i:=i) (by omega) (.int .u32 (g p)) rfl rfl rfl;obtain⟨U,t1,t2,t3,t4⟩:=L31c_spec (self:=self) (N:=N) (v0:=v0) (v2:=v2) hf hL hb nk ek r (i+1) q _ W hr (by simpa using hq) (b3.on.trans ho) (hP.grew b3 fun x hx _ e=>by omega) b2;refine⟨U,?_,t2,b3.trans t3,by omega⟩;rw[L72_31_eq,lssK,dT hlt,oB,ifK_bool,cT,a1,oB,a2,oB];dsimp only;rw[hp,hf p hmem,callP_ret,ixA_k (by omega),oB,b1,oB,succK (by omega),oB,t1]
theorem L14c_spec {self:EV} {N M b:Nat} {v1 v2:V} {L:List Nat} {g:Nat->Int} (hf:∀p∈L,∀S,self.f 96 [.int .u64 (p:Int),.fn (.func 98) [] []] S=some (.ret (.int .u32 (g p)),S)) (hL:8<=L.length) (hb:b<M) (nk:Ac->St->Rs) (ek:Nat->Ac->St->Rs) :
 ∀(r:List Nat) (i q:Nat) (t:Tr V) (S:St),(L.take 8).drop i=r->r.length<q->S.on=false->PL S v2 L M->AgAt S b 88 8 t->
 ∃U,L72_14 self N nk ek q (.ptr b 0) v1 v2 (.int .i64 (i:Int)) S=ek 6 (fr 54 [(0,.ptr b 0),(1,v1)]) U/\AgAt U b 88 8 (qg9 g r i t)/\Grew (fun x=>x=b) S U/\U.next=S.next
 | _,_,0,_,_,_,hq,_,_,_=>by omega
 | [],i,q+1,t,S,hi,_,ho,hP,hA=>by
  refine⟨S,?_,hA,Grew.refl _ _,rfl⟩;have:=qau hi;rw[List.length_take]at this;rw[L72_14_eq,show V.int .i64 8=.int .i64 ((8:Nat):Int)from rfl,lssK,dF (by omega),oB,ifK_bool,cF]
 | p::r,i,q+1,t,S,hi,hq,ho,hP,hA=>by
  obtain⟨hlt0,hp,hr,hmem⟩:=qba hi;have hlt:i<8/\i<L.length:=by rw[List.length_take]at hlt0; omega
  rw[List.getElem_take]at hp;obtain⟨a,a1,a2⟩:=hP.at ho hlt.2;obtain⟨W,b1,b2,b3,b4⟩:=hA.st1 ho (by unfold big; decide) (by decide) (i:=i) (by omega) (.int .u32 (g p)) rfl rfl rfl;obtain⟨U,t1,t2,t3,t4⟩:=L14c_spec (self:=self) (N:=N) (v1:=v1) hf hL hb nk ek r (i+1) q _ W hr (by simpa using hq) (b3.on.trans ho) (hP.grew b3 fun x hx _ e=>by omega) b2;refine⟨U,?_,t2,b3.trans t3,by omega⟩;rw[L72_14_eq,show V.int .i64 8=.int .i64 ((8:Nat):Int)from rfl,lssK,dT hlt.1,oB,ifK_bool,cT,a1,oB,a2,oB];dsimp only;rw[hp,hf p (List.mem_of_mem_take hmem),callP_ret,ixA_k (by omega),oB,b1,oB,succK (by omega),oB,t1]
theorem ag_ldOn {b e z:Nat} {t:Tr V} (h:AgAt S b e z t) (hz:z<big):Ev.ldA z (.ptr b 0) (S.lg [])=some (.agg z t,S.lg [⟨b,0,z,false⟩]):=by
 obtain⟨c,h1,h2⟩:=h;show((ldK (S.lg []) b 0 z).bind fun p=>some (V.agg z p.1,p.2))=_;unfold ldK;rw[show(S.lg []).heap=S.heap from rfl,h1];simp only[ble_true.2 (show 0+z<=z*1 by omega),blt_true.2 (show z*1<big by omega),Bool.and_self,cT];unfold qf3;rw[show Nat.beq z z=true from beq_true.2 rfl,Nat.zero_mod,show Nat.beq 0 0=true from rfl];simp only[Bool.and_self,cT,Nat.zero_div,h2,oB,Nat.zero_add];rfl
theorem ag_stOn {b e z:Nat} {t:Tr V} (ho:S.on=false) (h:AgAt S b e z t) (hz:z<big):∃w,Ev.stP z (.ptr b 0) (.agg z t) (S.lg [])=some (.tuple [],w.lg [⟨b,0,z,true⟩])/\AgAt w b e z t/\Grew (fun x=>x=b) S w/\w.next=S.next:=by
 obtain⟨c,h1,h2⟩:=h;refine⟨S.put b (.cells e z 1 false (c.set t 0)),?_,⟨c.set t 0,by rw[qc0,iP rfl],by rw[Tr.get_set,iP rfl]⟩,qd8 b _,rfl⟩;show vu (bif Nat.beq z z&&!false then stK (S.lg []) b 0 z t else none)=_;rw[show Nat.beq z z=true from beq_true.2 rfl];simp only[nF,Bool.and_self,cT];unfold stK;rw[show(S.lg []).heap=S.heap from rfl,h1];simp only[ble_true.2 (show 0+z<=z*1 by omega),blt_true.2 (show z*1<big by omega),Bool.and_self,nF,cT];unfold qer;rw[show Nat.beq z z=true from beq_true.2 rfl,Nat.zero_mod,show Nat.beq 0 0=true from rfl];simp only[Bool.and_self,cT,Nat.zero_div,Tr.setC_eq,oB,Nat.zero_add];rfl
def P52:List Nat:=qev 400 2 []
theorem p52_len:P52.length=64:=by decide +kernel
def qef (x p:Nat):Bool:=qnt (x*x/18446744073709551616) p (x*x%18446744073709551616)
def z32 (n:Nat):Tr V:=Tr.ofListFrom .nil (List.replicate n (.int .u32 0)) 0
def tA:Tr V:=qg9 (rootC qef) (P52.take 8) 0 (z32 8)
def tB:Tr V:=qg9 (rootC qiy) P52 0 (z32 64)
theorem z32_only (n:Nat):∀(j:Nat) v,(z32 n).get j=some v->∃k:Int,v=.int .u32 k:=fun j v h=>by
 unfold z32 at h;rw[Tr.get_ofList,List.getElem?_replicate]at h;split at h
 . cases h; exact⟨0,rfl⟩
 . cases h
theorem tA_only:∀(j:Nat) v,tA.get j=some v->∃k:Int,v=.int .u32 k:=qi7 _ _ _ _ (z32_only 8)
theorem tB_only:∀(j:Nat) v,tB.get j=some v->∃k:Int,v=.int .u32 k:=qi7 _ _ _ _ (z32_only 64)
theorem ex81:E0.ext.get 97=none:=by kernel_rfl
theorem ex82:E0.ext.get 98=none:=by kernel_rfl
theorem hb81:qb5 E0 97=true:=by kernel_rfl
theorem hb82:qb5 E0 98=true:=by kernel_rfl
theorem blt_u64 {x:Nat} (h:x<=68719476736):Nat.blt x 18446744073709551616=true:=blt_true.2 (by omega)
theorem cube_run {K:FuncId->Option KF} (k81:K 97=some kfCube) (m x p:Nat) (h:x<=68719476736) (S:St):(ev E0 K (m+1)).f 97 [.int .u64 (x:Int),.int .u64 (p:Int)] S=some (.ret (.bool (qiy x p)),S):=by
 rw[qc9 k81];show(bif Nat.blt x 18446744073709551616 then some (En.ret (.bool (qiy x p)),S)else none)=_;rw[blt_u64 h,cT]
theorem square_run {K:FuncId->Option KF} (k82:K 98=some kfSquare) (m x p:Nat) (h:x<=68719476736) (S:St):(ev E0 K (m+1)).f 98 [.int .u64 (x:Int),.int .u64 (p:Int)] S=some (.ret (.bool (qef x p)),S):=by
 rw[qc9 k82];show(bif Nat.blt x 18446744073709551616 then some (En.ret (.bool (qef x p)),S)else none)=_;rw[blt_u64 h,cT]
set_option maxHeartbeats 1000000 in
theorem f52_gen {self:EV} {gA gB:Nat->Int} (hgA:∀(p:Nat) S,self.f 96 [.int .u64 (p:Int),.fn (.func 98) [] []] S=some (.ret (.int .u32 (gA p)),S)) (hgB:∀(p:Nat) S,self.f 96 [.int .u64 (p:Int),.fn (.func 97) [] []] S=some (.ret (.int .u32 (gB p)),S)) {k:Nat} {P:List Nat} (hk:k<=1000) (hP:qev k 2 []=P) (hl:P.length=64) (ho:S.on=false) :
 ∃U,qaq E0 self qa1 Tryz.f72 B72 [] S=some (.ret (.tuple [.agg 8 (qg9 gA (P.take 8) 0 (z32 8)),.agg 64 (qg9 gB P 0 (z32 64))]),U)/\Grew (fun _=>False) S U:=by
 generalize htA:qg9 gA (P.take 8) 0 (z32 8)=tA;generalize htB:qg9 gB P 0 (z32 64)=tB;obtain⟨a1,a2,a3⟩:=qc7 ho 88 8 (z32 8)
 have h0:F72 self qa1 S=L72_46 self qa1 (R72_3 self qa1 (qat E0 self Tryz.f72) qad) (exB 0 (R72_3 self qa1 (qat E0 self Tryz.f72) qad) qad) qa1 (.ptr S.next 0) (.ptr (nwP 88 8 (z32 8) S).2.next 0) .nilslice (.int .u64 2) (nwP 89 64 (z32 64) (nwP 88 8 (z32 8) S).2).2:=by
  rw[F72_eq];rfl
 generalize (nwP 88 8 (z32 8) S).2=S1 at a1 a2 a3 h0;have on1:=a2.on.trans ho;obtain⟨b1,b2,b3⟩:=qc7 on1 89 64 (z32 64);generalize (nwP 89 64 (z32 64) S1).2=S2 at b1 b2 b3 h0;have on2:=b2.on.trans on1;have hA2:AgAt S2 S.next 88 8 (z32 8):=a1.grew (by omega) (fun h=>h) b2
 obtain⟨v,S3,c1,c2,c3⟩:=qlz (self:=self) (N:=qa1) (M:=S2.next) (by unfold qa1; omega) (v0:=.ptr S.next 0) (v1:=.ptr S1.next 0) (R72_3 self qa1 (qat E0 self Tryz.f72) qad) (exB 0 (R72_3 self qa1 (qat E0 self Tryz.f72) qad) qad) k 2 qa1 [] .nilslice S2 (by unfold qa1; omega) on2 (.inl ⟨rfl,rfl⟩) (lR _) (fun p hp=>by cases hp) (by omega) (by omega) (by simp) (by rw[hP,hl]; exact lR _);have c2':PL S3 v P S2.next:=hP▸c2
 have on3:=c3.on.trans on2;have n3:=c3.next
 have hA3:AgAt S3 S.next 88 8 (z32 8):=hA2.grew (by omega) (by omega) c3
 have hB3:AgAt S3 S1.next 89 64 (z32 64):=b1.grew (by omega) (by omega) c3
 obtain⟨S4,d1,d2,d3,d4⟩:=L31c_spec (self:=self) (N:=qa1) (M:=S2.next) (b:=S1.next) (v0:=.ptr S.next 0) (v2:=v) (v29:=v) (L:=P) (g:=gB) (fun p _ S=>hgB p S) (by rw[hl]; exact lR _) (by omega) (R72_4 self qa1 (fun a s=>qa7 [0,1] a fun a=>qat E0 self Tryz.f72 a s) qad) (exB 4 (R72_4 self qa1 (fun a s=>qa7 [0,1] a fun a=>qat E0 self Tryz.f72 a s) qad) qad) P 0 qa1 (z32 64) S3 rfl (by rw[hl]; unfold qa1; omega) on3 c2' hB3;have on4:=d3.on.trans on3;have hA4:AgAt S4 S.next 88 8 (z32 8):=hA3.grew (by omega) (by omega) d3
 have hP4:PL S4 v P S2.next:=c2'.grew d3 fun x hx _ e=>by omega
 obtain⟨S5,e1,e2,e3,e4⟩:=L14c_spec (self:=self) (N:=qa1) (M:=S2.next) (b:=S.next) (v1:=.ptr S1.next 0) (v2:=v) (L:=P) (g:=gA) (fun p _ S=>hgA p S) (by rw[hl]; omega) (by omega) (R72_5 self qa1 (fun a s=>qa7 [0,1] a fun a=>(fun a s=>qa7 [0,1] a fun a=>qat E0 self Tryz.f72 a s) a s) qad) (exB 6 (R72_5 self qa1 (fun a s=>qa7 [0,1] a fun a=>(fun a s=>qa7 [0,1] a fun a=>qat E0 self Tryz.f72 a s) a s) qad) qad) (P.take 8) 0 qa1 (z32 8) S4 rfl (by rw[List.length_take,hl]; unfold qa1; omega) on4 hP4 hA4;have on5:=e3.on.trans on4;have hA5:AgAt S5 S.next 88 8 tA:=htA▸e2
 have hB5:AgAt S5 S1.next 89 64 tB:=htB▸d2.grew (by omega) (by omega) e3
 obtain⟨W1,f1,f2,f3,f4⟩:=ag_stOn on5 hA5 (by unfold big; decide);have hB6:AgAt W1 S1.next 89 64 tB:=hB5.grew (by omega) (by omega) f3
 have onW1:=f3.on.trans on5;obtain⟨W2,g1,g2,g3,g4⟩:=ag_stOn onW1 hB6 (by unfold big; decide);have hA7:AgAt W2 S.next 88 8 tA:=f2.grew (by omega) (by omega) g3
 have onW2:=g3.on.trans onW1;obtain⟨r1,r2,r3⟩:=relog_lg on5 [⟨S1.next,0,64,true⟩] [[⟨S.next,0,8,false⟩],[⟨S1.next,0,64,false⟩],[⟨S.next,0,8,true⟩],[⟨S1.next,0,64,true⟩]] onW2
 have hend:∀k:St->Rs,qgb [(0,[1]),(1,[2])] S5 [[⟨S.next,0,8,false⟩],[⟨S1.next,0,64,false⟩],[⟨S.next,0,8,true⟩],[⟨S1.next,0,64,true⟩]] (W2.lg [⟨S1.next,0,64,true⟩]) k=k (qbd S5 (W2.lg [⟨S1.next,0,64,true⟩]) [[⟨S.next,0,8,false⟩],[⟨S1.next,0,64,false⟩],[⟨S.next,0,8,true⟩],[⟨S1.next,0,64,true⟩]]):=fun k=>qb3 (by
  have h1:Nat.beq S.next S1.next=false:=beq_false.2 (by omega)
  have h2:Nat.beq S1.next S.next=false:=beq_false.2 (by omega)
  simp only[qaw,qd7,qdt,qhs,meet,qea,h1,h2,cF,cT,Nat.beq_refl,show Nat.beq 1 0=false from rfl,show Nat.beq 2 0=false from rfl,show Nat.beq (2-1) 0=false from rfl,show Nat.beq (1-1) 0=true from rfl,show Nat.beq (2-1-1) 0=true from rfl])
 generalize qbd S5 (W2.lg [⟨S1.next,0,64,true⟩]) [[⟨S.next,0,8,false⟩],[⟨S1.next,0,64,false⟩],[⟨S.next,0,8,true⟩],[⟨S1.next,0,64,true⟩]]=S6 at r1 r2 r3 hend;have hA6:AgAt S6 S.next 88 8 tA:=by obtain⟨c,q1,q2⟩:=hA7; exact⟨c,by rw[r1]; exact q1,q2⟩
 have hB6':AgAt S6 S1.next 89 64 tB:=by obtain⟨c,q1,q2⟩:=g2; exact⟨c,by rw[r1]; exact q1,q2⟩
 refine⟨S6,?_,?_⟩
 . show F72 self qa1 S=_
   rw[h0,show V.int .u64 2=.int .u64 ((2:Nat):Int)from rfl];refine c1.trans ?_;rw[exB_same,R72_3_eq,c2'.len,oB];dsimp only;rw[show V.int .i64 0=.int .i64 ((0:Nat):Int)from rfl];refine d1.trans ?_;rw[exB_same,R72_4_eq,show V.int .i64 0=.int .i64 ((0:Nat):Int)from rfl];refine e1.trans ?_;rw[exB_same,R72_5_eq,show onS S5=S5.lg []from rfl,ag_ldOn hA5 (by unfold big; decide),oB];dsimp only;rw[show onS (S5.lg [⟨S.next,0,8,false⟩])=S5.lg []from rfl,ag_ldOn hB5 (by unfold big; decide),oB];dsimp only;rw[show onS (S5.lg [⟨S1.next,0,64,false⟩])=S5.lg []from rfl,f1,oB];dsimp only;rw[show onS (W1.lg [⟨S.next,0,8,true⟩])=W1.lg []from rfl,g1,oB];show qgb [(0,[1]),(1,[2])] S5 [[⟨S.next,0,8,false⟩],[⟨S1.next,0,64,false⟩],[⟨S.next,0,8,true⟩],[⟨S1.next,0,64,true⟩]] (W2.lg [⟨S1.next,0,64,true⟩]) _=_;rw[hend,hA6.ldrA r3 (by unfold big; decide),oB];dsimp only;rw[hB6'.ldrA r3 (by unfold big; decide),oB]
 . refine⟨by rw[r2]; omega,by rw[r3,ho],fun b hb _=>?_⟩
   rw[r1,g3.keep b (by omega) (by omega),f3.keep b (by omega) (by omega),e3.keep b (by omega) (by omega),d3.keep b (by omega) (by omega),c3.keep b (by omega) (by omega),b2.keep b (by omega) (fun h=>h),a2.keep b hb (fun h=>h)]
theorem f52_text {K:FuncId->Option KF} (k81:K 97=some kfCube) (k82:K 98=some kfSquare) (k80:K 96=none) (ho:S.on=false) :
 ∃U,qaq E0 (ev E0 K 2) qa1 Tryz.f72 B72 [] S=some (.ret (.tuple [.agg 8 tA,.agg 64 tB]),U)/\Grew (fun _=>False) S U:=
 f52_gen (fun p S=>f80_run k80 ex82 hb82 1 qef p fun x hx=>square_run k82 0 x p hx S) (fun p S=>f80_run k80 ex81 hb81 1 qiy p fun x hx=>cube_run k81 0 x p hx S) (by omega) rfl p52_len ho
def kfConst:KF:=qcw (fun _:Unit=>[]) (fun _=>En.ret (.tuple [.agg 8 tA,.agg 64 tB]))
theorem kfConst_run (S:St):kfConst.run [] S=some (.ret (.tuple [.agg 8 tA,.agg 64 tB]),S):=qe3 (enc:=fun _:Unit=>[]) (out:=fun _=>En.ret (.tuple [.agg 8 tA,.agg 64 tB])) (fun _ _ _=>rfl) () S
theorem fz_word (s:St) (N:Nat) {z:Nat} {t:Tr V} (h:∀(j:Nat) v,t.get j=some v->∃n:Int,v=.int .u32 n):Ev.Fz s N (.agg z t) (.agg z t):=by
 classical
 refine .agg (fun i=>(t.get i).getD .nilptr) (fun i v' hv _=>by rw[hv]; rfl) fun i v' hv _=>?_;rw[hv];obtain⟨n,rfl⟩:=h i v' hv;exact .same (.int _ _)
theorem const_well {K:FuncId->Option KF} (hK:KnOk Tryz.prog E0 K) (k81:K 97=some kfCube) (k82:K 98=some kfSquare) (k80:K 96=none):KnWell Tryz.prog E0 72 kfConst:=
 qim (fn:=Tryz.f72) (c:=C72) (d:=B72) qlx hK (by kernel_rfl) (by kernel_rfl) (qa3 C72 _ (by kernel_rfl)) fun _ S ho=>by
  obtain⟨U,h1,h2⟩:=f52_text k81 k82 k80 ho;exact⟨2,_,U,h1,h2,.tuple (.cons (fz_word _ _ tA_only) (.cons (fz_word _ _ tB_only) .nil))⟩
end
end Go.Proofs.YtpgegoeghaplkaaGreatDoor.W
namespace Go.Proofs.YtpgegoeghaplkaaGreatDoor.W
open Go.Proofs.YtpgegoeghaplkaaGreatDoor.Ev
set_option maxRecDepth 100000
noncomputable section
def C74:Code:=Tryz.f74.body.getD .skip
def B74:D:=(qak C74 [[],[],[],[],[1,2,3,6,7,8,15],[],[2,3,6,7,8],[],[],[],[],[1,2,3,6,7,8,15],[],[],[0,2,3,6,7,8],[6],[],[],[2,3,6,7,8,10,96],[],[3,6,10],[],[],[],[],[],[0,3,6,10],[6],[],[3,6,10,174],[],[3,6],[],[],[],[0,3,6],[6],[]]).1
def RL74:List Nat:=cellsOf Tryz.f74.results.toList
def R74_4 (self:EV) (N:Nat) (nk:Ac->St->Rs) (ek:Nat->Ac->St->Rs) (a:Ac) (S:St):Rs:=qa7 [2,3,6,7,8] a fun a=>dr E0 self RL74 N (B74.r.r.r).r (mkK E0 self Tryz.f74 nk ek) a S
def R74_8 (self:EV) (N:Nat) (nk:Ac->St->Rs) (ek:Nat->Ac->St->Rs) (a:Ac) (S:St):Rs:=qa7 [3,6,10] a fun a=>dr E0 self RL74 N (B74.r.r.r.r.l.r).r (mkK E0 self Tryz.f74 nk ek) a S
def R74_9 (self:EV) (N:Nat) (nk:Ac->St->Rs) (ek:Nat->Ac->St->Rs) (a:Ac) (S:St):Rs:=qa7 [3,6] a fun a=>dr E0 self RL74 N (B74.r.r.r.r.l.r.r.l).r (mkK E0 self Tryz.f74 nk ek) a S
theorem R74_9_eq (self:EV) (N:Nat) (nk:Ac->St->Rs) (ek:Nat->Ac->St->Rs) ( v3 v6:V) (S:St):R74_9 self N nk ek (fr 187 [(3,v3),(6,v6)]) S =
(ldA 8 v3 S).bind fun p10=>
(stP 8 v6 p10.1 p10.2).bind fun p11=>
(ldrA 8 v6 p11.2).bind fun p12=>
some (.ret p12.1,p12.2):=by kernel_rfl
def L74_14 (self:EV) (N:Nat) (nk:Ac->St->Rs) (ek:Nat->Ac->St->Rs) (n:Nat) ( v3 v6 v10 v174:V) (S:St):Rs:=qb8 [3,6,10,174] (dr E0 self RL74 N (B74.r.r.r.r.l.r.r.l.l.r.l.l)) (mkK E0 self Tryz.f74 nk ek) n (fr 187 [(3,v3),(6,v6),(10,v10),(174,v174)]) S
theorem L74_14_eq (self:EV) (N:Nat) (nk:Ac->St->Rs) (ek:Nat->Ac->St->Rs) (n:Nat) ( v3 v6 v10 v174:V) (S:St):L74_14 self N nk ek (n+1) v3 v6 v10 v174 S =
(qa4 E0 .lss 3 false true v174 (.int .i64 8)).bind fun t15=>
ifK t15 (
(ixA 8 1 false 1 v3 v174).bind fun t19=>
(ld1 t19 (onS S)).bind fun p20=>
(ixA 8 1 false 1 v10 v174).bind fun t22=>
(ld1 t22 (onS p20.2)).bind fun p23=>
(qa4 E0 .add 86 false false p20.1 p23.1).bind fun t24=>
(ixA 8 1 false 1 v3 v174).bind fun t25=>
(stP 1 t25 t24 (onS p23.2)).bind fun p26=>
qgb [(2,[5])] S [[],[],p20.2.log,[],[],p23.2.log,[],[],p26.2.log] p26.2 fun S27=>
(qa4 E0 .add 3 false true v174 (.int .i64 1)).bind fun t28=>
L74_14 self N nk ek n v3 v6 v10 t28 S27) (
ek 4 (fr 187 [(3,v3),(6,v6)]) S):=by kernel_rfl
theorem R74_8_eq (self:EV) (N:Nat) (nk:Ac->St->Rs) (ek:Nat->Ac->St->Rs) ( v3 v6 v10:V) (S:St):R74_8 self N nk ek (fr 187 [(3,v3),(6,v6),(10,v10)]) S =
L74_14 self N (R74_9 self N (fun a s=>qa7 [6] a fun a=>nk a s) ek) (exB 4 (R74_9 self N (fun a s=>qa7 [6] a fun a=>nk a s) ek) ek) N v3 v6 v10 (.int .i64 0) S:=by kernel_rfl
def L74_31 (self:EV) (N:Nat) (nk:Ac->St->Rs) (ek:Nat->Ac->St->Rs) (n:Nat) ( v2 v3 v6 v7 v8 v10 v96:V) (S:St):Rs:=qb8 [2,3,6,7,8,10,96] (dr E0 self RL74 N (B74.r.r.r.r.l.r.l.r.l.l)) (mkK E0 self Tryz.f74 nk ek) n (fr 187 [(2,v2),(3,v3),(6,v6),(7,v7),(8,v8),(10,v10),(96,v96)]) S
theorem L74_31_eq (self:EV) (N:Nat) (nk:Ac->St->Rs) (ek:Nat->Ac->St->Rs) (n:Nat) ( v2 v3 v6 v7 v8 v10 v96:V) (S:St):L74_31 self N nk ek (n+1) v2 v3 v6 v7 v8 v10 v96 S =
(qa4 E0 .lss 3 false true v96 (.int .i64 64)).bind fun t32=>
ifK t32 (
(ixA 8 1 false 1 v10 (.int .i64 7)).bind fun t35=>
(ld1 t35 (onS S)).bind fun p36=>
(ixA 8 1 false 1 v10 (.int .i64 4)).bind fun t38=>
(ld1 t38 (onS p36.2)).bind fun p39=>
(bsP 3 1 3 (Ev.one (.int .i64 0)) [(0,(.int .i64 6)),(1,(.int .i64 11)),(2,(.int .i64 25))] (onS p39.2)).bind fun p40=>
qcy (qaj E0 (B74.r.r.r.r.l.r.l.r.l.l.r.r.l.l.r.l).ops) S 6 [[],p36.2.log,[],[],p39.2.log,p40.2.log] (qc8 E0 self v7 [p39.1,p40.1] (onS p40.2)) fun t41 S41=>
(qa4 E0 .add 86 false false p36.1 t41).bind fun t42=>
(ixA 8 1 false 1 v10 (.int .i64 4)).bind fun t43=>
(ld1 t43 (onS S41)).bind fun p44=>
(ixA 8 1 false 1 v10 (.int .i64 5)).bind fun t45=>
(ld1 t45 (onS p44.2)).bind fun p46=>
(qa4 E0 .and 86 false false p44.1 p46.1).bind fun t47=>
(ixA 8 1 false 1 v10 (.int .i64 4)).bind fun t48=>
(ld1 t48 (onS p46.2)).bind fun p49=>
(unV .xor p49.1).bind fun t50=>
(ixA 8 1 false 1 v10 (.int .i64 6)).bind fun t51=>
(ld1 t51 (onS p49.2)).bind fun p52=>
(qa4 E0 .and 86 false false t50 p52.1).bind fun t53=>
(qa4 E0 .xor 86 false false t47 t53).bind fun t54=>
(qa4 E0 .add 86 false false t42 t54).bind fun t55=>
(qbn v2).bind fun t58=>
(ixA 64 1 false 1 t58 v96).bind fun t59=>
(ld1 t59 (onS p52.2)).bind fun p60=>
(qa4 E0 .add 86 false false t55 p60.1).bind fun t61=>
(ixA 64 1 false 1 v8 v96).bind fun t63=>
(ld1 t63 (onS p60.2)).bind fun p64=>
(qa4 E0 .add 86 false false t61 p64.1).bind fun t65=>
qgb [(1,[4,5,6,9,11,14,17,25,29]),(4,[5,9,11,14,17,25,29]),(5,[9,11,14,17,25,29]),(6,[9,11,14,17,25,29]),(9,[11,14,17,25,29]),(11,[14,17,25,29]),(14,[17,25,29]),(17,[25,29]),(25,[29])] S [[],p36.2.log,[],[],p39.2.log,p40.2.log,S41.log,[],[],p44.2.log,[],p46.2.log,[],[],p49.2.log,[],[],p52.2.log,[],[],[],[],[],[],[],p60.2.log,[],[],[],p64.2.log,[],[]] (onS p64.2) fun S67=>
(ixA 8 1 false 1 v10 (.int .i64 0)).bind fun t69=>
(ld1 t69 (onS S67)).bind fun p70=>
(bsP 3 1 3 (Ev.one (.int .i64 0)) [(0,(.int .i64 2)),(1,(.int .i64 13)),(2,(.int .i64 22))] (onS p70.2)).bind fun p71=>
qcy (qaj E0 (B74.r.r.r.r.l.r.l.r.l.l.r.r.l.l.r.r.l).ops) S67 4 [[],[],p70.2.log,p71.2.log] (qc8 E0 self v7 [p70.1,p71.1] (onS p71.2)) fun t72 S72=>
(ixA 8 1 false 1 v10 (.int .i64 0)).bind fun t73=>
(ld1 t73 (onS S72)).bind fun p74=>
(ixA 8 1 false 1 v10 (.int .i64 1)).bind fun t75=>
(ld1 t75 (onS p74.2)).bind fun p76=>
(qa4 E0 .and 86 false false p74.1 p76.1).bind fun t77=>
(ixA 8 1 false 1 v10 (.int .i64 0)).bind fun t78=>
(ld1 t78 (onS p76.2)).bind fun p79=>
(ixA 8 1 false 1 v10 (.int .i64 2)).bind fun t80=>
(ld1 t80 (onS p79.2)).bind fun p81=>
(qa4 E0 .and 86 false false p79.1 p81.1).bind fun t82=>
(qa4 E0 .xor 86 false false t77 t82).bind fun t83=>
(ixA 8 1 false 1 v10 (.int .i64 1)).bind fun t84=>
(ld1 t84 (onS p81.2)).bind fun p85=>
(ixA 8 1 false 1 v10 (.int .i64 2)).bind fun t86=>
(ld1 t86 (onS p85.2)).bind fun p87=>
(qa4 E0 .and 86 false false p85.1 p87.1).bind fun t88=>
(qa4 E0 .xor 86 false false t83 t88).bind fun t89=>
(qa4 E0 .add 86 false false t72 t89).bind fun t90=>
qgb [(2,[3,6,8,11,13,17,19]),(3,[6,8,11,13,17,19]),(4,[6,8,11,13,17,19]),(6,[8,11,13,17,19]),(8,[11,13,17,19]),(11,[13,17,19]),(13,[17,19]),(17,[19])] S67 [[],[],p70.2.log,p71.2.log,S72.log,[],p74.2.log,[],p76.2.log,[],[],p79.2.log,[],p81.2.log,[],[],[],p85.2.log,[],p87.2.log,[],[],[],[]] (onS p87.2) fun S92=>
(qa4 E0 .add 86 false false t65 t90).bind fun t95=>
(ixA 8 1 false 1 v10 (.int .i64 0)).bind fun t96=>
(ld1 t96 S92).bind fun p97=>
(ixA 8 1 false 1 v10 (.int .i64 1)).bind fun t98=>
(ld1 t98 p97.2).bind fun p99=>
(ixA 8 1 false 1 v10 (.int .i64 2)).bind fun t100=>
(ld1 t100 p99.2).bind fun p101=>
(ixA 8 1 false 1 v10 (.int .i64 3)).bind fun t102=>
(ld1 t102 p101.2).bind fun p103=>
(qa4 E0 .add 86 false false p103.1 t65).bind fun t105=>
(ixA 8 1 false 1 v10 (.int .i64 4)).bind fun t106=>
(ld1 t106 p103.2).bind fun p107=>
(ixA 8 1 false 1 v10 (.int .i64 5)).bind fun t108=>
(ld1 t108 p107.2).bind fun p109=>
(ixA 8 1 false 1 v10 (.int .i64 6)).bind fun t110=>
(ld1 t110 p109.2).bind fun p111=>
(qfj E0 88 [(0,t95),(1,p97.1),(2,p99.1),(3,p101.1),(4,t105),(5,p107.1),(6,p109.1),(7,p111.1)]).bind fun t112=>
(stP 8 v10 t112 p111.2).bind fun p113=>
(qa4 E0 .add 3 false true v96 (.int .i64 1)).bind fun t114=>
L74_31 self N nk ek n v2 v3 v6 v7 v8 v10 t114 p113.2) (
ek 2 (fr 187 [(3,v3),(6,v6),(10,v10)]) S):=by kernel_rfl
theorem R74_4_eq (self:EV) (N:Nat) (nk:Ac->St->Rs) (ek:Nat->Ac->St->Rs) ( v2 v3 v6 v7 v8:V) (S:St):R74_4 self N nk ek (fr 187 [(2,v2),(3,v3),(6,v6),(7,v7),(8,v8)]) S =
(ldA 8 v3 S).bind fun p5=>
(some (nwP 88 8 (Tr.ofListFrom .nil [(.int .u32 0),(.int .u32 0),(.int .u32 0),(.int .u32 0),(.int .u32 0),(.int .u32 0),(.int .u32 0),(.int .u32 0)] 0) p5.2)).bind fun p6=>
(stP 8 p6.1 p5.1 p6.2).bind fun p7=>
L74_31 self N (R74_8 self N (fun a s=>qa7 [6] a fun a=>nk a s) ek) (exB 2 (R74_8 self N (fun a s=>qa7 [6] a fun a=>nk a s) ek) ek) N v2 v3 v6 v7 v8 p6.1 (.int .i64 0) p7.2:=by kernel_rfl
def qft (self:EV) (N:Nat) (nk:Ac->St->Rs) (ek:Nat->Ac->St->Rs) (n:Nat) ( v1 v2 v3 v6 v7 v8 v15:V) (S:St):Rs:=qb8 [1,2,3,6,7,8,15] (dr E0 self RL74 N (B74.r.r.r.l.r.l.l)) (mkK E0 self Tryz.f74 nk ek) n (fr 187 [(1,v1),(2,v2),(3,v3),(6,v6),(7,v7),(8,v8),(15,v15)]) S
theorem qk1 (self:EV) (N:Nat) (nk:Ac->St->Rs) (ek:Nat->Ac->St->Rs) (n:Nat) ( v1 v2 v3 v6 v7 v8 v15:V) (S:St):qft self N nk ek (n+1) v1 v2 v3 v6 v7 v8 v15 S =
(qa4 E0 .lss 3 false true v15 (.int .i64 64)).bind fun t118=>
ifK t118 (
(qa4 E0 .lss 3 false true v15 (.int .i64 16)).bind fun t122=>
ifK t122 (
(qa4 E0 .mul 3 true false (.int .i64 4) v15).bind fun t126=>
(ixP 1 v1 t126).bind fun t127=>
(ld1 t127 (onS S)).bind fun p128=>
(cvI .u32 p128.1 (onS p128.2)).bind fun p129=>
(qa4 E0 .shl 86 false true p129.1 (.int .u64 24)).bind fun t130=>
(qa4 E0 .mul 3 true false (.int .i64 4) v15).bind fun t133=>
(qa4 E0 .add 3 false true t133 (.int .i64 1)).bind fun t134=>
(ixP 1 v1 t134).bind fun t135=>
(ld1 t135 (onS p129.2)).bind fun p136=>
(cvI .u32 p136.1 (onS p136.2)).bind fun p137=>
(qa4 E0 .shl 86 false true p137.1 (.int .u64 16)).bind fun t138=>
(qa4 E0 .or 86 false false t130 t138).bind fun t139=>
(qa4 E0 .mul 3 true false (.int .i64 4) v15).bind fun t142=>
(qa4 E0 .add 3 false true t142 (.int .i64 2)).bind fun t143=>
(ixP 1 v1 t143).bind fun t144=>
(ld1 t144 (onS p137.2)).bind fun p145=>
(cvI .u32 p145.1 (onS p145.2)).bind fun p146=>
(qa4 E0 .shl 86 false true p146.1 (.int .u64 8)).bind fun t147=>
(qa4 E0 .or 86 false false t139 t147).bind fun t148=>
(qa4 E0 .mul 3 true false (.int .i64 4) v15).bind fun t151=>
(qa4 E0 .add 3 false true t151 (.int .i64 3)).bind fun t152=>
(ixP 1 v1 t152).bind fun t153=>
(ld1 t153 (onS p146.2)).bind fun p154=>
(cvI .u32 p154.1 (onS p154.2)).bind fun p155=>
(qa4 E0 .or 86 false false t148 p155.1).bind fun t156=>
(ixA 64 1 false 1 v8 v15).bind fun t157=>
(stP 1 t157 t156 (onS p155.2)).bind fun p158=>
qgb [(5,[13,14,22,23,31,32]),(6,[13,14,22,23,31,32]),(13,[22,23,31,32]),(14,[22,23,31,32]),(22,[31,32]),(23,[31,32])] S [[],[],[],[],[],p128.2.log,p129.2.log,[],[],[],[],[],[],p136.2.log,p137.2.log,[],[],[],[],[],[],[],p145.2.log,p146.2.log,[],[],[],[],[],[],[],p154.2.log,p155.2.log,[],[],p158.2.log] p158.2 fun S159=>
(qa4 E0 .add 3 false true v15 (.int .i64 1)).bind fun t160=>
qft self N nk ek n v1 v2 v3 v6 v7 v8 t160 S159) (
(qa4 E0 .sub 3 false true v15 (.int .i64 16)).bind fun t164=>
(ixA 64 1 false 1 v8 t164).bind fun t165=>
(ld1 t165 (onS S)).bind fun p166=>
(qa4 E0 .sub 3 false true v15 (.int .i64 15)).bind fun t169=>
(ixA 64 1 false 1 v8 t169).bind fun t170=>
(ld1 t170 (onS p166.2)).bind fun p171=>
(bsP 3 1 2 (Ev.one (.int .i64 0)) [(0,(.int .i64 7)),(1,(.int .i64 18))] (onS p171.2)).bind fun p172=>
qcy (qaj E0 (B74.r.r.r.l.r.l.l.r.r.l.l.r.r).ops) S 11 [[],[],[],[],p166.2.log,[],[],[],[],p171.2.log,p172.2.log] (qc8 E0 self v7 [p171.1,p172.1] (onS p172.2)) fun t173 S173=>
(qa4 E0 .sub 3 false true v15 (.int .i64 15)).bind fun t175=>
(ixA 64 1 false 1 v8 t175).bind fun t176=>
(ld1 t176 (onS S173)).bind fun p177=>
(qa4 E0 .shr 86 false true p177.1 (.int .u64 3)).bind fun t178=>
(qa4 E0 .xor 86 false false t173 t178).bind fun t179=>
(qa4 E0 .add 86 false false p166.1 t179).bind fun t180=>
(qa4 E0 .sub 3 false true v15 (.int .i64 7)).bind fun t182=>
(ixA 64 1 false 1 v8 t182).bind fun t183=>
(ld1 t183 (onS p177.2)).bind fun p184=>
(qa4 E0 .add 86 false false t180 p184.1).bind fun t185=>
(qa4 E0 .sub 3 false true v15 (.int .i64 2)).bind fun t188=>
(ixA 64 1 false 1 v8 t188).bind fun t189=>
(ld1 t189 (onS p184.2)).bind fun p190=>
(bsP 3 1 2 (Ev.one (.int .i64 0)) [(0,(.int .i64 17)),(1,(.int .i64 19))] (onS p190.2)).bind fun p191=>
qcy (qaj E0 (B74.r.r.r.l.r.l.l.r.r.l.l.r.r).ops) S 30 [[],[],[],[],p166.2.log,[],[],[],[],p171.2.log,p172.2.log,S173.log,[],[],[],p177.2.log,[],[],[],[],[],[],p184.2.log,[],[],[],[],[],p190.2.log,p191.2.log] (qc8 E0 self v7 [p190.1,p191.1] (onS p191.2)) fun t192 S192=>
(qa4 E0 .sub 3 false true v15 (.int .i64 2)).bind fun t194=>
(ixA 64 1 false 1 v8 t194).bind fun t195=>
(ld1 t195 (onS S192)).bind fun p196=>
(qa4 E0 .shr 86 false true p196.1 (.int .u64 10)).bind fun t197=>
(qa4 E0 .xor 86 false false t192 t197).bind fun t198=>
(qa4 E0 .add 86 false false t185 t198).bind fun t199=>
(ixA 64 1 false 1 v8 v15).bind fun t200=>
(stP 1 t200 t199 (onS p196.2)).bind fun p201=>
qgb [(4,[9,10,11,15,22,28,29,30,34]),(9,[10,15,22,28,29,34]),(10,[15,22,28,29,34]),(11,[15,22,28,29,34]),(15,[22,28,29,30,34]),(22,[28,29,30,34]),(28,[29,34]),(29,[34]),(30,[34])] S [[],[],[],[],p166.2.log,[],[],[],[],p171.2.log,p172.2.log,S173.log,[],[],[],p177.2.log,[],[],[],[],[],[],p184.2.log,[],[],[],[],[],p190.2.log,p191.2.log,S192.log,[],[],[],p196.2.log,[],[],[],[],p201.2.log] p201.2 fun S202=>
(qa4 E0 .add 3 false true v15 (.int .i64 1)).bind fun t203=>
qft self N nk ek n v1 v2 v3 v6 v7 v8 t203 S202)) (
ek 0 (fr 187 [(2,v2),(3,v3),(6,v6),(7,v7),(8,v8)]) S):=by kernel_rfl
def F74 (self:EV) (N:Nat) (x0 x1 x2:V) (S:St):Rs:=qaq E0 self N Tryz.f74 B74 [x0,x1,x2] S
theorem F74_eq (self:EV) (N:Nat) (x0 x1 x2:V) (S:St):F74 self N x0 x1 x2 S =
(qjy 88 x0 S).bind fun p0=>
(some (nwP 88 8 (Tr.ofListFrom .nil [(.int .u32 0),(.int .u32 0),(.int .u32 0),(.int .u32 0),(.int .u32 0),(.int .u32 0),(.int .u32 0),(.int .u32 0)] 0) p0.2)).bind fun p1=>
(some (nwP 89 64 (Tr.ofListFrom .nil z64q 0) p1.2)).bind fun p3=>
qft self N (R74_4 self N (qat E0 self Tryz.f74) qad) (exB 0 (R74_4 self N (qat E0 self Tryz.f74) qad) qad) N x1 x2 p0.1 p1.1 (.fn (.func 100) [] []) p3.1 (.int .i64 0) p3.2:=by kernel_rfl
def C100:Code:=Tryz.f100.body.getD .skip
def B100:D:=(qak C100 [[],[],[0,4,7,8,9],[],[4],[],[],[],[0,4],[4],[]]).1
def RL100:List Nat:=cellsOf Tryz.f100.results.toList
def R100_1 (self:EV) (N:Nat) (nk:Ac->St->Rs) (ek:Nat->Ac->St->Rs) (a:Ac) (S:St):Rs:=qa7 [4] a fun a=>dr E0 self RL100 N (B100.r).r (mkK E0 self Tryz.f100 nk ek) a S
theorem R100_1_eq (self:EV) (N:Nat) (nk:Ac->St->Rs) (ek:Nat->Ac->St->Rs) ( v4:V) (S:St):R100_1 self N nk ek (fr 21 [(4,v4)]) S =
some (.ret v4,S):=by kernel_rfl
def L100_7 (self:EV) (N:Nat) (nk:Ac->St->Rs) (ek:Nat->Ac->St->Rs) (n:Nat) ( v0 v4 v7 v8 v9:V) (S:St):Rs:=qb8 [0,4,7,8,9] (dr E0 self RL100 N (B100.r.l.r.l.l)) (mkK E0 self Tryz.f100 nk ek) n (fr 21 [(0,v0),(4,v4),(7,v7),(8,v8),(9,v9)]) S
theorem L100_7_eq (self:EV) (N:Nat) (nk:Ac->St->Rs) (ek:Nat->Ac->St->Rs) (n:Nat) ( v0 v4 v7 v8 v9:V) (S:St):L100_7 self N nk ek (n+1) v0 v4 v7 v8 v9 S =
(qa4 E0 .lss 3 false false v9 v8).bind fun t8=>
ifK t8 (
(ixP 1 v7 v9).bind fun t9=>
(ld1 t9 S).bind fun p10=>
(unV .neg p10.1).bind fun t15=>
qaf (self.f 101 [v0,t15] p10.2) fun t16 S16=>
(qa4 E0 .xor 86 false false v4 t16).bind fun t17=>
(qa4 E0 .add 3 false true v9 (.int .i64 1)).bind fun t19=>
L100_7 self N nk ek n v0 t17 v7 v8 t19 S16) (
ek 0 (fr 21 [(4,v4)]) S):=by kernel_rfl
def F100 (self:EV) (N:Nat) (x0 x1:V) (S:St):Rs:=qaq E0 self N Tryz.f100 B100 [x0,x1] S
theorem F100_eq (self:EV) (N:Nat) (x0 x1:V) (S:St):F100 self N x0 x1 S =
(lnS x1 S).bind fun p5=>
L100_7 self N (R100_1 self N (qat E0 self Tryz.f100) qad) (exB 0 (R100_1 self N (qat E0 self Tryz.f100) qad) qad) N x0 (.int .u32 0) x1 p5.1 (.int .i64 0) p5.2:=by kernel_rfl
def C101:Code:=Tryz.f101.body.getD .skip
def B101:D:=(qak C101 [[],[],[]]).1
def F101 (self:EV) (N:Nat) (x0 x1:V) (S:St):Rs:=qaq E0 self N Tryz.f101 B101 [x0,x1] S
theorem F101_eq (self:EV) (N:Nat) (x0 x1:V) (S:St):F101 self N x0 x1 S =
(cvI .u64 x1 S).bind fun p2=>
(qa4 E0 .and 68 false true p2.1 (.int .u64 31)).bind fun t3=>
(qa4 E0 .shl 86 false false x0 t3).bind fun t7=>
(qa4 E0 .sub 68 true false (.int .u64 32) t3).bind fun t10=>
(qa4 E0 .shr 86 false false x0 t10).bind fun t11=>
(qa4 E0 .or 86 false false t7 t11).bind fun t12=>
some (.ret t12,p2.2):=by kernel_rfl
end
end Go.Proofs.YtpgegoeghaplkaaGreatDoor.W
end
