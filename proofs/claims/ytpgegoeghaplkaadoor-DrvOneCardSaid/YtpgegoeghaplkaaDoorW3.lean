/-
  WHAT THE FUNCTIONS COME TO: each is read by the evaluator,printed,and told as a function of data,part 3 of 9 (no condition).
-/
import Derived.Test.YtpgegoeghaplkaaDoorW2
import Derived.Test.YtpgegoeghaplkaaDoorProg
import Derived.KernelRfl
namespace Go.Proofs.YtpgegoeghaplkaaDoor.W
open Go.Proofs.YtpgegoeghaplkaaDoor.Ev
set_option maxRecDepth 100000
noncomputable section
noncomputable def C3:Code:=Tryd.f3.body.getD .skip
noncomputable def B3:D:=(qas C3 [[],[],[],[],[],[],[],[],[],[],[],[],[],[],[],[]]).1
noncomputable def F3 (self:EV) (N:Nat) (x0 x1:V) (S:St):Rs:=qaz E0 self N Tryd.f3 B3 [x0,x1] S
theorem F3_eq (self:EV) (N:Nat) (x0 x1:V) (S:St):F3 self N x0 x1 S =
(qbv x0 S).bind fun p3=>
(foldK minV p3.1 [(.int .i64 9000)] p3.2).bind fun p4=>
(qbf E0 9 x0 none (some p4.1) none p4.2).bind fun p5=>
(qbv x1 p5.2).bind fun p9=>
(foldK minV p9.1 [(.int .i64 100)] p9.2).bind fun p10=>
(qbf E0 9 x1 none (some p10.1) none p10.2).bind fun p11=>
qaa (self.f 4 [p5.1] p11.2) fun t14 S14=>
(qag t14 0).bind fun t16=>
(qag t14 1).bind fun t17=>
(some (nwP 25 4 (Tr.ofListFrom .nil [(sv []),.nilslice,.nilslice,(sv [])] 0) S14)).bind fun p18=>
(stP 4 p18.1 t16 p18.2).bind fun p19=>
(qa8 E0 .neq 27 false true t17 .niliface).bind fun t22=>
ifK t22 (
(faP 0 false 1 p18.1).bind fun t23=>
(ld1 t23 p19.2).bind fun p24=>
(qa8 E0 .eql 9 false true p24.1 (sv [])).bind fun t25=>
(qa3 true t25).bind fun g27=>(bif g27 then faP 3 false 1 p18.1 else some (.tuple [])).bind fun t27=>
(qa3 true t25).bind fun g28=>(bif g28 then ld1 t27 p24.2 else some (.tuple [],p24.2)).bind fun p28=>
(qa3 true t25).bind fun g29=>(bif g29 then qa8 E0 .eql 9 false true p28.1 (sv [])else some (.tuple [])).bind fun t29=>
(qbp t25 (some t29) (some (.bool false))).bind fun t30=>
(qa3 true t30).bind fun g32=>(bif g32 then faP 1 false 1 p18.1 else some (.tuple [])).bind fun t32=>
(qa3 true t30).bind fun g33=>(bif g33 then ld1 t32 p28.2 else some (.tuple [],p28.2)).bind fun p33=>
(qa3 true t30).bind fun g34=>(bif g34 then lnS p33.1 p33.2 else some (.tuple [],p33.2)).bind fun p34=>
(qa3 true t30).bind fun g35=>(bif g35 then qa8 E0 .eql 3 false true p34.1 (.int .i64 0)else some (.tuple [])).bind fun t35=>
(qbp t30 (some t35) (some (.bool false))).bind fun t36=>
(qa3 true t36).bind fun g38=>(bif g38 then faP 2 false 1 p18.1 else some (.tuple [])).bind fun t38=>
(qa3 true t36).bind fun g39=>(bif g39 then ld1 t38 p34.2 else some (.tuple [],p34.2)).bind fun p39=>
(qa3 true t36).bind fun g40=>(bif g40 then lnS p39.1 p39.2 else some (.tuple [],p39.2)).bind fun p40=>
(qa3 true t36).bind fun g41=>(bif g41 then qa8 E0 .eql 3 false true p40.1 (.int .i64 0)else some (.tuple [])).bind fun t41=>
(qbp t36 (some t41) (some (.bool false))).bind fun t42=>
(qa3 true t42).bind fun g44=>qaa (bif g44 then self.f 5 [] p40.2 else some (.ret (.tuple []),p40.2)) fun t44 S44=>
(qbp t42 (some t44) (some (.bool false))).bind fun t45=>
some (.ret t45,S44)) (
(ldA 4 p18.1 p19.2).bind fun p47=>
qaa (self.f 6 [p47.1] p47.2) fun t48 S48=>
(qag t48 0).bind fun t50=>
(qag t48 1).bind fun t51=>
(qa8 E0 .neq 31 false true t51 (.int .i64 0)).bind fun t55=>
(qa3 false t55).bind fun g57=>(bif g57 then some t50 else some (.tuple [])).bind fun t57=>
(qa3 false t55).bind fun g58=>(bif g58 then some p5.1 else some (.tuple [])).bind fun t58=>
(qa3 false t55).bind fun g59=>(bif g59 then qa8 E0 .neq 9 false false t57 t58 else some (.tuple [])).bind fun t59=>
(qbp t55 (some (.bool true)) (some t59)).bind fun t60=>
ifK t60 (
some (.ret (.bool false),S48)) (
(qa8 E0 .add 9 false false p5.1 p11.1).bind fun t64=>
qaa (self.f 4 [t64] S48) fun t65 S65=>
(qag t65 0).bind fun t67=>
(qag t65 1).bind fun t68=>
(some (nwP 25 4 (Tr.ofListFrom .nil [(sv []),.nilslice,.nilslice,(sv [])] 0) S65)).bind fun p69=>
(stP 4 p69.1 t67 p69.2).bind fun p70=>
(faP 3 false 1 p18.1).bind fun t72=>
(ld1 t72 p70.2).bind fun p73=>
(qbv p73.1 p73.2).bind fun p74=>
(qbv p11.1 p74.2).bind fun p76=>
(qa8 E0 .add 3 false false p74.1 p76.1).bind fun t77=>
(qa8 E0 .gtr 3 false true t77 (.int .i64 4000)).bind fun t78=>
ifK t78 (
(qa8 E0 .neq 27 false true t68 .niliface).bind fun t80=>
(qa3 true t80).bind fun g82=>qaa (bif g82 then self.f 5 [] p76.2 else some (.ret (.tuple []),p76.2)) fun t82 S82=>
(qbp t80 (some t82) (some (.bool false))).bind fun t83=>
some (.ret t83,S82)) (
(qa8 E0 .eql 27 false true t68 .niliface).bind fun t86=>
(qa3 true t86).bind fun g88=>(bif g88 then faP 3 false 1 p69.1 else some (.tuple [])).bind fun t88=>
(qa3 true t86).bind fun g89=>(bif g89 then ld1 t88 p76.2 else some (.tuple [],p76.2)).bind fun p89=>
(qa3 true t86).bind fun g90=>(bif g90 then faP 3 false 1 p18.1 else some (.tuple [])).bind fun t90=>
(qa3 true t86).bind fun g91=>(bif g91 then ld1 t90 p89.2 else some (.tuple [],p89.2)).bind fun p91=>
(qa3 true t86).bind fun g92=>(bif g92 then some p11.1 else some (.tuple [])).bind fun t92=>
(qa3 true t86).bind fun g93=>(bif g93 then qa8 E0 .add 9 false false p91.1 t92 else some (.tuple [])).bind fun t93=>
(qa3 true t86).bind fun g94=>(bif g94 then qa8 E0 .eql 9 false false p89.1 t93 else some (.tuple [])).bind fun t94=>
(qbp t86 (some t94) (some (.bool false))).bind fun t95=>
(qa3 true t95).bind fun g97=>(bif g97 then faP 0 false 1 p69.1 else some (.tuple [])).bind fun t97=>
(qa3 true t95).bind fun g98=>(bif g98 then ld1 t97 p91.2 else some (.tuple [],p91.2)).bind fun p98=>
(qa3 true t95).bind fun g99=>(bif g99 then faP 0 false 1 p18.1 else some (.tuple [])).bind fun t99=>
(qa3 true t95).bind fun g100=>(bif g100 then ld1 t99 p98.2 else some (.tuple [],p98.2)).bind fun p100=>
(qa3 true t95).bind fun g101=>(bif g101 then qa8 E0 .eql 9 false false p98.1 p100.1 else some (.tuple [])).bind fun t101=>
(qbp t95 (some t101) (some (.bool false))).bind fun t102=>
(qa3 true t102).bind fun g104=>qaa (bif g104 then self.f 5 [] p100.2 else some (.ret (.tuple []),p100.2)) fun t104 S104=>
(qbp t102 (some t104) (some (.bool false))).bind fun t105=>
some (.ret t105,S104)))):=by kernel_rfl
end
end Go.Proofs.YtpgegoeghaplkaaDoor.W

namespace Go.Proofs.YtpgegoeghaplkaaDoor.W
open Go.Proofs.YtpgegoeghaplkaaDoor.Ev
abbrev Bs:=List UInt8
structure DD where
 nm:Bs
 ins:List Bs
 env:List (Bs×Bs)
 scr:Bs
def qk1:Bs->List Bs
 | []=>[[]]
 | c::s=>if c=32 then []::qk1 s else match qk1 s with
  | []=>[[c]]
  | w::l=>(c::w)::l
def qhv:List Bs->Bs
 | []=>[]
 | [w]=>w
 | w::l=>w++32::qhv l
theorem splB_ne:∀s,qk1 s≠[]
 | []=>by simp[qk1]
 | c::s=>by
  rw[qk1];split
  . simp
  . split<;>simp
theorem joi_spl:∀s,qhv (qk1 s)=s
 | []=>rfl
 | c::s=>by
  have ih:=joi_spl s;have hne:=splB_ne s;rw[qk1];by_cases h:c=32
  . rw[iP h]
    cases hs:qk1 s with
    | nil=>exact absurd hs hne
    | cons w l=>
     rw[hs]at ih;rw[qhv,ih,h]
     . rfl
     . simp
  . rw[iN h]
    cases hs:qk1 s with
    | nil=>exact absurd hs hne
    | cons w l=>
     rw[hs]at ih;simp only;cases l with
     | nil=>rw[qhv]at ih ⊢; rw[ih]
     | cons v l=>
      rw[qhv]at ih ⊢
      . rw[List.cons_append,ih]
      . simp
      . simp
def hexL:Bs:=[48,49,50,51,52,53,54,55,56,57,97,98,99,100,101,102]
def hexC (n:Nat):UInt8:=hexL.getD n 0
def ixH (c:UInt8):Nat:=(hexL.findIdx? (fun x=>x==c)).getD 0
def isX (c:UInt8):Bool:=hexL.contains c
def hexD (v:Bs):Bs:=if v=[]then [45]else v.flatMap fun c=>[hexC (c.toNat/16),hexC (c.toNat%16)]
def qhk:Bs->Bs
 | a::b::s=>UInt8.ofNat (ixH a*16+ixH b)::qhk s
 | _=>[]
def valD (s:Bs):Option Bs:=if s=[45]then some []else if s≠[]/\s.length%2=0/\s.all isX=true then some (qhk s)else none
theorem isX_ix:∀c:UInt8,isX c=true->ixH c<16/\hexC (ixH c)=c:=by
 intro c h;unfold isX hexL at h;simp only[List.contains_cons,Bool.or_eq_true,beq_iff_eq,List.contains_nil,Bool.false_eq_true,or_false]at h;rcases h with h|h|h|h|h|h|h|h|h|h|h|h|h|h|h|h<;>subst h<;>exact⟨by decide,by decide⟩
theorem qlz:∀(n:Nat) (s:Bs),s.length<=n->s.length%2=0->s.all isX=true->(qhk s).flatMap (fun c=>[hexC (c.toNat/16),hexC (c.toNat%16)])=s/\(qhk s).length*2=s.length
 | 0,s,hn,_,_=>by
  have:s=[]:=List.length_eq_zero_iff.1 (by omega);subst this;exact⟨rfl,rfl⟩
 | n+1,[],_,_,_=>⟨rfl,rfl⟩
 | n+1,[a],_,h2,_=>by simp at h2
 | n+1,a::b::s,hn,h2,ha=>by
  rw[List.all_cons,List.all_cons,bA,bA]at ha;obtain⟨a1,a2⟩:=isX_ix a ha.1;obtain⟨b1,b2⟩:=isX_ix b ha.2.1;obtain⟨i1,i2⟩:=qlz n s (by simp at hn; omega) (by simp at h2; omega) ha.2.2;rw[qhk];have hn:(UInt8.ofNat (ixH a*16+ixH b)).toNat=ixH a*16+ixH b:=by rw[UInt8.toNat_ofNat']; omega
  refine⟨?_,by simp only[List.length_cons]; omega⟩;rw[List.flatMap_cons,i1,hn,show(ixH a*16+ixH b)/16=ixH a by omega,show(ixH a*16+ixH b)%16=ixH b by omega,a2,b2];rfl
theorem hex_val {s v:Bs} (h:valD s=some v):hexD v=s:=by
 unfold valD at h;split at h
 . rename_i h0
   simp only[oS]at h;subst h;rw[h0]; rfl
 . split at h
   . rename_i h1
     simp only[oS]at h;obtain⟨p1,p2⟩:=qlz s.length s (lR _) h1.2.1 h1.2.2;subst h;unfold hexD
     have hne:qhk s≠[]:=fun e=>by
      rw[e]at p2;have:0<s.length:=List.length_pos_iff.2 h1.1;simp at p2;omega
     rw[iN hne,p1]
   . cases h
def ltB (a b:Bs):Bool:=decide (a<b)
def qek:List Bs->Bool
 | a::b::l=>ltB a b&&qek (b::l)
 | _=>true
theorem rise_push:∀(l:List Bs) (x:Bs),qek l=true->(∀y,l.getLast?=some y->ltB y x=true)->qek (l++[x])=true
 | [],x,_,_=>rfl
 | [a],x,_,h=>by
  have:=h a rfl;show(ltB a x&&true)=true;rw[this]; rfl
 | a::b::l,x,h,hl=>by
  rw[qek,bA]at h;show(ltB a b&&qek ((b::l)++[x]))=true;rw[h.1,rise_push (b::l) x h.2 fun y hy=>hl y (by rw[List.getLast?_cons_cons]; exact hy)];rfl
def qgz:Bs->Bs×Option Bs
 | []=>([],none)
 | c::s=>if c=10 then([],some s)else(c::(qgz s).1,(qgz s).2)
theorem qih:∀(s:Bs) {r:Bs},(qgz s).2=some r->s=(qgz s).1++10::r
 | [],r,h=>by cases h
 | c::s,r,h=>by
  rw[qgz]at h ⊢;by_cases hc:c=10
  . rw[iP hc]at h ⊢
    simp only[oS]at h;rw[hc,h]; rfl
  . rw[iN hc]at h ⊢
    exact congrArg (c::·) (qih s h)
theorem cutB_app:∀(s m:Bs) {r:Bs},(qgz s).2=some r->qgz (s++m)=((qgz s).1,some (r++m))
 | [],m,r,h=>by cases h
 | c::s,m,r,h=>by
  rw[List.cons_append,qgz];rw[qgz]at h;by_cases hc:c=10
  . rw[iP hc]at h ⊢
    simp only[oS]at h;rw[qgz,iP hc,h]
  . rw[iN hc]at h ⊢
    rw[cutB_app s m h,qgz,iN hc]
theorem cutB_len (s:Bs) {r:Bs} (h:(qgz s).2=some r):r.length<s.length:=by
 have:=congrArg List.length (qih s h);rw[lAq,List.length_cons]at this;omega
def wDrv:Bs:=[100,114,118]
def wIn:Bs:=[105,110]
def wEnv:Bs:=[101,110,118]
def wRun:Bs:=[114,117,110]
section
variable (chk isPath variable_:Bs->Bool)
def qm5 (last:Nat) (d:DD):List Bs->Option (Nat×DD)
 | [a]=>if last=0/\chk a=true then some (1,{d with nm:=a})else none
 | _=>none
def sayIn (last:Nat) (d:DD):List Bs->Option (Nat×DD)
 | [a]=>if(last=1\/last=2)/\isPath a=true/\qek (d.ins++[a])=true/\d.ins.length<8 then some (2,{d with ins:=d.ins++[a]})else none
 | _=>none
def qm6 (last:Nat) (d:DD):List Bs->Option (Nat×DD)
 | [a,b]=>if(last=1\/last=2\/last=3)/\variable_ a=true/\(∀y,d.env.getLast?=some y->ltB y.1 a=true)then
  (valD b).bind fun v=>if v.length<=200/\d.env.length<16 then some (3,{d with env:=d.env++[(a,v)]})else none
  else none
 | _=>none
def sayRun (last:Nat) (d:DD):List Bs->Option (Nat×DD)
 | []=>if last=1\/last=2\/last=3 then some (4,d)else none
 | _=>none
def sayD (last:Nat) (d:DD):List Bs->Option (Nat×DD)
 | []=>none
 | w0::w=>if w0=wDrv then qm5 chk last d w else if w0=wIn then sayIn isPath last d w else if w0=wEnv then qm6 variable_ last d w else if w0=wRun then sayRun last d w else none
def prsL:Nat->Nat->DD->Bs->Option DD
 | 0,_,_,_=>none
 | f+1,last,d,s=>
  if last=4 then(if s.length<=4000 then some {d with scr:=s}else none)
  else(sayD chk isPath variable_ last d (qk1 (qgz s).1)).bind fun p=>(qgz s).2.bind fun r=>prsL f p.1 p.2 r
def prsD (s:Bs):Option DD:=prsL chk isPath variable_ (s.length+2) 0 ⟨[],[],[],[]⟩ s
def inL (p:Bs):Bs:=wIn++32::p++[10]
def envL (p:Bs×Bs):Bs:=wEnv++32::p.1++32::hexD p.2++[10]
def preD (t:Nat) (d:DD):Bs:=(if t=0 then []else wDrv++32::d.nm++[10])++d.ins.flatMap inL++d.env.flatMap envL++(if t=4 then wRun++[10]else [])
def mayD (d:DD):Bool:=chk d.nm&&decide (d.ins.length<=8/\d.env.length<=16)&&d.ins.all isPath&&(qek d.ins&&qek (d.env.map Prod.fst))&&d.env.all (fun v=>variable_ v.1&&decide (v.2.length<=200))&&decide (d.scr.length<=4000)
def prtD (d:DD):Bs:=preD 4 d++d.scr
structure Iv (t:Nat) (d:DD):Prop where
 t4:t<=4
 nm:1<=t->chk d.nm=true
 ins:d.ins.all isPath=true
 rins:qek d.ins=true
 lins:d.ins.length<=8
 env:d.env.all (fun v=>variable_ v.1&&decide (v.2.length<=200))=true
 renv:qek (d.env.map Prod.fst)=true
 lenv:d.env.length<=16
 i0:t<=1->d.ins=[]
 e0:t<=2->d.env=[]
variable {chk isPath variable_}
theorem say_ok {t t':Nat} {d d':DD} {s:Bs} (h:Iv chk isPath variable_ t d) (hs:sayD chk isPath variable_ t d (qk1 s)=some (t',d')):Iv chk isPath variable_ t' d'/\preD t' d'=preD t d++s++[10]/\t<4:=by
 have hj:=joi_spl s;generalize qk1 s=w at hs hj;cases w with
 | nil=>cases hs
 | cons w0 w=>
  rw[sayD]at hs;split at hs
  . rename_i h0
    unfold qm5 at hs;split at hs
    . rename_i a
      split at hs
      . rename_i hc
        obtain⟨rfl,hc⟩:=hc;simp only[oS,pM]at hs;obtain⟨rfl,rfl⟩:=hs;have hi:=h.i0 (by omega);have he:=h.e0 (by omega);refine⟨⟨by omega,fun _=>hc,h.ins,h.rins,h.lins,h.env,h.renv,h.lenv,fun _=>hi,fun _=>he⟩,?_,by omega⟩;rw[h0]at hj;rw[<- hj];unfold preD;simp only;rw[hi,he];simp[qhv]
      . cases hs
    . cases hs
  split at hs
  . rename_i h0
    unfold sayIn at hs;split at hs
    . rename_i a
      split at hs
      . rename_i hc
        obtain⟨ht,c1,c2,c3⟩:=hc;simp only[oS,pM]at hs;obtain⟨rfl,rfl⟩:=hs;have he:=h.e0 (by omega);refine⟨⟨by omega,fun _=>h.nm (by omega),?_,c2,by simp only[lAq,List.length_singleton]; omega,h.env,h.renv,h.lenv,fun hh=>by omega,fun _=>he⟩,?_,by omega⟩
        . simp only[List.all_append,h.ins,List.all_cons,c1,List.all_nil,Bool.and_self]
        . rw[h0]at hj
          rw[<- hj];unfold preD;simp only;rw[he,iN (by omega),iN (by omega:¬t=0),iN (by omega),iN (by omega:¬t=4)];simp[qhv,inL]
      . cases hs
    . cases hs
  split at hs
  . rename_i h0
    unfold qm6 at hs;split at hs
    . rename_i a b
      split at hs
      . rename_i hc
        obtain⟨ht,c1,c2⟩:=hc;rw[oI]at hs;obtain⟨v,hv,hs⟩:=hs;split at hs
        . rename_i hl
          simp only[oS,pM]at hs;obtain⟨rfl,rfl⟩:=hs;refine⟨⟨by omega,fun _=>h.nm (by omega),h.ins,h.rins,h.lins,?_,?_,by simp only[lAq,List.length_singleton]; omega,fun hh=>by omega,fun hh=>by omega⟩,?_,by omega⟩
          . simp only[List.all_append,h.env,List.all_cons,c1,List.all_nil,Bool.and_self,Bool.true_and,Bool.and_true,dT hl.1]
          . simp only[List.map_append,List.map_cons,List.map_nil]
            refine rise_push _ _ h.renv fun y hy=>?_;rw[List.getLast?_map,Option.map_eq_some_iff]at hy;obtain⟨z,hz,rfl⟩:=hy;exact c2 z hz
          . rw[h0]at hj
            rw[<- hj];unfold preD;simp only;rw[iN (by omega),iN (by omega:¬t=0),iN (by omega),iN (by omega:¬t=4)];simp[qhv,envL,hex_val hv]
        . cases hs
      . cases hs
    . cases hs
  split at hs
  . rename_i h0
    unfold sayRun at hs;split at hs
    . split at hs
      . rename_i ht
        simp only[oS,pM]at hs;obtain⟨rfl,rfl⟩:=hs;refine⟨⟨by omega,fun _=>h.nm (by omega),h.ins,h.rins,h.lins,h.env,h.renv,h.lenv,fun hh=>by omega,fun hh=>by omega⟩,?_,by omega⟩;rw[h0]at hj;rw[<- hj];unfold preD;rw[iN (by omega),iN (by omega:¬t=0),iP rfl,iN (by omega:¬t=4)];simp[qhv]
      . cases hs
    . cases hs
  . cases hs
theorem prs_ok:∀(f t:Nat) (d:DD) (s:Bs) (d':DD),Iv chk isPath variable_ t d->prsL chk isPath variable_ f t d s=some d'->mayD chk isPath variable_ d'=true/\prtD d'=preD t d++s/\∀m,prsL chk isPath variable_ f t d (s++m)=if d'.scr.length+m.length<=4000 then some {d' with scr:=d'.scr++m}else none
 | 0,t,d,s,d',_,h=>by cases h
 | f+1,t,d,s,d',hi,h=>by
  rw[prsL]at h;by_cases ht:t=4
  . rw[iP ht]at h
    subst ht;split at h
    . rename_i hl
      simp only[oS]at h;subst h;refine⟨?_,rfl,fun m=>?_⟩
      . unfold mayD
        rw[hi.nm (by omega),hi.ins,hi.rins,hi.renv,hi.env,dT ⟨hi.lins,hi.lenv⟩,dT hl];rfl
      . rw[prsL,iP rfl,lAq]
    . cases h
  . rw[iN ht,oI]at h
    obtain⟨⟨t1,d1⟩,h1,h2⟩:=h;rw[oI]at h2;obtain⟨r,h3,h4⟩:=h2;obtain⟨i1,i2,_⟩:=say_ok hi h1;obtain⟨j1,j2,j3⟩:=prs_ok f t1 d1 r d' i1 h4;refine⟨j1,?_,fun m=>?_⟩
    . rw[j2,i2]
      conv=>rhs; rw[qih s h3]
      simp
    . rw[prsL,iN ht,cutB_app s m h3]
      simp only;rw[h1,oB,oB];exact j3 m
theorem prs_more:∀(f t:Nat) (d:DD) (s:Bs) (d':DD),prsL chk isPath variable_ f t d s=some d'->∀g,f<=g->prsL chk isPath variable_ g t d s=some d'
 | 0,t,d,s,d',h,g,hg=>by cases h
 | f+1,t,d,s,d',h,0,hg=>by omega
 | f+1,t,d,s,d',h,g+1,hg=>by
  rw[prsL]at h ⊢;by_cases ht:t=4
  . rw[iP ht]at h ⊢; exact h
  . rw[iN ht,oI]at h
    rw[iN ht];obtain⟨p,h1,h2⟩:=h;rw[oI]at h2;obtain⟨r,h3,h4⟩:=h2;rw[h1,oB,h3,oB];exact prs_more f _ _ r d' h4 g (by omega)
end
end Go.Proofs.YtpgegoeghaplkaaDoor.W
