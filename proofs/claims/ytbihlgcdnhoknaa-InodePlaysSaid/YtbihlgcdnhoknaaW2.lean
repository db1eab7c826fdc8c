/-
  WHAT THE FUNCTIONS COME TO: each is read by the evaluator,printed,and told as a function of data,part 2 of 14 (no condition).
-/
import Derived.Test.YtbihlgcdnhoknaaW1
import Derived.Test.YtbihlgcdnhoknaaProg
import Derived.KernelRfl
import Derived.Test.YtbihlgcdnhoknaaShelf
import Derived.OpenShut
import Derived.ProofKit
import Derived.WalkKit
namespace Go.Proofs.Ytbihlgcdnhoknaa.W
open Go.Proofs.Ytbihlgcdnhoknaa.Ev
set_option maxRecDepth 100000
noncomputable section
noncomputable def C18:Code:=Try.f18.body.getD .skip
noncomputable def B18:D:=(qaq C18 [[],[],[],[],[],[]]).1
noncomputable def F18 (self:EV) (N:Nat) (x0 x1:V) (S:St):Rs:=qb6 E0 self N Try.f18 B18 [x0,x1] S
theorem F18_eq (self:EV) (N:Nat) (x0 x1:V) (S:St):F18 self N x0 x1 S =
qah (self.f 35 [x0,x1] S) fun t3 S3=>
(qa6 E0 .eql 62 false true t3 .nilptr).bind fun t6=>
ifK t6 (
some (.ret .nilslice,S3)) (
(qa2 t3).bind fun t9=>
(faP 5 false 1 t9).bind fun t10=>
(ld1 t10 S3).bind fun p11=>
qah (self.f 39 [p11.1] p11.2) fun t12 S12=>
qah (self.f 38 [t12] S12) fun t13 S13=>
some (.ret t13,S13)):=by kernel_rfl
noncomputable def C19:Code:=Try.f19.body.getD .skip
noncomputable def B19:D:=(qaq C19 [[],[],[],[],[],[],[],[],[],[],[],[],[],[],[],[],[]]).1
noncomputable def F19 (self:EV) (N:Nat) (x0 x1 x2 x3 x4:V) (S:St):Rs:=qb6 E0 self N Try.f19 B19 [x0,x1,x2,x3,x4] S
theorem F19_eq (self:EV) (N:Nat) (x0 x1 x2 x3 x4:V) (S:St):F19 self N x0 x1 x2 x3 x4 S =
(qdb 23 x0 S).bind fun p0=>
(qdb 3 x3 p0.2).bind fun p1=>
(ld1 p0.1 (onS p1.2)).bind fun p3=>
(ld1 p0.1 (onS p3.2)).bind fun p5=>
qbq (qaf E0 (B19.r.l).ops) p1.2 4 [p3.2.log,[],p5.2.log,[]] (self.f 28 [p5.1,x1] (onS p5.2)) fun t7 S7=>
(ld1 p0.1 (onS S7)).bind fun p8=>
(ld1 p1.1 (onS p8.2)).bind fun p9=>
qbq (qaf E0 (B19.r.l).ops) p1.2 7 [p3.2.log,[],p5.2.log,[],S7.log,p8.2.log,p9.2.log] (self.f 28 [p8.1,p9.1] (onS p9.2)) fun t10 S10=>
qbq (qaf E0 (B19.r.l).ops) p1.2 9 [p3.2.log,[],p5.2.log,[],S7.log,p8.2.log,p9.2.log,S10.log,[]] (self.f 29 [x4] (onS S10)) fun t12 S12=>
(ld1 p0.1 (onS S12)).bind fun p13=>
qbq (qaf E0 (B19.r.l).ops) p1.2 13 [p3.2.log,[],p5.2.log,[],S7.log,p8.2.log,p9.2.log,S10.log,[],S12.log,p13.2.log,[],[]] (self.f 37 [p13.1,x1,x2] (onS p13.2)) fun t16 S16=>
(bsP 72 1 5 (Ev.one .nilfn) [(0,(.fn (.func 27) [p3.1] [])),(1,t7),(2,t10),(3,t12),(4,t16)] (onS S16)).bind fun p17=>
qbq (qaf E0 (B19.r.l).ops) p1.2 15 [p3.2.log,[],p5.2.log,[],S7.log,p8.2.log,p9.2.log,S10.log,[],S12.log,p13.2.log,[],[],S16.log,p17.2.log] (self.f 26 [p17.1] (onS p17.2)) fun t18 S18=>
qgx [(0,[2,4,5,6,7,9,10,13]),(2,[5,6,10]),(4,[5,6,10]),(5,[6,10]),(6,[10]),(7,[10]),(9,[10])] p1.2 [p3.2.log,[],p5.2.log,[],S7.log,p8.2.log,p9.2.log,S10.log,[],S12.log,p13.2.log,[],[],S16.log,p17.2.log,S18.log,[]] (onS S18) fun S20=>
(qa6 E0 .neq 27 false true t18 (.int .i64 0)).bind fun t22=>
(qa3 false t22).bind fun g24=>(bif g24 then some x1 else some (.tuple [])).bind fun t24=>
(qa3 false t22).bind fun g25=>(bif g25 then ld1 p1.1 S20 else some (.tuple [],S20)).bind fun p25=>
(qa3 false t22).bind fun g26=>(bif g26 then qa6 E0 .eql 3 false false t24 p25.1 else some (.tuple [])).bind fun t26=>
(qa3 false t22).bind fun g27=>(bif g27 then some t26 else some (.tuple [])).bind fun t27=>
(qa3 true t27).bind fun g28=>(bif g28 then some x2 else some (.tuple [])).bind fun t28=>
(qa3 true t27).bind fun g29=>(bif g29 then some x4 else some (.tuple [])).bind fun t29=>
(qa3 true t27).bind fun g30=>(bif g30 then qa6 E0 .eql 9 false false t28 t29 else some (.tuple [])).bind fun t30=>
(qa3 false t22).bind fun g31=>(bif g31 then qaw t27 (some t30) (some (.bool false))else some (.tuple [])).bind fun t31=>
(qaw t22 (some (.bool true)) (some t31)).bind fun t32=>
ifK t32 (
some (.ret t18,p25.2)) (
(ld1 p0.1 p25.2).bind fun p35=>
qah (self.f 13 [p35.1,x1,x2] p35.2) fun t38 S38=>
(qab t38 0).bind fun t40=>
(qab t38 1).bind fun t41=>
(some (nwP 3 1 (Ev.one (.int .i64 0)) S38)).bind fun p42=>
(stP 1 p42.1 t40 p42.2).bind fun p43=>
(ld1 p0.1 p43.2).bind fun p47=>
(ld1 p1.1 p47.2).bind fun p48=>
qah (self.f 30 [p47.1,p48.1,x4] p48.2) fun t50 S50=>
(bsP 72 1 2 (Ev.one .nilfn) [(0,t50),(1,(.fn (.func 40) [] [p1.1,p0.1,p42.1]))] S50).bind fun p52=>
qah (self.f 26 [p52.1] p52.2) fun t53 S53=>
(qa6 E0 .neq 27 false true t53 (.int .i64 0)).bind fun t56=>
ifK t56 (
some (.ret t53,S53)) (
(ld1 p0.1 S53).bind fun p59=>
(qa2 p59.1).bind fun t60=>
(faP 4 false 1 t60).bind fun t61=>
(ld1 t61 p59.2).bind fun p62=>
(qal E0 66 p62.1 x1 false p62.2).bind fun p64=>
(qa2 p64.1).bind fun t65=>
(faP 5 false 1 t65).bind fun t66=>
(ld1 t66 p64.2).bind fun p67=>
(vu (qbt E0 63 p67.1 x2 p67.2)).bind fun p69=>
(ld1 p0.1 (onS p69.2)).bind fun p70=>
(qa2 p70.1).bind fun t71=>
(faP 4 false 1 t71).bind fun t72=>
(ld1 t72 (onS p70.2)).bind fun p73=>
(ld1 p1.1 (onS p73.2)).bind fun p74=>
(qal E0 66 p73.1 p74.1 false (onS p74.2)).bind fun p75=>
(qa2 p75.1).bind fun t76=>
(faP 5 false 1 t76).bind fun t77=>
(ld1 t77 (onS p75.2)).bind fun p78=>
(ld1 p42.1 (onS p78.2)).bind fun p80=>
(vu (qam E0 63 p78.1 x4 p80.1 (onS p80.2))).bind fun p81=>
qgx [(0,[4,10]),(3,[4,10]),(4,[10]),(5,[10]),(8,[10])] p69.2 [p70.2.log,[],[],p73.2.log,p74.2.log,p75.2.log,[],[],p78.2.log,[],p80.2.log,p81.2.log] p81.2 fun S82=>
(ld1 p0.1 (onS S82)).bind fun p83=>
(qa2 p83.1).bind fun t84=>
(faP 4 false 1 t84).bind fun t85=>
(ld1 t85 (onS p83.2)).bind fun p86=>
(ld1 p42.1 (onS p86.2)).bind fun p87=>
(qal E0 66 p86.1 p87.1 false (onS p87.2)).bind fun p88=>
qgx [(0,[4]),(3,[4])] S82 [p83.2.log,[],[],p86.2.log,p87.2.log,p88.2.log,[]] (onS p88.2) fun S90=>
(qa2 p88.1).bind fun t92=>
(faP 0 true 4 t92).bind fun t93=>
(faP 0 false 1 t93).bind fun t94=>
(ld1 t94 S90).bind fun p95=>
(qa6 E0 .eql 3 false true p95.1 (.int .i64 2)).bind fun t96=>
ifK t96 (
(ld1 p1.1 p95.2).bind fun p98=>
(qa2 p88.1).bind fun t99=>
(faP 4 false 1 t99).bind fun t100=>
(stP 1 t100 p98.1 p98.2).bind fun p101=>
some (.ret (.int .i64 0),p101.2)) (
some (.ret (.int .i64 0),p95.2)))):=by kernel_rfl
noncomputable def C39:Code:=Try.f39.body.getD .skip
noncomputable def B39:D:=(qaq C39 [[],[]]).1
noncomputable def F39 (self:EV) (N:Nat) (x0:V) (S:St):Rs:=qb6 E0 self N Try.f39 B39 [x0] S
theorem F39_eq (self:EV) (N:Nat) (x0:V) (S:St):F39 self N x0 S =
(qdb 63 x0 S).bind fun p0=>
some (.ret (.fn (.func 66) [] [p0.1]),p0.2):=by kernel_rfl
noncomputable def C40:Code:=Try.f40.body.getD .skip
noncomputable def B40:D:=(qaq C40 [[],[],[1,2,4],[],[],[],[],[],[],[0],[3],[]]).1
noncomputable def RL40:List Nat:=cellsOf Try.f40.results.toList
noncomputable def R40_1 (self:EV) (N:Nat) (nk:Ac->St->Rs) (ek:Nat->Ac->St->Rs) (a:Ac) (S:St):Rs:=qbo [] a fun a=>dr E0 self RL40 N (B40.r).r (mkK E0 self Try.f40 nk ek) a S
theorem R40_1_eq (self:EV) (N:Nat) (nk:Ac->St->Rs) (ek:Nat->Ac->St->Rs) (S:St):R40_1 self N nk ek (fr 20 []) S =
some (.ret (.int .i64 0),S):=by kernel_rfl
noncomputable def L40_5 (self:EV) (N:Nat) (nk:Ac->St->Rs) (ek:Nat->Ac->St->Rs) (n:Nat) ( v1 v2 v4:V) (S:St):Rs:=qez [1,2,4] (dr E0 self RL40 N (B40.r.l.r.l.l)) (mkK E0 self Try.f40 nk ek) n (fr 20 [(1,v1),(2,v2),(4,v4)]) S
theorem qnc (self:EV) (N:Nat) (nk:Ac->St->Rs) (ek:Nat->Ac->St->Rs) (n:Nat) ( v1 v2 v4:V) (S:St):L40_5 self N nk ek (n+1) v1 v2 v4 S =
(qa6 E0 .neq 3 false true v4 (.int .i64 1)).bind fun t7=>
ifK t7 (
(ld1 v2 S).bind fun p9=>
(qa6 E0 .eql 3 false false v4 p9.1).bind fun t10=>
ifK t10 (
some (.ret (.int .i64 2),p9.2)) (
(ld1 v1 p9.2).bind fun p12=>
(qa2 p12.1).bind fun t13=>
(faP 4 false 1 t13).bind fun t14=>
(ld1 t14 p12.2).bind fun p15=>
(qal E0 66 p15.1 v4 false p15.2).bind fun p17=>
(qa2 p17.1).bind fun t18=>
(faP 4 false 1 t18).bind fun t19=>
(ld1 t19 p17.2).bind fun p20=>
L40_5 self N nk ek n v1 v2 p20.1 p20.2)) (
ek 0 (fr 20 []) S):=by kernel_rfl
noncomputable def F40 (self:EV) (N:Nat) (x0 x1 x2:V) (S:St):Rs:=qb6 E0 self N Try.f40 B40 [x0,x1,x2] S
theorem F40_eq (self:EV) (N:Nat) (x0 x1 x2:V) (S:St):F40 self N x0 x1 x2 S =
(ld1 x0 S).bind fun p3=>
L40_5 self N (R40_1 self N (qc0 E0 self Try.f40) qbd) (exB 0 (R40_1 self N (qc0 E0 self Try.f40) qbd) qbd) N x1 x2 p3.1 p3.2:=by kernel_rfl
end
end Go.Proofs.Ytbihlgcdnhoknaa.W



namespace Go.Proofs.Ytbihlgcdnhoknaa.W
open Go.Proofs.Ytbihlgcdnhoknaa.Ev
theorem E0_ok:EnvOk Try.prog E0:=envOf_ok (by kernel_rfl) (by kernel_rfl) (by kernel_rfl) (fun p hp=>by
 simp only[List.mem_cons,List.not_mem_nil,or_false]at hp;rcases hp with rfl;exact⟨fun _ args w=>by kernel_rfl,fun h=>absurd h (by decide),fun h=>absurd h (by decide),fun h=>absurd h (by decide),fun h=>absurd h (by decide)⟩
 ) (by kernel_rfl) (by kernel_rfl) (by kernel_rfl)
inductive Nd where
 | mk (name:List UInt8) (kind:Int) (exec:Bool) (data:List UInt8) (kids:List Nd)
def Nd.name:Nd->List UInt8|.mk n _ _ _ _=>n
def Nd.exec:Nd->Bool|.mk _ _ e _ _=>e
def Nd.kids:Nd->List Nd|.mk _ _ _ _ l=>l
mutual
def cntN:Nd->Nat
 | .mk _ _ _ _ l=>1+cntL l
def cntL:List Nd->Nat
 | []=>0
 | x::l=>cntN x+cntL l
end
mutual
def Nd.ok:Nd->Prop
 | .mk n k _ d l=>n.length<9223372036854775808/\(-9223372036854775808<=k/\k<9223372036854775808)/\d.length<=3000/\l.length<=3000/\1+cntL l<4611686018427387904/\okL l
def okL:List Nd->Prop
 | []=>True
 | x::l=>x.ok/\okL l
end
section
variable {s:St}
variable {b:Nat} {x:Nd}
end
theorem qgl {α:Type} {l r:List α} {i:Nat} {y:α} (h:l.drop i=y::r):∃hlt:i<l.length,l[i]=y/\l.drop (i+1)=r/\y∈l:=by
 have hlt:i<l.length:=by
  rcases Nat.lt_or_ge i l.length with h'|h'
  . exact h'
  . rw[List.drop_eq_nil_of_le h']at h; cases h
 rw[List.drop_eq_getElem_cons hlt]at h;simp only[List.cons.injEq]at h;exact⟨hlt,h.1,h.2,h.1▸List.getElem_mem hlt⟩
theorem drop_end {α:Type} {l:List α} {i:Nat} (h:l.drop i=[]):l.length<=i:=List.drop_eq_nil_iff.1 h
theorem dec_lt {a b:Nat} (h:a<b):decide ((a:Int)<(b:Int))=true:=by simp; omega
theorem dec_ge {a b:Nat} (h:b<=a):decide ((a:Int)<(b:Int))=false:=by simp; omega
theorem qlq {i:Nat} (h:i<9223372036854775807):IntKind.i64.wrap ((i:Int)+1)=((i+1:Nat):Int):=by
 rw[qnv (by omega) (by omega)]; omega
def qbm (c:UInt8):Bool:=c==47||c==0
theorem u8_eq (c d:UInt8):(c==d)=decide ((c.toNat:Int)=(d.toNat:Int)):=by
 rw[Bool.eq_iff_iff];simp only[beq_iff_eq,decide_eq_true_eq];constructor
 . rintro rfl; rfl
 . intro h; exact UInt8.toNat_inj.1 (by omega)
structure TextIn where
 s:List UInt8
 hs:s.length<9223372036854775808
section
variable {s:St}
def AgAt (s:St) (b e z:Nat) (t:Tr V):Prop:=∃c,s.heap.get b=some (.cells e z 1 false c)/\c.get 0=some t
theorem ag_new (ho:s.on=false) (e z:Nat) (t:Tr V):AgAt (nwP e z t s).2 s.next e z t/\Grew (fun _=>False) s (nwP e z t s).2/\(nwP e z t s).2.next=s.next+1:=by
 refine⟨⟨Tr.ofListFrom .nil [t] 0,?_,by rw[Tr.get_ofList]; rfl⟩,qcq ho _ _,rfl⟩;show(qag s e z [t]).heap.get s.next=_
 unfold qag;rw[qfw,iP rfl]; rfl
theorem AgAt.ldk (ho:s.on=false) {b e z:Nat} {t:Tr V} (h:AgAt s b e z t) (hz:z<big):ldK s b 0 z=some (t,s):=by
 obtain⟨c,h1,h2⟩:=h;unfold ldK;rw[h1];simp only[ble_true.2 (show 0+z<=z*1 by omega),blt_true.2 (show z*1<big by omega),Bool.and_self,cT];unfold qf3;rw[show Nat.beq z z=true from beq_true.2 rfl,Nat.zero_mod,show Nat.beq 0 0=true from rfl];simp only[Bool.and_self,cT,Nat.zero_div,h2,oB,qb3 ho]
theorem AgAt.ldA (ho:s.on=false) {b e z:Nat} {t:Tr V} (h:AgAt s b e z t) (hz:z<big):Ev.ldA z (.ptr b 0) s=some (.agg z t,s):=by
 show((ldK s b 0 z).bind fun p=>some (V.agg z p.1,p.2))=_;rw[h.ldk ho hz]; rfl
theorem AgAt.ldrA (ho:s.on=false) {b e z:Nat} {t:Tr V} (h:AgAt s b e z t) (hz:z<big):Ev.ldrA z (.ptr b 0) s=some (.agg z t,s):=by
 show((ldK s b 0 z).bind fun p=>some (V.agg z p.1,p.2))=_;rw[h.ldk ho hz]; rfl
theorem AgAt.stA (ho:s.on=false) {b e z:Nat} {t:Tr V} (h:AgAt s b e z t) (hz:z<big) (u:Tr V):∃w,stP z (.ptr b 0) (.agg z u) s=some (.tuple [],w)/\AgAt w b e z u/\Grew (fun x=>x=b) s w/\w.next=s.next:=by
 obtain⟨c,h1,h2⟩:=h;refine⟨s.put b (.cells e z 1 false (c.set u 0)),?_,⟨c.set u 0,by rw[qc4,iP rfl],by rw[Tr.get_set,iP rfl]⟩,qan b _,rfl⟩;show vu (bif Nat.beq z z&&!false then stK s b 0 z u else none)=_;rw[show Nat.beq z z=true from beq_true.2 rfl];simp only[nF,Bool.and_self,cT]
 have:stK s b 0 z u=some (s.put b (.cells e z 1 false (c.set u 0))):=by
  unfold stK;rw[h1];simp only[ble_true.2 (show 0+z<=z*1 by omega),blt_true.2 (show z*1<big by omega),Bool.and_self,nF,cT];unfold qep;rw[show Nat.beq z z=true from beq_true.2 rfl,Nat.zero_mod,show Nat.beq 0 0=true from rfl];simp only[Bool.and_self,cT,Nat.zero_div,Tr.setC_eq,oB,qb3 ho]
 rw[this]; rfl
theorem AgAt.ld1 (ho:s.on=false) {b e z i:Nat} {t:Tr V} {v:V} (h:AgAt s b e z t) (hz:z<big) (hi:i<z) (hv:t.get i=some v):Ev.ld1 (.ptr b i) s=some (v,s):=by
 obtain⟨c,h1,h2⟩:=h;show ld s b i=_;exact ld_of ho h1 (by omega) (by omega) (by rw[qoi hi,h2]; exact hv)
theorem AgAt.st1 (ho:s.on=false) {b e z i:Nat} {t:Tr V} (h:AgAt s b e z t) (hz:z<big) (h1z:1<z) (hi:i<z) (v:V) (hs:v.size=1) (hc:v.cells=Ev.one v) (hv:qai v=false):∃w,stP 1 (.ptr b i) v s=some (.tuple [],w)/\AgAt w b e z (t.set v i)/\Grew (fun x=>x=b) s w/\w.next=s.next:=by
 obtain⟨c,h1,h2⟩:=h;refine⟨s.put b (.cells e z 1 false (c.set (t.set v i) 0)),?_,⟨c.set (t.set v i) 0,by rw[qc4,iP rfl],by rw[Tr.get_set,iP rfl]⟩,qan b _,rfl⟩;show vu (bif Nat.beq v.size 1&&!qai v then stK s b i 1 v.cells else none)=_;rw[hs,hv,hc];simp only[show Nat.beq 1 1=true from rfl,nF,Bool.and_self,cT]
 have:stK s b i 1 (Ev.one v)=some (s.put b (.cells e z 1 false (c.set (t.set v i) 0))):=by
  unfold stK;rw[h1];simp only[ble_true.2 (show i+1<=z*1 by omega),blt_true.2 (show z*1<big by omega),Bool.and_self,nF,cT];unfold qep;rw[show Nat.beq 1 z=false from beq_false.2 (by omega)];simp only[Bool.false_and,cF,qhh,show(Ev.one v).get 0=some v from rfl,oB,Nat.add_zero,Nat.div_eq_of_lt hi,Nat.mod_eq_of_lt hi,h2,Tr.setC_eq,qb3 ho]
 rw[this]; rfl
end
def ixB (l:List UInt8) (c:UInt8):Int:=match l.findIdx? (fun x=>x==c)with|some i=>(i:Int)|none=>-1
structure ByteIn where
 s:List UInt8
 c:UInt8
noncomputable def kfIndexByte:KF:=qg4 (fun p:ByteIn=>[sv p.s,.int .u8 (p.c.toNat:Int)]) (fun p=>En.ret (.int .i64 (ixB p.s p.c)))
theorem qif (s:List UInt8) (c:UInt8) (S:St):kfIndexByte.run [sv s,.int .u8 (c.toNat:Int)] S=some (.ret (.int .i64 (ixB s c)),S):=
 qjh (enc:=fun p:ByteIn=>[sv p.s,.int .u8 (p.c.toNat:Int)]) (out:=fun p=>En.ret (.int .i64 (ixB p.s p.c))) (fun p q h=>by
  simp only[List.cons.injEq,V.int.injEq,true_and,and_true]at h
  rw[sv_inj h.1,UInt8.toNat_inj.1 (show p.c.toNat=q.c.toNat by omega)]) ⟨s,c⟩ S
theorem qqa {n:Nat} (h:n<256):(UInt8.ofNat n).toNat=n:=by simp[UInt8.toNat_ofNat']; omega
theorem extV_one (l n c:Nat) (S:St):extV 1 [.str l n,.int .u8 (.ofNat c)] S=bif Nat.blt c 256 then match indexByte c l 0 n with
 | some i=>some (.val (.int .i64 (.ofNat i)) S)
 | none=>some (.val (.int .i64 (-1)) S)
 else none:=rfl
theorem callK_ext {E:Env} {self:EV} {f k:Nat} (h:E.ext.get f=some k) (x y args:List V) (S:St):qk0 E self (.fn (.func f) x y) args S=(extV k (x++args++y) S).bind fun
 | .val v s=>some (.ret v,s)
 | _=>none:=by
 show(match E.ext.get f with|some k=>_|none=>_)=_;rw[h];rfl
theorem ext76:E0.ext.get 77=some 1:=by kernel_rfl
theorem ext_ixB (s:List UInt8) (c:UInt8) (S:St):extV 1 [sv s,.int .u8 (c.toNat:Int)] S=some (.val (.int .i64 (ixB s c)) S):=by
 have h1:extV 1 [sv s,.int .u8 (c.toNat:Int)] S=bif Nat.blt c.toNat 256 then match indexByte c.toNat s.length 0 (qaz s)with
  | some i=>some (.val (.int .i64 (.ofNat i)) S)
  | none=>some (.val (.int .i64 (-1)) S)
  else none:=extV_one _ _ _ _
 rw[h1,blt_true.2 c.toNat_lt,qgn,ixB];cases s.findIdx? (fun x=>x==c)with
 | none=>rfl
 | some i=>rfl
theorem call76 (self:EV) (s:List UInt8) (c:UInt8) (S:St):qk0 E0 self (.fn (.func 77) [] []) [sv s,.int .u8 (c.toNat:Int)] S=some (.ret (.int .i64 (ixB s c)),S):=by
 have h:=callK_ext (E:=E0) (self:=self) ext76 [] [] [sv s,.int .u8 (c.toNat:Int)] S;have h2:=ext_ixB s c S;rw[List.nil_append,List.append_nil,h2]at h;exact h
theorem F73_of (self:EV) (N:Nat) (s:V) (c:UInt8) (S:St) (v:V) (h:qk0 E0 self (.fn (.func 77) [] []) [s,.int .u8 (c.toNat:Int)] S=some (.ret v,S)):F56 self N s (.int .u8 (c.toNat:Int)) S=some (.ret v,S):=by
 rw[F56_eq,h,callP_ret]
theorem F73_spec (self:EV) (N:Nat) (s:List UInt8) (c:UInt8) (S:St):F56 self N (sv s) (.int .u8 (c.toNat:Int)) S=some (.ret (.int .i64 (ixB s c)),S):=
 F73_of self N (sv s) c S (.int .i64 (ixB s c)) (call76 self s c S)
theorem kn63 {K:FuncId->Option KF} (hK:KnOk Try.prog E0 K) (h73:K 56=none):KnWell Try.prog E0 24 kfIndexByte:=
 qki (fn:=Try.f24) (c:=C24) (d:=B24) E0_ok hK (by kernel_rfl) (by kernel_rfl) (qa5 C24 _ (by kernel_rfl)) fun p S ho=>by
  refine⟨1,.ret (.int .i64 (ixB p.s p.c)),S,(?_:F24 (ev E0 K 1) qa4 (sv p.s) (.int .u8 (p.c.toNat:Int)) S=_),Grew.refl _ _,Fz.same (.int _ _)⟩;rw[F24_eq,qaa (c:=C56) (d:=B56) (by kernel_rfl) (by kernel_rfl) (qa5 C56 _ (by kernel_rfl)) h73 (F73_spec (ev E0 K 0) qa4 p.s p.c S)];rfl
theorem F82_spec (self:EV) (N:Nat) (r:Nat) (S:St):∃v:Bool,F97 self N (.int .i32 (r:Int)) S=some (.ret (.bool v),S):=by
 rw[F97_eq,binV_ii,intsV_leq,show decide ((0:Int)<=(r:Int))=true by simp];simp only[oB,qnj,cT,binV_ii];rw[intsV_lss,intsV_lss];generalize decide ((r:Int)<55296)=b1;generalize decide ((57343:Int)<(r:Int))=b2;cases b1 with
 | true=>exact⟨true,rfl⟩
 | false=>
  cases b2 with
  | false=>exact⟨false,rfl⟩
  | true=>
   simp only[cT,cF,oB,binV_ii,ifK_bool,qaw,qnj];rw[intsV_leq];generalize decide ((r:Int)<=1114111)=b3;cases b3
   . exact⟨false,rfl⟩
   . exact⟨true,rfl⟩
def bad2:List UInt8:=[47,0]
def ixR (r:Nat):Int:=if r=47 then 0 else if r=0 then 1 else -1
theorem ixB_bad2 (c:UInt8):ixB bad2 c=ixR c.toNat:=by
 unfold ixB bad2 ixR;by_cases h1:c=47
 . subst h1; rfl
 . by_cases h2:c=0
   . subst h2; rfl
   . have h3:¬c.toNat=47:=fun h=>h1 (UInt8.toNat_inj.1 h)
     have h4:¬c.toNat=0:=fun h=>h2 (UInt8.toNat_inj.1 h);rw[iN h3,iN h4];have h5:((47:UInt8)==c)=false:=by simpa using fun h=>h1 h.symm
     have h6:((0:UInt8)==c)=false:=by simpa using fun h=>h2 h.symm
     simp[List.findIdx?_cons,h5,h6]
theorem enc_last (r:Nat) (h:128<=r):∃a l,(Utf8.encode (r:Int)).data.toList=a++[l]/\1<=a.length/\a.length<=3/\128<=l.toNat:=by
 unfold Utf8.encode
 have hc:128<=(if Utf8.valid (r:Int)then(r:Int).toNat else Utf8.runeError):=by
  split
  . simpa using h
  . decide
 generalize (if Utf8.valid (r:Int)then(r:Int).toNat else Utf8.runeError)=c at hc;have hl:∀c:Nat,128<=(UInt8.ofNat (0x80+c%64)).toNat:=fun c=>by rw[qqa (by omega)]; omega
 simp only;rw[iN (by omega)];split
 . exact⟨[_],_,rfl,by simp,by simp,hl c⟩
 . split
   . exact⟨[_,_],_,rfl,by simp,by simp,hl c⟩
   . exact⟨[_,_,_],_,rfl,by simp,by simp,hl c⟩
theorem und9:und E0 9=some .string:=by kernel_rfl
theorem und21:und E0 21=some (.int .i32):=by kernel_rfl
section
variable {s:St}
theorem nextK_at (ho:s.on=false) {b l n pos:Nat} (h:s.heap.get b=some (.siter l n pos)) (hlt:pos<l):nextK (.ptr b 0) true s=some (.tuple [.bool true,.int .i64 (pos:Int),.int .i32 ((decP l n pos).1:Int)],s.put b (.siter l n (pos+(decP l n pos).2))):=by
 unfold nextK qib;simp only[cT,show Nat.beq 0 0=true from rfl,h,oB,qb3 ho,blt_true.2 hlt];unfold setO;rw[qb3 ho]; rfl
theorem nextK_end (ho:s.on=false) {b l n pos:Nat} (h:s.heap.get b=some (.siter l n pos)) (hge:l<=pos):nextK (.ptr b 0) true s=some (.tuple [.bool false],s):=by
 unfold nextK qib
 have hb:Nat.blt pos l=false:=by
  cases hc:Nat.blt pos l with
  | false=>rfl
  | true=>rw[blt_true]at hc; omega
 simp only[cT,show Nat.beq 0 0=true from rfl,h,oB,qb3 ho,hb,cF]
theorem qpx (l:List UInt8):qhb E0 9 (sv l) s=some (.ptr s.next 0,nw s (.siter l.length (qaz l) 0)):=by
 unfold qhb;rw[und9]; rfl
theorem put_on {b:Nat} {o:O} (ho:s.on=false):(s.put b o).on=false:=ho
end
theorem dec_bad0:decP 2 (qaz bad2) 0=(47,1):=by decide +kernel
theorem dec_bad1:decP 2 (qaz bad2) 1=(0,1):=by decide +kernel
theorem L78_bad (self:EV) (N:Nat) (nk:Ac->St->Rs) (ek:Nat->Ac->St->Rs) (n:Nat) (b:Nat) (S:St) (ho:S.on=false) (h:S.heap.get b=some (.siter 2 (qaz bad2) 0)) (hb:b<S.next) :
 ∃S',L82_20 self N nk ek (n+3) (.ptr b 0) S=ek 9 (fr 187 []) S'/\Grew (fun x=>x=b) S S':=by
 have g0:(S.put b (.siter 2 (qaz bad2) (0+(decP 2 (qaz bad2) 0).2))).heap.get b=some (.siter 2 (qaz bad2) 1):=by rw[qc4,iP rfl,dec_bad0]; rfl
 have g1:((S.put b (.siter 2 (qaz bad2) (0+(decP 2 (qaz bad2) 0).2))).put b (.siter 2 (qaz bad2) (1+(decP 2 (qaz bad2) 1).2))).heap.get b=some (.siter 2 (qaz bad2) 2):=by rw[qc4,iP rfl,dec_bad1]; rfl
 refine⟨_,?_,(qan (s:=S) b (.siter 2 (qaz bad2) (0+(decP 2 (qaz bad2) 0).2))).trans (qan b (.siter 2 (qaz bad2) (1+(decP 2 (qaz bad2) 1).2)))⟩;rw[qo0,nextK_at ho h (by omega),dec_bad0];simp only[oB,qab,List.getElem?_cons_zero,List.getElem?_cons_succ,ifK_bool,cT,binV_ii];rw[intsV_eql,show decide (((47:Nat):Int)=65533)=false by decide];simp only[oB,ifK_bool,cF];rw[dec_bad0]at g0 g1;rw[qo0,nextK_at (put_on ho) g0 (by omega),dec_bad1];simp only[oB,qab,List.getElem?_cons_zero,List.getElem?_cons_succ,ifK_bool,cT,binV_ii];rw[intsV_eql,show decide (((0:Nat):Int)=65533)=false by decide];simp only[oB,ifK_bool,cF];rw[dec_bad1]at g1;rw[qo0,nextK_end (put_on (put_on ho)) g1 (by omega)];simp only[oB,qab,List.getElem?_cons_zero,ifK_bool,cF]
theorem L78_enc (self:EV) (N:Nat) (nk:Ac->St->Rs) (ek:Nat->Ac->St->Rs) (n:Nat) (a:List UInt8) (l:UInt8) (h1:1<=a.length) (h3:a.length<=3) (hl:128<=l.toNat) (S:St) (ho:S.on=false)
 (h63:∀(s:List UInt8) (c:UInt8) S,self.f 24 [sv s,.int .u8 (c.toNat:Int)] S=some (.ret (.int .i64 (ixB s c)),S)) :
 L82_48 self N nk ek (n+1) (sv bad2) (sv (a++[l])) (.int .i64 (a.length:Int)) (.int .i64 (a.length:Int)) S=some (.ret (.int .i64 (-1)),S)\/L82_48 self N nk ek (n+1) (sv bad2) (sv (a++[l])) (.int .i64 (a.length:Int)) (.int .i64 (a.length:Int)) S=ek 1 (fr 187 []) S:=by
 rw[L82_48_eq];simp only[lnStr_sv,oB,binV_ii,intsV_lss,show bad2.length=2 from rfl];by_cases h2:a.length=1
 . left
   have hlast:(a++[l])[1]'(by simp; omega)=l:=by rw[List.getElem_append_right (by omega)]; simp[h2]
   rw[h2];simp only[show decide (((1:Nat):Int)<((2:Nat):Int))=true by decide,ifK_bool,cT,ixS_sv bad2 .i64 1 (by decide),ixS_sv (a++[l]) .i64 1 (by simp; omega),hlast,oB,binV_ii,intsV_neq,qhc ho]
   have hne:decide (((bad2[1]'(by decide)).toNat:Int)=(l.toNat:Int))=false:=by
    rw[decide_eq_false_iff_not];show ¬((0:Nat):Int)=(l.toNat:Int)
    omega
   rw[hne];simp only[nF,cT,intsV_add,oB];rw[show IntKind.i64.wrap (((1:Nat):Int)+1)=((2:Nat):Int) by decide,slice_sv und9 bad2 (bounds_lo .i64 (show 2<=bad2.length by decide)) (lR _)];simp only[oB,ixS_sv (a++[l]) .i64 1 (by simp; omega),hlast];rw[show List.take (bad2.length-2) (List.drop 2 bad2)=[]from rfl,h63 [] l,show ixB [] l=-1 from rfl];simp only[qa7,binV_ii,intsV_lss,show decide ((-1:Int)<0)=true by decide,oB,ifK_bool,cT,qhc ho,qik]
 . right
   rw[show decide ((a.length:Int)<((2:Nat):Int))=false by simp; omega];rfl
theorem convertV_rune {E:Env} {src dst:TypeId} {k k':IntKind} (hs:und E src=some (.int k)) (hd:und E dst=some .string) (n:Int) (S:St):qch E src dst (.int k' n) S=some (sv (Utf8.encode n).data.toList,S):=by
 unfold qch sv;rw[hs,hd];rfl
structure RuneIn where
 r:Nat
 hr:r<=1114111
noncomputable def kfIndexRune:KF:=qg4 (fun p:RuneIn=>[sv bad2,.int .i32 (p.r:Int)]) (fun p=>En.ret (.int .i64 (ixR p.r)))
theorem qp6 (r:Nat) (hr:r<=1114111) (S:St):kfIndexRune.run [sv bad2,.int .i32 (r:Int)] S=some (.ret (.int .i64 (ixR r)),S):=
 qjh (enc:=fun p:RuneIn=>[sv bad2,.int .i32 (p.r:Int)]) (out:=fun p=>En.ret (.int .i64 (ixR p.r))) (fun p q h=>by
  simp only[List.cons.injEq,V.int.injEq,true_and,and_true]at h
  rw[show p.r=q.r by omega]) ⟨r,hr⟩ S
theorem F78_far (self:EV) (m:Nat) (x:V) (b1 v:Bool) (a:List UInt8) (l:UInt8) (h1:1<=a.length) (h3:a.length<=3) (hl:128<=l.toNat) (S:St) (ho:S.on=false)
 (h63:∀(s:List UInt8) (c:UInt8) S,self.f 24 [sv s,.int .u8 (c.toNat:Int)] S=some (.ret (.int .i64 (ixB s c)),S))
 (e0:qa6 E0 .leq 21 true false (.int .i32 0) x=some (.bool true)) (e1:qa6 E0 .lss 21 false true x (.int .i32 128)=some (.bool false)) (e2:qa6 E0 .eql 21 false true x (.int .i32 65533)=some (.bool b1))
 (h82:self.f 97 [x] S=some (.ret (.bool v),S)) (hcv:qch E0 21 9 x S=some (sv (a++[l]),S)) :
 ∃S',F82 self (m+3) (sv bad2) x S=some (.ret (.int .i64 (-1)),S')/\Grew (fun _=>False) S S':=by
 rw[F82_eq,e0];simp only[oB,qnj,cT];rw[e1];simp only[oB,qaw,cT,ifK_bool,cF];rw[e2];cases b1 with
 | true=>
  simp only[oB,ifK_bool,cT,qpx];have hg:=qcq ho (fun _=>False) (.siter bad2.length (qaz bad2) 0);obtain⟨S',h1,h2⟩:=L78_bad self (m+3) (R82_16 self (m+3) (qc0 E0 self Try.f82) (exB 0 (qc0 E0 self Try.f82) qbd)) (exB 9 (R82_16 self (m+3) (qc0 E0 self Try.f82) (exB 0 (qc0 E0 self Try.f82) qbd)) (exB 0 (qc0 E0 self Try.f82) qbd)) m S.next (nw S (.siter bad2.length (qaz bad2) 0)) (qpe ho _) (by rw[qfw,iP rfl]; rfl) (by show S.next<S.next+1; omega)
  refine⟨S',?_,hg.own (lR _) h2⟩;rw[h1,exB_same,R82_16_eq]
 | false=>
  simp only[oB,ifK_bool,cF];rw[h82];simp only[callP_ret,unV,oB,ifK_bool];cases v with
  | false=>exact⟨S,rfl,Grew.refl _ _⟩
  | true=>
   refine⟨S,?_,Grew.refl _ _⟩;rw[Bool.not_true,cF,hcv,oB,lnStr_sv,oB,binV_ii,intsV_sub];rw[show(((a++[l]).length:Nat):Int)-1=(a.length:Int) by simp,qnv (by omega) (by omega),oB];have hL:=L78_enc self (m+3) (R82_46 self (m+3) (qc0 E0 self Try.f82) (exB 0 (qc0 E0 self Try.f82) qbd)) (exB 1 (R82_46 self (m+3) (qc0 E0 self Try.f82) (exB 0 (qc0 E0 self Try.f82) qbd)) (exB 0 (qc0 E0 self Try.f82) qbd)) (m+2) a l h1 h3 hl S ho h63;rcases hL with hL|hL
   . exact hL
   . exact hL.trans (by rw[exB_same,R82_46_eq])
theorem F78_spec (self:EV) (m r:Nat) (S:St) (ho:S.on=false)
 (h63:∀(s:List UInt8) (c:UInt8) S,self.f 24 [sv s,.int .u8 (c.toNat:Int)] S=some (.ret (.int .i64 (ixB s c)),S))
 (h82:∀S,∃v:Bool,self.f 97 [.int .i32 (r:Int)] S=some (.ret (.bool v),S)) :
 ∃S',F82 self (m+3) (sv bad2) (.int .i32 (r:Int)) S=some (.ret (.int .i64 (ixR r)),S')/\Grew (fun _=>False) S S':=by
 have e0:qa6 E0 .leq 21 true false (.int .i32 0) (.int .i32 (r:Int))=some (.bool true):=by rw[binV_ii,intsV_leq,show decide ((0:Int)<=(r:Int))=true by simp]
 by_cases h128:r<128
 . have hc:(UInt8.ofNat r).toNat=r:=qqa (by omega)
   have h:=h63 bad2 (UInt8.ofNat r) S;rw[ixB_bad2,hc]at h;refine⟨S,?_,Grew.refl _ _⟩;rw[F82_eq,e0];simp only[oB,qnj,cT,binV_ii,intsV_lss];rw[show decide ((r:Int)<128)=true by simp; omega];simp only[oB,qaw,cT,ifK_bool,cvI_int];rw[wrap_u8 (by omega) (by omega),h];rfl
 . have e1:qa6 E0 .lss 21 false true (.int .i32 (r:Int)) (.int .i32 128)=some (.bool false):=by rw[binV_ii,intsV_lss,show decide ((r:Int)<128)=false by simp; omega]
   have e2:qa6 E0 .eql 21 false true (.int .i32 (r:Int)) (.int .i32 65533)=some (.bool (decide ((r:Int)=65533))):=by rw[binV_ii,intsV_eql]
   obtain⟨v,hv⟩:=h82 S;obtain⟨a,l,ha,h1,h3,hl⟩:=enc_last r (by omega)
   have hcv:qch E0 21 9 (.int .i32 (r:Int)) S=some (sv (a++[l]),S):=by
    rw[<- ha];exact convertV_rune und21 und9 _ S
   have hx:ixR r=-1:=by unfold ixR; rw[iN (by omega),iN (by omega)]
   rw[hx];exact F78_far self m _ _ v a l h1 h3 hl S ho h63 e0 e1 e2 hv hcv
theorem kn78 {K:FuncId->Option KF} (hK:KnOk Try.prog E0 K) (h63:K 24=some kfIndexByte) (h82:K 97=none):KnWell Try.prog E0 82 kfIndexRune:=
 qki (fn:=Try.f82) (c:=C82) (d:=B82) E0_ok hK (by kernel_rfl) (by kernel_rfl) (qa5 C82 _ (by kernel_rfl)) fun p S ho=>by
  obtain⟨S',h1,h2⟩:=F78_spec (ev E0 K 1) (qa4-3) p.r S ho (fun s c S=>by rw[qhk h63,qif]) (fun S=>by
   obtain⟨v,hv⟩:=F82_spec (ev E0 K 0) qa4 p.r S
   exact⟨v,qaa (c:=C97) (d:=B97) (by kernel_rfl) (by kernel_rfl) (qa5 C97 _ (by kernel_rfl)) h82 hv⟩)
  rw[show qa4-3+3=qa4 by unfold qa4; omega]at h1;exact⟨1,.ret (.int .i64 (ixR p.r)),S',h1,h2,Fz.same (.int _ _)⟩
theorem byteP_at {l:List UInt8} {i:Nat} (h:i<l.length):qd4 (qaz l) i=l[i].toNat:=qpp i l l[i] (List.getElem?_eq_getElem h)
theorem decP_ascii {l:List UInt8} {i:Nat} (h:i<l.length) (hc:l[i].toNat<128):decP l.length (qaz l) i=(l[i].toNat,1):=by
 unfold decP;rw[byteP_at h,blt_true.2 hc]; rfl
theorem qj2 {l:List UInt8} {j:Nat} (h:qjk l.length (qaz l) j=true):∃hj:j<l.length,128<=l[j].toNat:=by
 unfold qjk at h;rw[bA,blt_true,Ev.beq_true]at h;obtain⟨h1,h2⟩:=h;rw[byteP_at h1]at h2;exact⟨h1,by omega⟩
structure Far (l:List UInt8) (i:Nat) (p:Nat×Nat):Prop where
 lo:128<=p.1
 hi:p.1<=1114111
 pos:1<=p.2
 fit:i+p.2<=l.length
 all:∀j,j<p.2->∃hj:i+j<l.length,128<=l[i+j].toNat
theorem far_one {l:List UInt8} {i:Nat} (h:i<l.length) (hc:128<=l[i].toNat) {r:Nat} (h1:128<=r) (h2:r<=1114111):Far l i (r,1):=
 ⟨h1,h2,lR _,by show i+1<=_; omega,fun j hj=>by
  have hj':j<1:=hj;obtain rfl:j=0:=by omega
  exact⟨h,hc⟩⟩
theorem far_if {l:List UInt8} {i:Nat} (h:i<l.length) (hc:128<=l[i].toNat) {w X:Nat} (b:Bool) (hb:b=true->128<=X/\X<=1114111) (h1:1<=w) (hfit:i+w<=l.length)
 (hall:∀j,j<w->∃hj:i+j<l.length,128<=l[i+j].toNat):Far l i (bif b then(X,w)else(65533,1)):=by
 cases b with
 | true=>exact⟨(hb rfl).1,(hb rfl).2,h1,hfit,hall⟩
 | false=>exact far_one h hc (by omega) (by omega)
theorem validP_le {X:Nat} (h:validP X=true):X<=1114111:=by
 unfold validP at h;rw[Bool.or_eq_true,blt_true,bA,ble_true,ble_true]at h;omega
theorem decP_far {l:List UInt8} {i:Nat} (h:i<l.length) (hc:128<=l[i].toNat):Far l i (decP l.length (qaz l) i):=by
 unfold decP;rw[byteP_at h];have hlt:=l[i].toNat_lt
 have h0:Nat.blt l[i].toNat 128=false:=by
  cases hb:Nat.blt l[i].toNat 128 with
  | false=>rfl
  | true=>rw[blt_true]at hb; omega
 rw[h0,cF];cases h2:(Nat.beq (l[i].toNat/32) 6&&qjk l.length (qaz l) (i+1))with
 | true=>
  rw[bA,Ev.beq_true]at h2;obtain⟨c1,c2⟩:=qj2 h2.2;rw[cT];refine far_if h hc _ (fun hb=>?_) (by omega) (by omega) fun j hj=>?_
  . rw[ble_true]at hb; omega
  . match j,hj with
    | 0,_=>exact⟨h,hc⟩
    | 1,_=>exact⟨c1,c2⟩
 | false=>
 rw[cF];cases h3:(Nat.beq (l[i].toNat/16) 14&&qjk l.length (qaz l) (i+1)&&qjk l.length (qaz l) (i+2))with
 | true=>
  rw[bA,bA]at h3;obtain⟨c1,c2⟩:=qj2 h3.1.2;obtain⟨d1,d2⟩:=qj2 h3.2;rw[cT];refine far_if h hc _ (fun hb=>?_) (by omega) (by omega) fun j hj=>?_
  . rw[bA,ble_true]at hb
    exact⟨Nat.le_trans (by omega) hb.1,validP_le hb.2⟩
  . match j,hj with
    | 0,_=>exact⟨h,hc⟩
    | 1,_=>exact⟨c1,c2⟩
    | 2,_=>exact⟨d1,d2⟩
 | false=>
 rw[cF];cases h4:(Nat.beq (l[i].toNat/8) 30&&qjk l.length (qaz l) (i+1)&&qjk l.length (qaz l) (i+2)&&qjk l.length (qaz l) (i+3))with
 | true=>
  rw[bA,bA,bA]at h4;obtain⟨c1,c2⟩:=qj2 h4.1.1.2;obtain⟨d1,d2⟩:=qj2 h4.1.2;obtain⟨e1,e2⟩:=qj2 h4.2;rw[cT];refine far_if h hc _ (fun hb=>?_) (by omega) (by omega) fun j hj=>?_
  . rw[bA,ble_true]at hb
    exact⟨Nat.le_trans (by omega) hb.1,validP_le hb.2⟩
  . match j,hj with
    | 0,_=>exact⟨h,hc⟩
    | 1,_=>exact⟨c1,c2⟩
    | 2,_=>exact⟨d1,d2⟩
    | 3,_=>exact⟨e1,e2⟩
 | false=>
  rw[cF];exact far_one h hc (by omega) (by omega)
def qgi (s:List UInt8) (pos:Nat):Option Nat:=((s.drop pos).findIdx? qbm).map fun j=>pos+j
theorem anyAt_end {s:List UInt8} {pos:Nat} (h:s.length<=pos):qgi s pos=none:=by unfold qgi; rw[List.drop_eq_nil_of_le h]; rfl
theorem anyAt_hit {s:List UInt8} {pos:Nat} (h:pos<s.length) (hb:qbm s[pos]=true):qgi s pos=some pos:=by
 unfold qgi;rw[List.drop_eq_getElem_cons h,List.findIdx?_cons,iP hb]; rfl
theorem qo5 {s:List UInt8} {pos:Nat} (h:pos<s.length) (hb:qbm s[pos]=false):qgi s pos=qgi s (pos+1):=by
 unfold qgi;rw[List.drop_eq_getElem_cons h,List.findIdx?_cons,iN (by rw[hb]; simp),Option.map_map]
 congr 1
 funext j
 show pos+(j+1)=pos+1+j;omega
theorem anyAt_skip {s:List UInt8}:∀(w pos:Nat),(∀j,j<w->∃hj:pos+j<s.length,qbm s[pos+j]=false)->qgi s pos=qgi s (pos+w)
 | 0,pos,_=>rfl
 | w+1,pos,h=>by
  obtain⟨h0,hb⟩:=h 0 (by omega)
  rw[qo5 (pos:=pos) h0 hb,anyAt_skip w (pos+1) fun j hj=>by
   obtain⟨h1,h2⟩:=h (j+1) (by omega);have e:pos+1+j=pos+(j+1):=by omega
   exact⟨by omega,by simp only[e]; exact h2⟩]
  congr 1
  omega
theorem bad_iff (c:UInt8):qbm c=decide (0<=ixR c.toNat):=by
 unfold qbm ixR;rw[u8_eq c 47,u8_eq c 0,show UInt8.toNat 47=47 from rfl,show UInt8.toNat 0=0 from rfl];by_cases h1:c.toNat=47
 . simp[h1]
 . by_cases h2:c.toNat=0
   . simp[h2]
   . simp only[h1,h2,if_false]
     rw[Bool.eq_iff_iff];simp;omega
theorem far_ok {c:UInt8} (h:128<=c.toNat):qbm c=false:=by
 rw[bad_iff];unfold ixR;rw[iN (by omega),iN (by omega)]; rfl
theorem ixR_far {r:Nat} (h:128<=r):ixR r=-1:=by unfold ixR; rw[iN (by omega),iN (by omega)]
def outAny (L:Rs) (E:St->Rs) (o:Option Nat) (S':St):Prop:=
 match o with
 | some j=>L=some (.ret (.int .i64 (j:Int)),S')
 | none=>L=E S'
theorem L77_spec (self:EV) (N:Nat) (nk:Ac->St->Rs) (ek:Nat->Ac->St->Rs) (s:List UInt8) (b:Nat)
 (h78:∀(r:Nat) S,r<=1114111->self.f 82 [sv bad2,.int .i32 (r:Int)] S=some (.ret (.int .i64 (ixR r)),S)) :
 ∀(k pos n:Nat) (S:St),s.length<=pos+k->k<n->pos<=s.length->S.on=false->S.heap.get b=some (.siter s.length (qaz s) pos)->
 ∃S',outAny (L78_27 self N nk ek n (sv bad2) (.ptr b 0) S) (fun S'=>ek 2 (fr 55 []) S') (qgi s pos) S'/\Grew (fun x=>x=b) S S'
 | k,pos,0,S,hk,hn,hp,ho,hb=>by omega
 | k,pos,n+1,S,hk,hn,hp,ho,hb=>by
  by_cases hend:pos=s.length
  . subst hend
    refine⟨S,?_,Grew.refl _ _⟩;rw[anyAt_end (lR _),L78_27_eq,nextK_end ho hb (lR _)];rfl
  . have hlt:pos<s.length:=by omega
    obtain⟨k,rfl⟩:∃k',k=k'+1:=⟨k-1,by omega⟩
    have hstep:∀r w:Nat,decP s.length (qaz s) pos=(r,w)->r<=1114111->1<=w->pos+w<=s.length->
     (ixR r=-1->qgi s pos=qgi s (pos+w))->(0<=ixR r->qgi s pos=some pos)->(ixR r=-1\/0<=ixR r)->
     ∃S',outAny (L78_27 self N nk ek (n+1) (sv bad2) (.ptr b 0) S) (fun S'=>ek 2 (fr 55 []) S') (qgi s pos) S'/\Grew (fun x=>x=b) S S':=by
     intro r w hd hr hw hfit hno hyes hor;have hgr:=qan (s:=S) b (.siter s.length (qaz s) (pos+w));rw[L78_27_eq,nextK_at ho hb hlt,hd];rw[oB];simp only[qab,List.getElem?_cons_zero,List.getElem?_cons_succ];rw[oB,ifK_bool,cT,oB,oB,h78 r _ hr,callP_ret,binV_ii,intsV_geq,oB,ifK_bool];rcases hor with hneg|hge
     . rw[hneg,show decide ((0:Int)<=-1)=false by decide,cF,hno hneg]
       obtain⟨S',h1,h2⟩:=L77_spec self N nk ek s b h78 k (pos+w) n (S.put b (.siter s.length (qaz s) (pos+w))) (by omega) (by omega) hfit ho (by rw[qc4,iP rfl]);exact⟨S',h1,hgr.trans h2⟩
     . rw[dT hge,cT,hyes hge]
       exact⟨_,rfl,hgr⟩
    by_cases hc:s[pos].toNat<128
    . refine hstep _ 1 (decP_ascii hlt hc) (by omega) (by omega) (by omega) (fun h=>qo5 hlt ?_) (fun h=>anyAt_hit hlt ?_) ?_
      . rw[bad_iff,h]; rfl
      . rw[bad_iff]; exact dT h
      . unfold ixR; split
        . right; omega
        . split
          . right; omega
          . left; rfl
    . have hf:=decP_far hlt (by omega)
      have hx:=ixR_far hf.lo
      exact hstep (decP s.length (qaz s) pos).1 (decP s.length (qaz s) pos).2 rfl hf.hi hf.pos hf.fit (fun _=>anyAt_skip _ _ fun j hj=>by
       obtain⟨h1,h2⟩:=hf.all j hj
       exact⟨h1,far_ok h2⟩) (fun h=>absurd h (by rw[hx]; decide)) (.inl hx)
theorem ixA_ptr (len z:Nat) (g:Bool) (k:Nat) (ik:IntKind) {b off n:Nat} (h:n<len):ixA len z g k (.ptr b off) (.int ik (n:Int))=some (.ptr b (off+n*z)):=by
 show(bif Nat.blt n len then some (V.ptr b (off+n*z))else none)=_;rw[blt_true.2 h]; rfl
theorem big256:256<big:=by unfold big; decide
theorem F81_spec (self:EV) (N:Nat) {b e:Nat} {t:Tr V} (c:UInt8) (S:St) (ho:S.on=false) (h:AgAt S b e 256 t) {v:V} (ht:t.get c.toNat=some v):F85 self N (.ptr b 0) (.int .u8 (c.toNat:Int)) S=some (.ret v,S):=by
 have hc:=c.toNat_lt;rw[F85_eq,show qa2 (.ptr b 0)=some (.ptr b 0)from rfl,oB,ixA_ptr 256 1 false 1 .u8 hc,oB,Nat.zero_add,Nat.mul_one,h.ld1 ho big256 hc ht];rfl
def IsSet (t:Tr V):Prop:=∀c:UInt8,t.get c.toNat=some (.bool (qbm c))
theorem F80_new (self:EV) (N:Nat) (x0:V) (S:St):F84 self N x0 S=(some (nwP 109 256 (Tr.ofListFrom .nil (List.replicate 256 (.bool false)) 0) S)).bind fun p0=>
 L84_8 self N (R84_2 self N (qc0 E0 self Try.f84) qbd) (exB 0 (R84_2 self N (qc0 E0 self Try.f84) qbd) qbd) N x0 p0.1 (.int .i64 0) p0.2:=by kernel_rfl
theorem isSet_made:IsSet (((Tr.ofListFrom .nil (List.replicate 256 (.bool false)) 0).set (.bool true) 47).set (.bool true) 0):=fun c=>by
 have hc:=c.toNat_lt;rw[Tr.get_set,Tr.get_set,Tr.get_ofList];unfold qbm;rw[u8_eq c 47,u8_eq c 0,show UInt8.toNat 47=47 from rfl,show UInt8.toNat 0=0 from rfl];by_cases h0:c.toNat=0
 . rw[iP h0,h0]; rfl
 . rw[iN h0]
   by_cases h1:c.toNat=47
   . rw[iP h1,h1]; rfl
   . rw[iN h1,List.getElem?_replicate,iP hc]
     have e1:decide ((c.toNat:Int)=((47:Nat):Int))=false:=by simp; omega
     have e2:decide ((c.toNat:Int)=((0:Nat):Int))=false:=by simp; omega
     rw[e1,e2]; rfl
theorem L80_step (self:EV) (N:Nat) (nk:Ac->St->Rs) (ek:Nat->Ac->St->Rs) (n i:Nat) (hi:i<2) {b e:Nat} {t:Tr V} (S:St) (ho:S.on=false) (h:AgAt S b e 256 t) :
 ∃S',L84_8 self N nk ek (n+1) (sv bad2) (.ptr b 0) (.int .i64 (i:Int)) S=L84_8 self N nk ek n (sv bad2) (.ptr b 0) (.int .i64 ((i+1:Nat):Int)) S'/\AgAt S' b e 256 (t.set (.bool true) (bad2[i]'hi).toNat)/\Grew (fun x=>x=b) S S':=by
 obtain⟨S',h1,h2,h3,_⟩:=h.st1 (i:=(bad2[i]'hi).toNat) (v:=.bool true) ho big256 (by omega) (bad2[i]'hi).toNat_lt rfl rfl rfl;refine⟨S',?_,h2,h3⟩
 have hlt:decide (((bad2[i]'hi).toNat:Int)≥128)=false:=by
  match i,hi with
  | 0,_=>rfl
  | 1,_=>rfl
 rw[L84_8_eq,lnStr_sv,oB,binV_ii,intsV_lss,dec_lt (show i<bad2.length from hi),oB,ifK_bool,cT,ixS_sv bad2 .i64 i hi,oB,binV_ii,intsV_geq];rw[show decide ((128:Int)<=((bad2[i]'hi).toNat:Int))=false from hlt,oB,ifK_bool,cF,ixA_ptr 256 1 false 1 .u8 (bad2[i]'hi).toNat_lt,oB,Nat.zero_add,Nat.mul_one,h1,oB,binV_ii,intsV_add,qlq (by omega),oB]
theorem AgAt.stSame {s:St} (ho:s.on=false) {b e z:Nat} {t:Tr V} (h:AgAt s b e z t) (hz:z<big):∃w,stP z (.ptr b 0) (.agg z t) s=some (.tuple [],w)/\AgAt w b e z t/\Grew (fun x=>x=b) s w:=by
 obtain⟨w,h1,h2,h3,_⟩:=h.stA ho hz t;exact⟨w,h1,h2,h3⟩
theorem F80_spec (self:EV) (m:Nat) (S:St) (ho:S.on=false):∃t S',F84 self (m+3) (sv bad2) S=some (.ret (.tuple [.agg 256 t,.bool true]),S')/\IsSet t/\Grew (fun _=>False) S S':=by
 obtain⟨k1,k2,k3⟩:=ag_new ho 109 256 (Tr.ofListFrom .nil (List.replicate 256 (.bool false)) 0);have hset:=isSet_made;have hon:(nwP 109 256 (Tr.ofListFrom .nil (List.replicate 256 (.bool false)) 0) S).2.on=false:=qpe ho _;rw[F80_new,oB,qdz];generalize (nwP 109 256 (Tr.ofListFrom .nil (List.replicate 256 (.bool false)) 0) S).2=S1 at *;obtain⟨S2,a1,a2,a3⟩:=L80_step self (m+3) (R84_2 self (m+3) (qc0 E0 self Try.f84) qbd) (exB 0 (R84_2 self (m+3) (qc0 E0 self Try.f84) qbd) qbd) (m+2) 0 (by decide) S1 hon k1;obtain⟨S3,b1,b2,b3⟩:=L80_step self (m+3) (R84_2 self (m+3) (qc0 E0 self Try.f84) qbd) (exB 0 (R84_2 self (m+3) (qc0 E0 self Try.f84) qbd) qbd) (m+1) 1 (by decide) S2 (a3.on.trans hon) a2;have on3:=b3.on.trans (a3.on.trans hon);obtain⟨S4,c1,c2,c3⟩:=b2.stSame on3 big256;refine⟨_,S4,?_,hset,k2.own (lR _) (a3.trans (b3.trans c3))⟩;rw[show(V.int .i64 0)=.int .i64 ((0:Nat):Int)from rfl,a1,b1,L84_8_eq,lnStr_sv,oB,binV_ii,intsV_lss,dec_ge (show bad2.length<=1+1 by decide),oB,ifK_bool,cF,exB_same,R84_2_eq,b2.ldA on3 big256,oB];dsimp only;rw[c1,oB];dsimp only;rw[c2.ldrA (c3.on.trans on3) big256];rfl
theorem qnz (self:EV) (N:Nat) (nk:Ac->St->Rs) (ek:Nat->Ac->St->Rs) (s:List UInt8) (hs:s.length<9223372036854775808) (b:Nat) (S:St) (h81:∀c:UInt8,self.f 85 [.ptr b 0,.int .u8 (c.toNat:Int)] S=some (.ret (.bool (qbm c)),S)) :
 ∀(r:List UInt8) (i n:Nat),s.drop i=r->r.length<n->outAny (L78_55 self N nk ek n (sv s) (.ptr b 0) (.int .i64 (i:Int)) S) (fun S=>ek 0 (fr 55 []) S) (qgi s i) S
 | r,i,0,_,hn=>by omega
 | [],i,n+1,hi,hn=>by
  rw[anyAt_end (drop_end hi),L78_55_eq,lnStr_sv,oB,binV_ii,intsV_lss,dec_ge (drop_end hi)];rfl
 | c::r,i,n+1,hi,hn=>by
  obtain⟨hlt,hc,hr,hmem⟩:=qgl hi;rw[L78_55_eq,lnStr_sv,oB,binV_ii,intsV_lss,dec_lt hlt,oB,ifK_bool,cT,ixS_sv s .i64 i hlt,hc,oB,h81 c,callP_ret,ifK_bool];cases hb:qbm c with
  | true=>
   rw[anyAt_hit hlt (by rw[hc]; exact hb)];rfl
  | false=>
   rw[qo5 hlt (by rw[hc]; exact hb),cF,binV_ii,intsV_add,qlq (by omega),oB];exact qnz self N nk ek s hs b S h81 r (i+1) n hr (by simp at hn; omega)
def outI (o:Option Nat):Int:=match o with|some j=>(j:Int)|none=>-1
theorem F77_short (self:EV) (m:Nat) (s:List UInt8) (hs:s.length<m) (S:St) (ho:S.on=false)
 (h78:∀(r:Nat) S,r<=1114111->self.f 82 [sv bad2,.int .i32 (r:Int)] S=some (.ret (.int .i64 (ixR r)),S)) :
 ∃S',qmj self m (qc0 E0 self Try.f78) qbd (fr 55 [(0,sv s),(1,sv bad2)]) S=some (.ret (.int .i64 (outI (qgi s 0))),S')/\Grew (fun _=>False) S S':=by
 have hg:=qcq ho (fun _=>False) (.siter s.length (qaz s) 0);obtain⟨S',h1,h2⟩:=L77_spec self m (R78_23 self m (fun a s=>qbo [4] a fun a=>qc0 E0 self Try.f78 a s) qbd) (exB 2 (R78_23 self m (fun a s=>qbo [4] a fun a=>qc0 E0 self Try.f78 a s) qbd) qbd) s S.next h78 s.length 0 m (nw S (.siter s.length (qaz s) 0)) (by omega) hs (by omega) (qpe ho _) (by rw[qfw,iP rfl])
 refine⟨S',?_,hg.own (lR _) h2⟩;rw[R78_22_eq,qpx,oB];unfold outAny at h1;unfold outI;cases hx:qgi s 0 with
 | some j=>rw[hx]at h1; exact h1
 | none=>
  rw[hx]at h1;exact h1.trans (by dsimp only; rw[exB_same,R78_23_eq])
theorem F77_new (self:EV) (N:Nat) (x0 x1:V) (S:St):F78 self N x0 x1 S =
(qa6 E0 .eql 9 false true x1 (sv [])).bind fun t2=>
ifK t2 (
some (.ret (.int .i64 (-1)),S)) (
(qeb x1 S).bind fun p5=>
(qa6 E0 .eql 3 false true p5.1 (.int .i64 1)).bind fun t6=>
ifK t6 (
(ixS x1 (.int .i64 0)).bind fun t8=>
(cvI .i32 t8 p5.2).bind fun p9=>
(qa6 E0 .geq 21 false true p9.1 (.int .i32 128)).bind fun t12=>
ifK t12 (
qah (self.f 82 [x0,(.int .i32 65533)] p9.2) fun t16 S16=>
some (.ret t16,S16)) (
qah (self.f 82 [x0,p9.1] p9.2) fun t20 S20=>
some (.ret t20,S20))) (
(qeb x0 p5.2).bind fun p41=>
qah (self.f 83 [p41.1] p41.2) fun t42 S42=>
ifK t42 (
qah (self.f 84 [x1] S42) fun t44 S44=>
(qab t44 0).bind fun t46=>
(qab t44 1).bind fun t47=>
(some (nwP 109 256 (Tr.ofListFrom .nil (List.replicate 256 (V.bool false)) 0) S44)).bind fun p48=>
(stP 256 p48.1 t46 p48.2).bind fun p49=>
ifK t47 (
L78_55 self N (R78_52 self N (qmj self N (qc0 E0 self Try.f78) qbd) qbd) (exB 0 (R78_52 self N (qmj self N (qc0 E0 self Try.f78) qbd) qbd) qbd) N x0 p48.1 (.int .i64 0) p49.2) (
qmj self N (qc0 E0 self Try.f78) qbd (fr 55 [(0,x0),(1,x1)]) p49.2)) (
qmj self N (qc0 E0 self Try.f78) qbd (fr 55 [(0,x0),(1,x1)]) S42))):=by kernel_rfl
theorem ag_lay {s:St} (ho:s.on=false) (e:Nat) (t0 u:Tr V):∃w,stP 256 (.ptr s.next 0) (.agg 256 u) (nwP e 256 t0 s).2=some (.tuple [],w)/\AgAt w s.next e 256 u/\Grew (fun _=>False) s w:=by
 obtain⟨k1,k2,_⟩:=ag_new ho e 256 t0;obtain⟨w,h1,h2,h3,_⟩:=k1.stA (qpe ho _) big256 u;exact⟨w,h1,h2,k2.own (lR _) h3⟩
theorem F77_spec (self:EV) (m:Nat) (s:List UInt8) (hs:s.length<m+3) (hs2:s.length<9223372036854775808) (S:St) (ho:S.on=false)
 (h78:∀(r:Nat) S,r<=1114111->self.f 82 [sv bad2,.int .i32 (r:Int)] S=some (.ret (.int .i64 (ixR r)),S))
 (h79:∀S,self.f 83 [.int .i64 (s.length:Int)] S=some (.ret (.bool (decide ((8:Int)<(s.length:Int)))),S))
 (h80:∀S,S.on=false->∃t S',self.f 84 [sv bad2] S=some (.ret (.tuple [.agg 256 t,.bool true]),S')/\IsSet t/\Grew (fun _=>False) S S')
 (h81:∀(c:UInt8) S b e t,S.on=false->AgAt S b e 256 t->IsSet t->self.f 85 [.ptr b 0,.int .u8 (c.toNat:Int)] S=some (.ret (.bool (qbm c)),S)) :
 ∃S',F78 self (m+3) (sv s) (sv bad2) S=some (.ret (.int .i64 (outI (qgi s 0))),S')/\Grew (fun _=>False) S S':=by
 rw[F77_new,binV_ss,strOp_eql,show(bad2==[])=false from rfl,oB,ifK_bool,cF,lnStr_sv,oB,binV_ii,intsV_eql,show decide ((bad2.length:Int)=1)=false by decide,oB,ifK_bool,cF,lnStr_sv,oB,h79,callP_ret,ifK_bool];cases decide ((8:Int)<(s.length:Int))with
 | false=>
  rw[cF];exact F77_short self (m+3) s hs S ho h78
 | true=>
  obtain⟨t,S1,k1,k2,k3⟩:=h80 S ho;have on1:=k3.on.trans ho;obtain⟨S2,l1,l2,l3⟩:=ag_lay on1 109 (Tr.ofListFrom .nil (List.replicate 256 (V.bool false)) 0) t;have on2:=l3.on.trans on1;have hL:=qnz self (m+3) (R78_52 self (m+3) (qmj self (m+3) (qc0 E0 self Try.f78) qbd) qbd) (exB 0 (R78_52 self (m+3) (qmj self (m+3) (qc0 E0 self Try.f78) qbd) qbd) qbd) s hs2 S1.next S2 (fun c=>h81 c S2 _ _ t on2 l2 k2) s 0 (m+3) rfl hs
  refine⟨S2,?_,k3.trans l3⟩;rw[cT,k1,callP_ret,show qab (.tuple [.agg 256 t,.bool true]) 0=some (.agg 256 t)from rfl,oB,show qab (.tuple [.agg 256 t,.bool true]) 1=some (.bool true)from rfl,oB,oB,qdz,l1,oB,ifK_bool,cT];unfold outAny at hL;unfold outI;cases hx:qgi s 0 with
  | some j=>rw[hx]at hL; exact hL
  | none=>
   rw[hx]at hL;exact hL.trans (by dsimp only; rw[exB_same,R78_52_eq])
theorem outI_any (s:List UInt8):decide (0<=outI (qgi s 0))=s.any qbm:=by
 unfold qgi outI;rw[List.drop_zero];cases h:s.findIdx? qbm with
 | none=>
  rw[List.findIdx?_eq_none_iff]at h
  have:s.any qbm=false:=by
   rw[List.any_eq_false];intro x hx;rw[h x hx]; simp
  rw[this]; rfl
 | some j=>
  have:s.any qbm=true:=by
   rw[List.any_eq_true];rw[List.findIdx?_eq_some_iff_getElem]at h;obtain⟨h1,h2,_⟩:=h;exact⟨_,List.getElem_mem h1,h2⟩
  rw[this];simp
noncomputable def kfAny:KF:=qg4 (fun p:TextIn=>[sv p.s,sv bad2]) (fun p=>En.ret (.bool (p.s.any qbm)))
theorem kfAny_run (s:List UInt8) (hs:s.length<9223372036854775808) (S:St):kfAny.run [sv s,sv bad2] S=some (.ret (.bool (s.any qbm)),S):=
 qjh (enc:=fun p:TextIn=>[sv p.s,sv bad2]) (out:=fun p=>En.ret (.bool (p.s.any qbm))) (fun p q h=>by
  simp only[List.cons.injEq,and_true]at h
  rw[sv_inj h]) ⟨s,hs⟩ S
theorem kn74 {K:FuncId->Option KF} (hK:KnOk Try.prog E0 K) (h78:K 82=some kfIndexRune) (h77:K 78=none) (h79:K 83=none) (h80:K 84=none) (h81:K 85=none):KnWell Try.prog E0 59 kfAny:=
 qki (fn:=Try.f59) (c:=C59) (d:=B59) E0_ok hK (by kernel_rfl) (by kernel_rfl) (qa5 C59 _ (by kernel_rfl)) fun p S ho=>by
  obtain⟨S',h1,h2⟩:=F77_spec (ev E0 K 1) (qa4-3) p.s (by have:=p.hs; unfold qa4; omega) p.hs S ho (fun r S hr=>by rw[qhk h78,qp6 r hr])
   (fun S=>qaa (c:=C83) (d:=B83) (by kernel_rfl) (by kernel_rfl) (qa5 C83 _ (by kernel_rfl)) h79 (show F83 (ev E0 K 0) qa4 _ S=_ by rw[F83_eq,binV_ii,intsV_gtr]; rfl))
   (fun S ho=>by
    obtain⟨t,S',h1,h2,h3⟩:=F80_spec (ev E0 K 0) (qa4-3) S ho;rw[show qa4-3+3=qa4 by unfold qa4; omega]at h1
    exact⟨t,S',qaa (c:=C84) (d:=B84) (by kernel_rfl) (by kernel_rfl) (qa5 C84 _ (by kernel_rfl)) h80 h1,h2,h3⟩)
   (fun c S b e t ho h hs=>qaa (c:=C85) (d:=B85) (by kernel_rfl) (by kernel_rfl) (qa5 C85 _ (by kernel_rfl)) h81 (F81_spec (ev E0 K 0) qa4 c S ho h (hs c)))
  rw[show qa4-3+3=qa4 by unfold qa4; omega]at h1;refine⟨2,.ret (.bool (p.s.any qbm)),S',(?_:F59 (ev E0 K 2) qa4 (sv p.s) (sv bad2) S=_),h2,Fz.same (.bool _)⟩;rw[F59_eq,qaa (c:=C78) (d:=B78) (by kernel_rfl) (by kernel_rfl) (qa5 C78 _ (by kernel_rfl)) h77 h1,callP_ret,binV_ii,intsV_geq,outI_any];rfl
open Go.RowKit Go.Proofs
def frz (W:World):Rho:=⟨fun _=>none,fun k=>W.heap[k]?⟩
theorem glob0:∀g,E0.glob.get g=none:=fun _=>rfl
noncomputable def kfTrue:KF:=qg4 (fun _:Unit=>[]) (fun _=>En.ret (.bool true))
theorem kfTrue_run (S:St):kfTrue.run [] S=some (.ret (.bool true),S):=qjh (enc:=fun _:Unit=>[]) (out:=fun _=>En.ret (.bool true)) (fun _ _ _=>rfl) () S
theorem relF (W:World):Rel E0 (base0 W) (frz W) s0 W:=
 ⟨⟨rfl,rfl,rfl,lR _,fun _ _=>rfl⟩,fun _ _=>rfl,lR _,fun b o h=>by simp[s0,Tr.get_nil]at h,fun b b' o o' cb sh sz sh' sz' h=>by simp[s0,Tr.get_nil]at h,fun g b h=>(by rw[glob0]at h; cases h),fun k o h=>h,fun b o cb sh sz h=>(by simp[s0,Tr.get_nil]at h),fun k o h _=>trivial⟩
theorem works_runs:saysTrue ((ev E0 (fun _=>none) 400).f 15 [] s0)=true:=by decide +kernel
theorem kn15:KnWell Try.prog E0 15 kfTrue:=by
 refine⟨specKF_loc,fun w0 ρ s w args cargs e t hR hv hg=>?_⟩;unfold kfTrue qg4 at hg;simp only at hg;by_cases hx:∃x:Unit,([]:List V)=args
 . rw[dif_pos hx]at hg
   simp only[oS,pM]at hg;obtain⟨rfl,rfl⟩:=hg;obtain⟨_,rfl⟩:=hx;obtain⟨l⟩:=cargs;cases hv;exact(closed_walk E0_ok knOk_nil glob0 works_runs w).mono fun ce w' ⟨h1,h2⟩=>⟨ρ,.bool true,h1,Rho.le_refl ρ,.bool true,hR.grown h2⟩
 . rw[dif_neg hx]at hg; cases hg
theorem sok38:SortedOk Try.prog 38 [66] 9:=sortedOk_of Try.sorted38 Try.sort65 rfl [66] fun g hg=>by
 simp only[List.mem_cons,List.not_mem_nil,or_false]at hg;subst hg;exact⟨Try.keys39_ren,{Try.keys39 with},rfl,rfl⟩
noncomputable def KO:=ql8 (fun _=>none) 38 (qd8 [66] 9)
theorem okO:KnOk Try.prog E0 KO:=knOk_nil.add (sorted_well sok38)
noncomputable def KA:=ql8 KO 15 kfTrue
theorem okA:KnOk Try.prog E0 KA:=okO.add kn15
noncomputable def KB:=ql8 KA 24 kfIndexByte
theorem okB:KnOk Try.prog E0 KB:=okA.add (kn63 okA rfl)
noncomputable def KC:=ql8 KB 82 kfIndexRune
theorem okC:KnOk Try.prog E0 KC:=okB.add (kn78 okB rfl rfl)
noncomputable def KD:=ql8 KC 59 kfAny
theorem okD:KnOk Try.prog E0 KD:=okC.add (kn74 okC rfl rfl rfl rfl rfl)
theorem lgD:Lg.KnLoc KD:=(((((Lg.knLoc_nil).add 38 fun _=>kfSorted_lg _ _ _).add 15 fun _=>Lg.specKF_lg _).add 24 fun _=>Lg.specKF_lg _).add 82 fun _=>Lg.specKF_lg _).add 59 fun _=>Lg.specKF_lg _
section
variable {s:St}
theorem big1:1<big:=by unfold big; decide
theorem qi8 (b e:Nat) (l:List V):Bx (s.put b (bxO e l)) b e l:=by
 show(s.put b (bxO e l)).heap.get b=some (bxO e l);rw[qc4,iP rfl]
def selRd (logs:List (List LE)) (prs:List (Nat×List Nat)):Bool:=prs.all fun p=>(qcr p.1 logs).all (fun e=>!e.w)&&p.2.all fun j=>(qcr j logs).all fun e=>!e.w
theorem selRd_ok {logs:List (List LE)}:∀{prs:List (Nat×List Nat)},selRd logs prs=true->qb0 logs prs=true
 | [],_=>rfl
 | (i,js)::l,h=>by
  unfold selRd at h;rw[List.all_cons,bA,bA]at h;obtain⟨⟨h1,h2⟩,h3⟩:=h;have r:∀{L:List LE},(L.all fun e=>!e.w)=true->∀f∈L,f.w=false:=fun{L} hL f hf=>by simpa using List.all_eq_true.1 hL f hf
  have key:∀js:List Nat,(js.all fun j=>(qcr j logs).all fun e=>!e.w)=true->qcg (qcr i logs) logs js=false:=fun js=>by
   induction js with
   | nil=>intro _; rfl
   | cons j js ih=>
    intro hj;rw[List.all_cons,bA]at hj;unfold qcg;rw[clash_rd _ _ (r h1) (r hj.1)];exact ih hj.2
  unfold qb0;rw[key js h2];exact selRd_ok h3
theorem qd6 {prs:List (Nat×List Nat)} {s0 s:St} {logs:List (List LE)} {k:St->Rs} (h:selRd logs prs=true):qgx prs s0 logs s k=k (qbe s0 s logs):=qca (selRd_ok h)
end
end Go.Proofs.Ytbihlgcdnhoknaa.W
