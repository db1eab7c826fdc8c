/-
  WHAT THE FUNCTIONS COME TO: each is read by the evaluator,printed,and told as a function of data,part 9 of 14 (no condition).
-/
import Derived.Test.YtbihlgcdnhoknaaW8
import Derived.Test.YtbihlgcdnhoknaaProg
import Derived.KernelRfl
namespace Go.Proofs.Ytbihlgcdnhoknaa.W
open Go.Proofs.Ytbihlgcdnhoknaa.Ev
set_option maxRecDepth 100000
noncomputable section
noncomputable def C22:Code:=Try.f22.body.getD .skip
noncomputable def B22:D:=(qaq C22 [[],[],[1,3],[],[1],[],[],[],[],[],[],[0,1],[2],[]]).1
noncomputable def RL22:List Nat:=cellsOf Try.f22.results.toList
noncomputable def R22_2 (self:EV) (N:Nat) (nk:Ac->St->Rs) (ek:Nat->Ac->St->Rs) (a:Ac) (S:St):Rs:=qbo [1] a fun a=>dr E0 self RL22 N (B22.r).r (mkK E0 self Try.f22 nk ek) a S
theorem R22_2_eq (self:EV) (N:Nat) (nk:Ac->St->Rs) (ek:Nat->Ac->St->Rs) ( v1:V) (S:St):R22_2 self N nk ek (fr 88 [(1,v1)]) S =
(faP 0 false 1 v1).bind fun t3=>
(ld1 t3 (onS S)).bind fun p4=>
qbq (qaf E0 (B22.r.r.l.l).ops) S 2 [[],p4.2.log] (self.f 11 [p4.1] (onS p4.2)) fun t5 S5=>
(faP 1 false 1 v1).bind fun t6=>
(ld1 t6 (onS S5)).bind fun p7=>
qbq (qaf E0 (B22.r.r.l.l).ops) S 5 [[],p4.2.log,S5.log,[],p7.2.log] (self.f 53 [p7.1] (onS p7.2)) fun t8 S8=>
(qa6 E0 .eql 26 false false t5 t8).bind fun t9=>
(qa3 true t9).bind fun g11=>(bif g11 then faP 0 false 1 v1 else some (.tuple [])).bind fun t11=>
(qa3 true t9).bind fun g12=>(bif g12 then ld1 t11 (onS S8)else some (.tuple [],(onS S8))).bind fun p12=>
(qa3 true t9).bind fun g13=>qbq (qaf E0 (B22.r.r.l.l).ops) S 10 [[],p4.2.log,S5.log,[],p7.2.log,S8.log,[],[],[],p12.2.log] (bif g13 then self.f 54 [p12.1] (onS p12.2)else some (.ret (.tuple []),(onS p12.2))) fun t13 S13=>
(qa3 true t9).bind fun g14=>(bif g14 then faP 1 false 1 v1 else some (.tuple [])).bind fun t14=>
(qa3 true t9).bind fun g15=>(bif g15 then ld1 t14 (onS S13)else some (.tuple [],(onS S13))).bind fun p15=>
(qa3 true t9).bind fun g16=>(bif g16 then qa2 p15.1 else some (.tuple [])).bind fun t16=>
(qa3 true t9).bind fun g17=>(bif g17 then faP 0 true 2 t16 else some (.tuple [])).bind fun t17=>
(qa3 true t9).bind fun g18=>(bif g18 then ldA 2 t17 (onS p15.2)else some (.tuple [],(onS p15.2))).bind fun p18=>
(qa3 true t9).bind fun g19=>(bif g19 then qa6 E0 .eql 26 false false t13 p18.1 else some (.tuple [])).bind fun t19=>
(qaw t9 (some t19) (some (.bool false))).bind fun t20=>
(qa3 true t20).bind fun g22=>(bif g22 then faP 0 false 1 v1 else some (.tuple [])).bind fun t22=>
(qa3 true t20).bind fun g23=>(bif g23 then ld1 t22 (onS p18.2)else some (.tuple [],(onS p18.2))).bind fun p23=>
(qa3 true t20).bind fun g24=>qbq (qaf E0 (B22.r.r.l.l).ops) S 21 [[],p4.2.log,S5.log,[],p7.2.log,S8.log,[],[],[],p12.2.log,S13.log,[],p15.2.log,[],[],p18.2.log,[],[],[],[],p23.2.log] (bif g24 then self.f 55 [p23.1] (onS p23.2)else some (.ret (.tuple []),(onS p23.2))) fun t24 S24=>
(qa3 true t20).bind fun g25=>(bif g25 then qa6 E0 .eql 3 false true t24 (.int .i64 1)else some (.tuple [])).bind fun t25=>
(qaw t20 (some t25) (some (.bool false))).bind fun t26=>
qgx [(1,[4]),(2,[4]),(9,[12,15]),(10,[12,15])] S [[],p4.2.log,S5.log,[],p7.2.log,S8.log,[],[],[],p12.2.log,S13.log,[],p15.2.log,[],[],p18.2.log,[],[],[],[],p23.2.log,S24.log,[],[],[]] (onS S24) fun S28=>
some (.ret t26,S28):=by kernel_rfl
noncomputable def L22_30 (self:EV) (N:Nat) (nk:Ac->St->Rs) (ek:Nat->Ac->St->Rs) (n:Nat) ( v1 v3:V) (S:St):Rs:=qez [1,3] (dr E0 self RL22 N (B22.r.l.r.l.l)) (mkK E0 self Try.f22 nk ek) n (fr 88 [(1,v1),(3,v3)]) S
theorem L22_30_eq (self:EV) (N:Nat) (nk:Ac->St->Rs) (ek:Nat->Ac->St->Rs) (n:Nat) ( v1 v3:V) (S:St):L22_30 self N nk ek (n+1) v1 v3 S =
(faP 1 false 1 v1).bind fun t32=>
(ld1 t32 S).bind fun p33=>
(qa2 p33.1).bind fun t34=>
(faP 2 false 1 t34).bind fun t35=>
(ld1 t35 p33.2).bind fun p36=>
(lnS p36.1 p36.2).bind fun p37=>
(qa6 E0 .add 3 false true p37.1 (.int .i64 1)).bind fun t38=>
(qa6 E0 .leq 3 false false v3 t38).bind fun t39=>
ifK t39 (
(faP 0 false 1 v1).bind fun t40=>
(ld1 t40 p37.2).bind fun p41=>
qah (self.f 12 [p41.1,v3] p41.2) fun t43 S43=>
(qab t43 0).bind fun t45=>
(qab t43 1).bind fun t46=>
(some (nwP 35 4 (Tr.ofListFrom .nil [(.int .i64 0),(.int .i64 0),(sv []),(.int .i64 0)] 0) S43)).bind fun p47=>
(stP 4 p47.1 t45 p47.2).bind fun p48=>
(faP 1 false 1 v1).bind fun t50=>
(ld1 t50 p48.2).bind fun p51=>
qah (self.f 49 [p51.1,v3] p51.2) fun t53 S53=>
(qab t53 0).bind fun t55=>
(qab t53 1).bind fun t56=>
(some (nwP 35 4 (Tr.ofListFrom .nil [(.int .i64 0),(.int .i64 0),(sv []),(.int .i64 0)] 0) S53)).bind fun p57=>
(stP 4 p57.1 t55 p57.2).bind fun p58=>
(ldA 4 p47.1 (onS p58.2)).bind fun p60=>
(ldA 4 p57.1 (onS p60.2)).bind fun p61=>
(qa6 E0 .neq 35 false false p60.1 p61.1).bind fun t62=>
(qa3 false t62).bind fun g64=>(bif g64 then some t46 else some (.tuple [])).bind fun t64=>
(qa3 false t62).bind fun g65=>(bif g65 then some t56 else some (.tuple [])).bind fun t65=>
(qa3 false t62).bind fun g66=>(bif g66 then qa6 E0 .neq 4 false false t64 t65 else some (.tuple [])).bind fun t66=>
(qaw t62 (some (.bool true)) (some t66)).bind fun t67=>
(qa3 false t67).bind fun g69=>(bif g69 then faP 0 false 1 v1 else some (.tuple [])).bind fun t69=>
(qa3 false t67).bind fun g70=>(bif g70 then ld1 t69 (onS p61.2)else some (.tuple [],(onS p61.2))).bind fun p70=>
(qa3 false t67).bind fun g71=>(bif g71 then some v3 else some (.tuple [])).bind fun t71=>
(qa3 false t67).bind fun g72=>qbq (qaf E0 (B22.r.l.r.l.l.r.l.l.r.r.l).ops) p58.2 12 [p60.2.log,p61.2.log,[],[],[],[],[],[],[],[],p70.2.log,[]] (bif g72 then self.f 17 [p70.1,t71] (onS p70.2)else some (.ret (.tuple []),(onS p70.2))) fun t72 S72=>
(qa3 false t67).bind fun g73=>(bif g73 then faP 1 false 1 v1 else some (.tuple [])).bind fun t73=>
(qa3 false t67).bind fun g74=>(bif g74 then ld1 t73 (onS S72)else some (.tuple [],(onS S72))).bind fun p74=>
(qa3 false t67).bind fun g75=>(bif g75 then some v3 else some (.tuple [])).bind fun t75=>
(qa3 false t67).bind fun g76=>qbq (qaf E0 (B22.r.l.r.l.l.r.l.l.r.r.l).ops) p58.2 16 [p60.2.log,p61.2.log,[],[],[],[],[],[],[],[],p70.2.log,[],S72.log,[],p74.2.log,[]] (bif g76 then self.f 50 [p74.1,t75] (onS p74.2)else some (.ret (.tuple []),(onS p74.2))) fun t76 S76=>
(qa3 false t67).bind fun g77=>(bif g77 then qa6 E0 .neq 3 false false t72 t76 else some (.tuple [])).bind fun t77=>
(qaw t67 (some (.bool true)) (some t77)).bind fun t78=>
(qa3 false t78).bind fun g80=>(bif g80 then faP 0 false 1 v1 else some (.tuple [])).bind fun t80=>
(qa3 false t78).bind fun g81=>(bif g81 then ld1 t80 (onS S76)else some (.tuple [],(onS S76))).bind fun p81=>
(qa3 false t78).bind fun g82=>(bif g82 then some v3 else some (.tuple [])).bind fun t82=>
(qa3 false t78).bind fun g83=>qbq (qaf E0 (B22.r.l.r.l.l.r.l.l.r.r.l).ops) p58.2 23 [p60.2.log,p61.2.log,[],[],[],[],[],[],[],[],p70.2.log,[],S72.log,[],p74.2.log,[],S76.log,[],[],[],[],p81.2.log,[]] (bif g83 then self.f 18 [p81.1,t82] (onS p81.2)else some (.ret (.tuple []),(onS p81.2))) fun t83 S83=>
(qa3 false t78).bind fun g84=>(bif g84 then faP 1 false 1 v1 else some (.tuple [])).bind fun t84=>
(qa3 false t78).bind fun g85=>(bif g85 then ld1 t84 (onS S83)else some (.tuple [],(onS S83))).bind fun p85=>
(qa3 false t78).bind fun g86=>(bif g86 then some v3 else some (.tuple [])).bind fun t86=>
(qa3 false t78).bind fun g87=>qbq (qaf E0 (B22.r.l.r.l.l.r.l.l.r.r.l).ops) p58.2 27 [p60.2.log,p61.2.log,[],[],[],[],[],[],[],[],p70.2.log,[],S72.log,[],p74.2.log,[],S76.log,[],[],[],[],p81.2.log,[],S83.log,[],p85.2.log,[]] (bif g87 then self.f 52 [p85.1,t86] (onS p85.2)else some (.ret (.tuple []),(onS p85.2))) fun t87 S87=>
(qa3 false t78).bind fun g88=>qbq (qaf E0 (B22.r.l.r.l.l.r.l.l.r.r.l).ops) p58.2 28 [p60.2.log,p61.2.log,[],[],[],[],[],[],[],[],p70.2.log,[],S72.log,[],p74.2.log,[],S76.log,[],[],[],[],p81.2.log,[],S83.log,[],p85.2.log,[],S87.log] (bif g88 then self.f 51 [t83,t87] (onS S87)else some (.ret (.tuple []),(onS S87))) fun t88 S88=>
(qa3 false t78).bind fun g89=>(bif g89 then unV .not t88 else some (.tuple [])).bind fun t89=>
(qaw t78 (some (.bool true)) (some t89)).bind fun t90=>
qgx [(0,[1]),(10,[14]),(12,[14]),(21,[25]),(23,[25])] p58.2 [p60.2.log,p61.2.log,[],[],[],[],[],[],[],[],p70.2.log,[],S72.log,[],p74.2.log,[],S76.log,[],[],[],[],p81.2.log,[],S83.log,[],p85.2.log,[],S87.log,S88.log,[],[]] (onS S88) fun S91=>
ifK t90 (
some (.ret (.bool false),S91)) (
(qa6 E0 .add 3 false true v3 (.int .i64 1)).bind fun t94=>
L22_30 self N nk ek n v1 t94 S91)) (
ek 0 (fr 88 [(1,v1)]) p37.2):=by kernel_rfl
noncomputable def F22 (self:EV) (N:Nat) (x0:V) (S:St):Rs:=qb6 E0 self N Try.f22 B22 [x0] S
theorem F22_eq (self:EV) (N:Nat) (x0:V) (S:St):F22 self N x0 S =
(qdb 57 x0 S).bind fun p0=>
L22_30 self N (R22_2 self N (qc0 E0 self Try.f22) qbd) (exB 0 (R22_2 self N (qc0 E0 self Try.f22) qbd) qbd) N p0.1 (.int .i64 (-1)) p0.2:=by kernel_rfl
noncomputable def C6:Code:=Try.f6.body.getD .skip
noncomputable def B6:D:=(qaq C6 [[],[],[],[],[],[],[],[1,7,8],[],[7],[],[],[],[],[0,7],[4],[]]).1
noncomputable def RL6:List Nat:=cellsOf Try.f6.results.toList
noncomputable def R6_30 (self:EV) (N:Nat) (nk:Ac->St->Rs) (ek:Nat->Ac->St->Rs) (a:Ac) (S:St):Rs:=qbo [7] a fun a=>dr E0 self RL6 N (B6.r.r.r.r).r (mkK E0 self Try.f6 nk ek) a S
theorem R6_30_eq (self:EV) (N:Nat) (nk:Ac->St->Rs) (ek:Nat->Ac->St->Rs) ( v7:V) (S:St):R6_30 self N nk ek (fr 58 [(7,v7)]) S =
(ldA 2 v7 S).bind fun p31=>
qah (self.f 22 [p31.1] p31.2) fun t32 S32=>
(qa3 true t32).bind fun g34=>qah (bif g34 then self.f 15 [] S32 else some (.ret (.tuple []),S32)) fun t34 S34=>
(qaw t32 (some t34) (some (.bool false))).bind fun t35=>
some (.ret t35,S34):=by kernel_rfl
noncomputable def L6_38 (self:EV) (N:Nat) (nk:Ac->St->Rs) (ek:Nat->Ac->St->Rs) (n:Nat) ( v1 v7 v8:V) (S:St):Rs:=qez [1,7,8] (dr E0 self RL6 N (B6.r.r.r.r.l.r.l.l)) (mkK E0 self Try.f6 nk ek) n (fr 58 [(1,v1),(7,v7),(8,v8)]) S
theorem L6_38_eq (self:EV) (N:Nat) (nk:Ac->St->Rs) (ek:Nat->Ac->St->Rs) (n:Nat) ( v1 v7 v8:V) (S:St):L6_38 self N nk ek (n+1) v1 v7 v8 S =
(lnS v1 S).bind fun p41=>
(qa6 E0 .lss 3 false false v8 p41.1).bind fun t42=>
(qa3 true t42).bind fun g44=>(bif g44 then some v8 else some (.tuple [])).bind fun t44=>
(qa3 true t42).bind fun g45=>(bif g45 then qa6 E0 .lss 3 false true t44 (.int .i64 60)else some (.tuple [])).bind fun t45=>
(qaw t42 (some t45) (some (.bool false))).bind fun t46=>
ifK t46 (
(ldA 2 v7 (onS p41.2)).bind fun p47=>
(ixP 7 v1 v8).bind fun t50=>
(ldA 7 t50 (onS p47.2)).bind fun p51=>
qbq (qaf E0 (B6.r.r.r.r.l.r.l.l.r.l.l.l).ops) p41.2 5 [p47.2.log,[],[],[],p51.2.log] (self.f 21 [p47.1,p51.1] (onS p51.2)) fun t52 S52=>
(unV .not t52).bind fun t53=>
(qa3 false t53).bind fun g55=>(bif g55 then ldA 2 v7 (onS S52)else some (.tuple [],(onS S52))).bind fun p55=>
(qa3 false t53).bind fun g56=>qbq (qaf E0 (B6.r.r.r.r.l.r.l.l.r.l.l.l).ops) p41.2 9 [p47.2.log,[],[],[],p51.2.log,S52.log,[],[],p55.2.log] (bif g56 then self.f 22 [p55.1] (onS p55.2)else some (.ret (.tuple []),(onS p55.2))) fun t56 S56=>
(qa3 false t53).bind fun g57=>(bif g57 then unV .not t56 else some (.tuple [])).bind fun t57=>
(qaw t53 (some (.bool true)) (some t57)).bind fun t58=>
qgx [(0,[4])] p41.2 [p47.2.log,[],[],[],p51.2.log,S52.log,[],[],p55.2.log,S56.log,[],[]] (onS S56) fun S59=>
ifK t58 (
some (.ret (.bool false),S59)) (
(qa6 E0 .add 3 false true v8 (.int .i64 1)).bind fun t62=>
L6_38 self N nk ek n v1 v7 t62 S59)) (
ek 0 (fr 58 [(7,v7)]) p41.2):=by kernel_rfl
noncomputable def F6 (self:EV) (N:Nat) (x0 x1:V) (S:St):Rs:=qb6 E0 self N Try.f6 B6 [x0,x1] S
theorem F6_eq (self:EV) (N:Nat) (x0 x1:V) (S:St):F6 self N x0 x1 S =
(qdb 26 x0 S).bind fun p0=>
(ldA 2 p0.1 (onS p0.2)).bind fun p2=>
qbq (qaf E0 (B6.r.l).ops) p0.2 1 [p2.2.log] (self.f 7 [p2.1] (onS p2.2)) fun t3 S3=>
(ldA 2 p0.1 (onS S3)).bind fun p4=>
qbq (qaf E0 (B6.r.l).ops) p0.2 3 [p2.2.log,S3.log,p4.2.log] (self.f 20 [p4.1] (onS p4.2)) fun t5 S5=>
qgx [(0,[2]),(1,[2])] p0.2 [p2.2.log,S3.log,p4.2.log,S5.log,[],[]] (onS S5) fun S8=>
(qa6 E0 .eql 23 false true t3 .nilptr).bind fun t10=>
(qa3 false t10).bind fun g12=>(bif g12 then some t5 else some (.tuple [])).bind fun t12=>
(qa3 false t10).bind fun g13=>(bif g13 then qa6 E0 .eql 54 false true t12 .nilptr else some (.tuple [])).bind fun t13=>
(qaw t10 (some (.bool true)) (some t13)).bind fun t14=>
ifK t14 (
(qa6 E0 .eql 23 false true t3 .nilptr).bind fun t16=>
(qa3 true t16).bind fun g18=>(bif g18 then some t5 else some (.tuple [])).bind fun t18=>
(qa3 true t16).bind fun g19=>(bif g19 then qa6 E0 .eql 54 false true t18 .nilptr else some (.tuple [])).bind fun t19=>
(qaw t16 (some t19) (some (.bool false))).bind fun t20=>
(qa3 true t20).bind fun g22=>qah (bif g22 then self.f 15 [] S8 else some (.ret (.tuple []),S8)) fun t22 S22=>
(qaw t20 (some t22) (some (.bool false))).bind fun t23=>
some (.ret t23,S22)) (
(qb9 E0 57 [(0,t3),(1,t5)]).bind fun t27=>
(some (nwP 57 2 (Tr.ofListFrom .nil [.nilptr,.nilptr] 0) S8)).bind fun p28=>
(stP 2 p28.1 t27 p28.2).bind fun p29=>
L6_38 self N (R6_30 self N (qc0 E0 self Try.f6) qbd) (exB 0 (R6_30 self N (qc0 E0 self Try.f6) qbd) qbd) N x1 p28.1 (.int .i64 0) p29.2):=by kernel_rfl
end
open Go.RowKit
structure RIno where
 kind:Int
 mode:Int
 data:Bs
structure REnt where
 dir:Int
 name:Bs
 ino:Int
structure RT where
 qi:Int
 qb:Int
 L:List RIno
 E:List REnt
def RIno.cells (x:RIno):List V:=[.int .i64 x.kind,.int .i64 x.mode,sv x.data,.int .i64 0]
def REnt.cells (e:REnt):List V:=[.int .i64 e.dir,sv e.name,.int .i64 e.ino]
noncomputable def RIno.tree (x:RIno):Tr V:=Tr.ofListFrom .nil x.cells 0
noncomputable def REnt.tree (e:REnt):Tr V:=Tr.ofListFrom .nil e.cells 0
noncomputable def qg8 (l:List RIno):List (Tr V):=l.map RIno.tree
noncomputable def qke (l:List REnt):List (Tr V):=l.map REnt.tree
def RV (S:St) (v:V) (e z:Nat) (ts:List (Tr V)):Prop:=(ts=[]/\v=.nilslice)\/∃r,RowAt S r e z ts/\r<S.next/\0<ts.length/\(v=.oslice r 0 ts.length z\/v=.slice r 0 ts.length ts.length)
structure RAt (S:St) (rb:Nat) (vL vE:V) (R:RT):Prop where
 on:S.on=false
 bx:Bx S rb 86 [.int .i64 R.qi,.int .i64 R.qb,vL,vE]
 L:RV S vL 35 4 (qg8 R.L)
 E:RV S vE 98 3 (qke R.E)
 lt:rb<S.next
section
variable {S U:St} {rb:Nat} {vL vE:V} {R:RT}
theorem row_ldf (ho:S.on=false) {b e z i j:Nat} {l:List (Tr V)} {t:Tr V} {v:V} (h:RowAt S b e z l) (hi:l[i]?=some t) (hj:j<z) (hv:t.get j=some v):ld S b (i*z+j)=some (v,S):=by
 obtain⟨c,h1,h2⟩:=h.row;have hlt:=(List.getElem?_eq_some_iff.1 hi).1
 have hlt2:i*z+j<z*l.length:=by
  calc i*z+j<i*z+z:=by omega
   _=(i+1)*z:=by rw[Nat.add_mul,Nat.one_mul]
   _<=l.length*z:=Nat.mul_le_mul_right _ hlt
   _=z*l.length:=Nat.mul_comm ..
 have hc:(c.get ((i*z+j)/z)).bind (fun t=>t.get ((i*z+j)%z))=some v:=by
  rw[Nat.mul_comm i z,Nat.mul_add_div h.pos,Nat.div_eq_of_lt hj,Nat.add_zero,Nat.mul_add_mod,Nat.mod_eq_of_lt hj,h2 i _ hi];exact hv
 unfold ld;rw[h1];simp only[blt_true.2 hlt2,blt_true.2 h.fit,Bool.and_self,cT];simp only[oI]at hc;obtain⟨u,hu,hv'⟩:=hc;rw[hu,oB,hv',oB,qb3 ho]
theorem row_stf (ho:S.on=false) {b e z i k:Nat} {l:List (Tr V)} {t:Tr V} (h:RowAt S b e z l) (hi:l[i]?=some t) (hk:k<z) (hz:1<z) {v:V} (hv:OneV v):∃U,stP 1 (.ptr b (i*z+k)) v S=some (.tuple [],U)/\RowAt U b e z (l.set i (t.set v k))/\Grew (fun x=>x=b) S U/\U.next=S.next:=by
 obtain⟨c,h1,h2⟩:=h.row;have hlt:=(List.getElem?_eq_some_iff.1 hi).1;have ht:=h2 i t hi
 have hle:i*z+k+1<=z*l.length:=by
  calc i*z+k+1<=i*z+z:=by omega
   _=(i+1)*z:=by rw[Nat.add_mul,Nat.one_mul]
   _<=l.length*z:=Nat.mul_le_mul_right _ hlt
   _=z*l.length:=Nat.mul_comm ..
 have hd:(i*z+k)/z=i:=by rw[Nat.mul_comm i z,Nat.mul_add_div h.pos,Nat.div_eq_of_lt hk,Nat.add_zero]
 have hm:(i*z+k)%z=k:=by rw[Nat.mul_comm i z,Nat.mul_add_mod,Nat.mod_eq_of_lt hk]
 have hst:stK S b (i*z+k) 1 (Ev.one v)=some (S.put b (.cells e z l.length false (c.set (t.set v k) i))):=by
  unfold stK;rw[h1];simp only[ble_true.2 hle,blt_true.2 h.fit,Bool.and_self,nF,cT];unfold qep;rw[show Nat.beq 1 z=false from beq_false.2 (by omega)];simp only[Bool.false_and,cF,qhh,Tr.setC_eq,show(Ev.one v).get 0=some v from rfl,oB,Nat.add_zero,hd,hm,ht,qb3 ho]
 refine⟨S.put b (.cells e z l.length false (c.set (t.set v k) i)),?_,⟨h.pos,by rw[List.length_set]; exact h.fit,c.set (t.set v k) i,by rw[qc4,iP rfl,List.length_set],fun j u hj=>?_⟩,qan b _,rfl⟩
 . show vu (bif Nat.beq v.size 1&&!qai v then stK S b (i*z+k) 1 v.cells else none)=_
   rw[hv.size,hv.cells,hv.tup,hst]; rfl
 . rw[Tr.get_set]
   by_cases e1:j=i
   . rw[iP e1,<- hj,e1,List.getElem?_set_self hlt]
   . rw[iN e1]
     rw[List.getElem?_set_ne (fun h=>e1 h.symm)]at hj;exact h2 j u hj
theorem RV.len {v:V} {e z:Nat} {ts:List (Tr V)} (h:RV S v e z ts) (T:St):lnS v T=some (.int .i64 (ts.length:Int),T):=by
 rcases h with⟨rfl,rfl⟩|⟨r,_,_,_,rfl|rfl⟩<;>rfl
theorem RV.at {v:V} {e z:Nat} {ts:List (Tr V)} (h:RV S v e z ts) {i:Nat} (hi:i<ts.length):∃r,qel v=some r/\ixP z v (.int .i64 (i:Int))=some (.ptr r (i*z))/\RowAt S r e z ts/\r<S.next:=by
 rcases h with⟨rfl,_⟩|⟨r,h1,h2,h3,rfl|rfl⟩
 . simp at hi
 . refine⟨r,rfl,?_,h1,h2⟩
   show(bif Nat.blt i ts.length then some (V.ptr r (0+i*z))else none)=_;rw[blt_true.2 hi,cT,Nat.zero_add]
 . refine⟨r,rfl,?_,h1,h2⟩
   show(bif Nat.blt i ts.length then some (V.ptr r (0+i*z))else none)=_;rw[blt_true.2 hi,cT,Nat.zero_add]
theorem RV.grew {W:Nat->Prop} {v:V} {e z:Nat} {ts:List (Tr V)} (h:RV S v e z ts) (hw:∀r,qel v=some r->¬W r) (g:Grew W S U):RV U v e z ts:=by
 rcases h with h|⟨r,h1,h2,h3,h4⟩
 . exact .inl h
 . exact .inr ⟨r,h1.grew h2 (hw r (by rcases h4 with rfl|rfl<;>rfl)) g,Nat.lt_of_lt_of_le h2 g.next,h3,h4⟩
theorem RV.oneV {v:V} {e z:Nat} {ts:List (Tr V)} (h:RV S v e z ts):OneV v:=by
 rcases h with⟨_,rfl⟩|⟨r,_,_,_,rfl|rfl⟩<;>exact⟨rfl,rfl,rfl,rfl⟩
theorem qd1 (l:List RIno):(qg8 l).length=l.length:=by unfold qg8; rw[lM]
theorem qg2 (l:List REnt):(qke l).length=l.length:=by unfold qke; rw[lM]
theorem qq0 {l:List RIno} {i:Nat} (hi:i<l.length):(qg8 l)[i]?=some l[i].tree:=by unfold qg8; rw[List.getElem?_map,List.getElem?_eq_getElem hi]; rfl
theorem rowRE_get {l:List REnt} {i:Nat} (hi:i<l.length):(qke l)[i]?=some l[i].tree:=by unfold qke; rw[List.getElem?_map,List.getElem?_eq_getElem hi]; rfl
theorem ino_get (x:RIno) (k:Nat):x.tree.get k=x.cells[k]?:=by unfold RIno.tree; rw[Tr.get_ofList]
theorem ent_get (e:REnt) (k:Nat):e.tree.get k=e.cells[k]?:=by unfold REnt.tree; rw[Tr.get_ofList]
theorem qi6:4<big:=by unfold big; decide
theorem RAt.ld (h:RAt S rb vL vE R) {i:Nat} {v:V} (hv:[V.int .i64 R.qi,.int .i64 R.qb,vL,vE][i]?=some v):ld1 (.ptr rb i) S=some (v,S):=Bx6.ld h.on h.bx (by show 4<big; exact qi6) hv
theorem RAt.ldL (h:RAt S rb vL vE R):ld1 (.ptr rb 2) S=some (vL,S):=h.ld rfl
theorem RAt.ldE (h:RAt S rb vL vE R):ld1 (.ptr rb 3) S=some (vE,S):=h.ld rfl
theorem RAt.lenE (h:RAt S rb vL vE R) (T:St):lnS vE T=some (.int .i64 (R.E.length:Int),T):=by rw[h.E.len,qg2]
theorem RAt.lenL (h:RAt S rb vL vE R) (T:St):lnS vL T=some (.int .i64 (R.L.length:Int),T):=by rw[h.L.len,qd1]
theorem RAt.ent (h:RAt S rb vL vE R) {i:Nat} (hi:i<R.E.length):∃r,ixP 3 vE (.int .i64 (i:Int))=some (.ptr r (i*3))/\∀k v,(R.E[i]).cells[k]?=some v->ld1 (.ptr r (i*3+k)) S=some (v,S):=by
 obtain⟨r,_,h2,h3,_⟩:=h.E.at (by rw[qg2]; exact hi)
 refine⟨r,h2,fun k v hv=>?_⟩;have hk:k<3:=(List.getElem?_eq_some_iff.1 hv).1;exact row_ldf h.on h3 (rowRE_get hi) hk (by rw[ent_get]; exact hv)
theorem RAt.ino (h:RAt S rb vL vE R) {i:Nat} (hi:i<R.L.length):∃r,ixP 4 vL (.int .i64 (i:Int))=some (.ptr r (i*4))/\∀k v,(R.L[i]).cells[k]?=some v->ld1 (.ptr r (i*4+k)) S=some (v,S):=by
 obtain⟨r,_,h2,h3,_⟩:=h.L.at (by rw[qd1]; exact hi)
 refine⟨r,h2,fun k v hv=>?_⟩;have hk:k<4:=(List.getElem?_eq_some_iff.1 hv).1;exact row_ldf h.on h3 (qq0 hi) hk (by rw[ino_get]; exact hv)
theorem RAt.grew {W:Nat->Prop} (h:RAt S rb vL vE R) (g:Grew W S U) (h1:¬W rb) (h2:∀r,qel vL=some r->¬W r) (h3:∀r,qel vE=some r->¬W r):RAt U rb vL vE R:=
 ⟨g.on.trans h.on,h.bx.grew h.lt h1 g,h.L.grew h2 g,h.E.grew h3 g,Nat.lt_of_lt_of_le h.lt g.next⟩
theorem RAt.grew0 (h:RAt S rb vL vE R) (g:Grew (fun _=>False) S U):RAt U rb vL vE R:=h.grew g (fun h=>h) (fun _ _ h=>h) (fun _ _ h=>h)
def RT.kind (R:RT) (i:Int):Int:=if 1<=i then(match R.L[(i-1).toNat]? with|some x=>x.kind|none=>0)else 0
theorem RT.kind_at {R:RT} {i:Int} (h1:1<=i) (h2:(i-1).toNat<R.L.length):R.kind i=R.L[(i-1).toNat].kind:=by
 unfold RT.kind;rw[iP h1,List.getElem?_eq_getElem h2]
theorem RT.kind_lo {R:RT} {i:Int} (h:i<1):R.kind i=0:=by unfold RT.kind; rw[iN (by omega)]
theorem RT.kind_hi {R:RT} {i:Int} (h:(R.L.length:Int)<i):R.kind i=0:=by
 unfold RT.kind;rw[iP (by omega),List.getElem?_eq_none (by omega)]
theorem rd76 {n:Nat} {args:List V} {s:St} {r:En×St} (e:qb6 E0 (ev E0 KD n) qa4 Try.f76 B76 args s=some r):(ev E0 KD (n+1)).f 76 args s=some r:=qaa (c:=C76) (d:=B76) (by kernel_rfl) (by kernel_rfl) (qa5 C76 _ (by kernel_rfl)) rfl e
theorem rd69 {n:Nat} {args:List V} {s:St} {r:En×St} (e:qb6 E0 (ev E0 KD n) qa4 Try.f69 B69 args s=some r):(ev E0 KD (n+1)).f 69 args s=some r:=qaa (c:=C69) (d:=B69) (by kernel_rfl) (by kernel_rfl) (qa5 C69 _ (by kernel_rfl)) rfl e
theorem rd72 {n:Nat} {args:List V} {s:St} {r:En×St} (e:qb6 E0 (ev E0 KD n) qa4 Try.f72 B72 args s=some r):(ev E0 KD (n+1)).f 72 args s=some r:=qaa (c:=C72) (d:=B72) (by kernel_rfl) (by kernel_rfl) (qa5 C72 _ (by kernel_rfl)) rfl e
theorem rd68 {n:Nat} {args:List V} {s:St} {r:En×St} (e:qb6 E0 (ev E0 KD n) qa4 Try.f68 B68 args s=some r):(ev E0 KD (n+1)).f 68 args s=some r:=qaa (c:=C68) (d:=B68) (by kernel_rfl) (by kernel_rfl) (qa5 C68 _ (by kernel_rfl)) rfl e
theorem rd67 {n:Nat} {args:List V} {s:St} {r:En×St} (e:qb6 E0 (ev E0 KD n) qa4 Try.f67 B67 args s=some r):(ev E0 KD (n+1)).f 67 args s=some r:=qaa (c:=C67) (d:=B67) (by kernel_rfl) (by kernel_rfl) (qa5 C67 _ (by kernel_rfl)) rfl e
theorem rd71 {n:Nat} {args:List V} {s:St} {r:En×St} (e:qb6 E0 (ev E0 KD n) qa4 Try.f71 B71 args s=some r):(ev E0 KD (n+1)).f 71 args s=some r:=qaa (c:=C71) (d:=B71) (by kernel_rfl) (by kernel_rfl) (qa5 C71 _ (by kernel_rfl)) rfl e
theorem rd48 {n:Nat} {args:List V} {s:St} {r:En×St} (e:qb6 E0 (ev E0 KD n) qa4 Try.f48 B48 args s=some r):(ev E0 KD (n+1)).f 48 args s=some r:=qaa (c:=C48) (d:=B48) (by kernel_rfl) (by kernel_rfl) (qa5 C48 _ (by kernel_rfl)) rfl e
theorem rd50 {n:Nat} {args:List V} {s:St} {r:En×St} (e:qb6 E0 (ev E0 KD n) qa4 Try.f50 B50 args s=some r):(ev E0 KD (n+1)).f 50 args s=some r:=qaa (c:=C50) (d:=B50) (by kernel_rfl) (by kernel_rfl) (qa5 C50 _ (by kernel_rfl)) rfl e
theorem sub1 {i:Int} (h1:1<=i) (h2:i<=1000000):qa6 E0 .sub 3 false true (.int .i64 i) (.int .i64 1)=some (.int .i64 (((i-1).toNat:Nat):Int)):=by
 rw[subI _ _ _ _ _ (by unfold qaj; omega) (by unfold qaj; omega)]
 congr 2
 omega
theorem qgb (h:RAt S rb vL vE R) (hL:R.L.length<=1000) (m:Nat) (i:Int):(ev E0 KD (m+1)).f 76 [.ptr rb 0,.int .i64 i] S=some (.ret (.int .i64 (R.kind i)),S):=rd76 (by
 show F76 (ev E0 KD m) qa4 (.ptr rb 0) (.int .i64 i) S=_;rw[F76_eq,qjc,oB];by_cases h1:i<1
 . rw[dT h1,RT.kind_lo h1]
   simp only[gFT,oB,cF,pickV_bool,cT,ifK_bool]
 . rw[dF h1]
   simp only[gFF,oB,cT,qc5,qax,Nat.zero_add];rw[h.ldL,oB];dsimp only;rw[h.lenL,oB];dsimp only;rw[qm3,oB,pickV_bool,cF,oB,ifK_bool];by_cases h2:(R.L.length:Int)<i
   . rw[dT h2,cT,RT.kind_hi h2]
   . rw[dF h2,cF]
     have hi:(i-1).toNat<R.L.length:=by omega
     obtain⟨r,q1,q2⟩:=h.ino hi;rw[h.ldL,oB];dsimp only;rw[sub1 (by omega) (by omega),oB,q1,oB,qax,oB];rw[q2 0 (.int .i64 R.L[(i-1).toNat].kind) rfl,oB]
     rw[RT.kind_at (by omega) hi])
def qh1 (d:Int) (a:Bs) (e:REnt):Bool:=decide (e.dir=d)&&(e.name==a)
def qg6 (d:Int) (a:Bs):List REnt->Nat->Int
 | [],_=>-1
 | e::l,i=>if qh1 d a e then(i:Int)else qg6 d a l (i+1)
theorem gTu':qa3 true (.tuple [])=some false:=rfl
theorem L69_spec {self:EV} {N:Nat} (nk:Ac->St->Rs) (ek:Nat->Ac->St->Rs) (h:RAt S rb vL vE R) (d:Int) (a:Bs) (hE:R.E.length<=1000):∀(r:List REnt) (i q:Nat),R.E.drop i=r->r.length<q->
 L69_4 self N nk ek q (.ptr rb 0) (.int .i64 d) (sv a) (.int .i64 (i:Int)) S=if 0<=qg6 d a r i then some (.ret (.int .i64 (qg6 d a r i)),S)else ek 0 (fr 40 []) S
 | _,_,0,_,hq=>by omega
 | [],i,q+1,hi,hq=>by
  have hge:R.E.length<=i:=List.drop_eq_nil_iff.1 hi;rw[L69_4_eq,qc5,oB,qax,oB,Nat.zero_add,h.ldE,oB];dsimp only;rw[h.lenE,oB];dsimp only;rw[qjc,dF (by omega),oB,ifK_bool,cF];rfl
 | e::r,i,q+1,hi,hq=>by
  obtain⟨hlt,he,hr,_⟩:=qgl hi;obtain⟨x,q1,q2⟩:=h.ent hlt;have ih:=L69_spec (self:=self) (N:=N) nk ek h d a hE r (i+1) q hr (by simpa using hq);have f0:=q2 0 (.int .i64 e.dir) (by rw[he]; rfl);have f1:=q2 1 (sv e.name) (by rw[he]; rfl);rw[L69_4_eq,qc5,oB,qax,oB,Nat.zero_add,h.ldE,oB];dsimp only;rw[h.lenE,oB];dsimp only;rw[qjc,dT (by omega),oB,ifK_bool,cT,oB,qax,oB,Nat.zero_add,h.ldE,oB];dsimp only;rw[q1,oB,qax,oB,f0,oB];dsimp only;rw[qbl,oB];unfold qg6 qh1;by_cases h0:e.dir=d
  . rw[dT h0]
    simp only[gTT,oB,cT,qc5,qax,Nat.zero_add];rw[h.ldE,oB];simp only[q1,oB,qax];rw[f1,oB];dsimp only;rw[eqStr,oB,pickV_bool,cT,oB,ifK_bool,Bool.true_and];cases hb:(e.name==a)with
    | true=>
     rw[cT,iP rfl,iP (by omega)]
    | false=>
     rw[cF,iN Bool.false_ne_true,qlt _ _ _ _ _ (by unfold qaj; omega) (by unfold qaj; omega),oB,show(i:Int)+1=((i+1:Nat):Int) by omega,ih]
  . rw[dF h0]
    simp only[gTF,oB,cF,pickV_bool];rw[ifK_bool,cF,Bool.false_and,iN Bool.false_ne_true,qlt _ _ _ _ _ (by unfold qaj; omega) (by unfold qaj; omega),oB,show(i:Int)+1=((i+1:Nat):Int) by omega,ih]
theorem qoz {d:Int} {a:Bs}:∀{l:List REnt} {i:Nat},¬0<=qg6 d a l i->qg6 d a l i=-1/\∀e∈l,qh1 d a e=false
 | [],i,h=>⟨rfl,fun e he=>by cases he⟩
 | e::l,i,h=>by
  unfold qg6 at h ⊢;cases hb:qh1 d a e with
  | true=>rw[hb,iP rfl]at h; omega
  | false=>
   rw[hb,iN Bool.false_ne_true]at h;rw[iN Bool.false_ne_true];obtain⟨h1,h2⟩:=qoz h
   exact⟨h1,fun x hx=>by
    rcases List.mem_cons.1 hx with rfl|hx
    . exact hb
    . exact h2 x hx⟩
theorem qcb (h:RAt S rb vL vE R) (hE:R.E.length<=1000) (m:Nat) (d:Int) (a:Bs):(ev E0 KD (m+1)).f 69 [.ptr rb 0,.int .i64 d,sv a] S=some (.ret (.int .i64 (qg6 d a R.E 0)),S):=rd69 (by
 show F69 (ev E0 KD m) qa4 (.ptr rb 0) (.int .i64 d) (sv a) S=_;rw[F69_eq,show V.int .i64 0=.int .i64 ((0:Nat):Int)from rfl,L69_spec _ _ h d a hE R.E 0 qa4 rfl (by unfold qa4; omega)];by_cases hf:0<=qg6 d a R.E 0
 . rw[iP hf]
 . rw[iN hf,exB_same,R69_1_eq,(qoz hf).1])
end
section
variable {S U:St} {rb:Nat} {vL vE:V} {R:RT}
def RT.dirE (R:RT) (d:Int):Int:=if R.kind d=0 then 5 else if R.kind d≠2 then 8 else 0
def RT.fileE (R:RT) (i:Int):Int:=if R.kind i=0 then 5 else if R.kind i=2 then 7 else if R.kind i=3 then 2 else 0
def RT.placeE (R:RT) (d:Int) (a:Bs):Int:=if R.dirE d=0 then qcw a else R.dirE d
structure Fw (R:RT):Prop where
 l:R.L.length<=1000
 e:R.E.length<=1000
theorem qna (t:TypeId) (c d:Bool) (x y:Int):qa6 E0 .neq t c d (.int .i64 x) (.int .i64 y)=some (.bool (!decide (x=y))):=by rw[binV_ii,intsV_neq]
theorem geqI (t:TypeId) (c d:Bool) (x y:Int):qa6 E0 .geq t c d (.int .i64 x) (.int .i64 y)=some (.bool (decide (y<=x))):=by rw[binV_ii,intsV_geq]
theorem qkv (h:RAt S rb vL vE R) (hf:Fw R) (m:Nat) (d:Int):(ev E0 KD (m+2)).f 72 [.ptr rb 0,.int .i64 d] S=some (.ret (.int .i64 (R.dirE d)),S):=rd72 (by
 show F72 (ev E0 KD (m+1)) qa4 (.ptr rb 0) (.int .i64 d) S=_;rw[F72_eq,qgb h hf.l,callP_ret,qbl,oB,ifK_bool];unfold RT.dirE;by_cases h0:R.kind d=0
 . rw[dT h0,cT,iP h0]
 . rw[dF h0,cF,iN h0,qgb h hf.l,callP_ret,qna,oB,ifK_bool]
   by_cases h2:R.kind d=2
   . rw[dT h2,Bool.not_true,cF,iN (by rw[h2]; decide)]
   . rw[dF h2,nF,cT,iP h2])
theorem ql1 (h:RAt S rb vL vE R) (hf:Fw R) (m:Nat) (d:Int):(ev E0 KD (m+2)).f 71 [.ptr rb 0,.int .i64 d] S=some (.ret (.int .i64 (R.fileE d)),S):=rd71 (by
 show F71 (ev E0 KD (m+1)) qa4 (.ptr rb 0) (.int .i64 d) S=_;rw[F71_eq,qgb h hf.l,callP_ret,qbl,oB,ifK_bool];unfold RT.fileE;by_cases h0:R.kind d=0
 . rw[dT h0,cT,iP h0]
 . rw[dF h0,cF,iN h0,qbl,oB,ifK_bool]
   by_cases h2:R.kind d=2
   . rw[dT h2,cT,iP h2]
   . rw[dF h2,cF,iN h2,qbl,oB,ifK_bool]
     by_cases h3:R.kind d=3
     . rw[dT h3,cT,iP h3]
     . rw[dF h3,cF,iN h3])
theorem u8Eq (c d:Bool) (a b:UInt8):qa6 E0 .eql 5 c d (.int .u8 (a.toNat:Int)) (.int .u8 (b.toNat:Int))=some (.bool (a==b)):=by
 rw[binV_ii,intsV_eql]
 congr 2
 by_cases e:a=b
 . subst e; simp
 . have:¬((a.toNat:Int)=(b.toNat:Int)):=fun q=>e (UInt8.toNat_inj.1 (Int.ofNat_inj.1 q))
   rw[dF this]; simp[e]
theorem L68_spec {self:EV} {N:Nat} (nk:Ac->St->Rs) (ek:Nat->Ac->St->Rs) (c:UInt8) (l:Bs) (hl:l.length<9223372036854775808) (S:St):∀(q:Bs) (i n:Nat),l.drop i=q->q.length<n->
 L68_4 self N nk ek n (sv l) (.int .u8 (c.toNat:Int)) (.int .i64 (i:Int)) S=if q.any (·==c)then some (.ret (.bool true),S)else ek 0 (fr 17 []) S
 | _,_,0,_,hn=>by omega
 | [],i,n+1,hi,_=>by
  have hge:l.length<=i:=List.drop_eq_nil_iff.1 hi;rw[L68_4_eq,lnStr_sv,oB];dsimp only;rw[qjc,dF (by omega),oB,ifK_bool,cF];rfl
 | a::q,i,n+1,hi,hn=>by
  obtain⟨hlt,hc,hr,_⟩:=qgl hi;have ih:=L68_spec (self:=self) (N:=N) nk ek c l hl S q (i+1) n hr (by simpa using hn);rw[L68_4_eq,lnStr_sv,oB];dsimp only;rw[qjc,dT (by omega),oB,ifK_bool,cT,ixS_sv l .i64 i hlt,oB,u8Eq,oB,ifK_bool,hc,List.any_cons];cases e:(a==c)with
  | true=>rw[cT,Bool.true_or,iP rfl]
  | false=>rw[cF,Bool.false_or,binV_ii,intsV_add,qlq (by omega),oB,ih]
theorem has_run (m:Nat) (c:UInt8) (l:Bs) (hl:l.length<9223372036854775808) (S:St):(ev E0 KD (m+1)).f 68 [sv l,.int .u8 (c.toNat:Int)] S=some (.ret (.bool (l.any (·==c))),S):=rd68 (by
 show F68 (ev E0 KD m) qa4 (sv l) _ S=_;rw[F68_eq,show V.int .i64 0=.int .i64 ((0:Nat):Int)from rfl,L68_spec _ _ c l hl S l 0 qa4 rfl (by unfold qa4; omega)];cases hb:l.any (·==c)with
 | true=>rw[iP rfl]
 | false=>rw[iN Bool.false_ne_true,exB_same,R68_1_eq])
theorem any_bad (a:Bs):a.any qbm=(a.any (·==47)||a.any (·==0)):=by
 induction a with
 | nil=>rfl
 | cons c a ih=>
  rw[List.any_cons,List.any_cons,List.any_cons,ih];unfold qbm;cases c==47<;>cases c==0<;>cases a.any (·==47)<;>cases a.any (·==0)<;>rfl
theorem qed (h:RAt S rb vL vE R) (hf:Fw R) (m:Nat) (d:Int) (a:Bs) (ha:a.length<9223372036854775808):(ev E0 KD (m+3)).f 67 [.ptr rb 0,.int .i64 d,sv a] S=some (.ret (.int .i64 (R.placeE d a)),S):=rd67 (by
 show F67 (ev E0 KD (m+2)) qa4 (.ptr rb 0) (.int .i64 d) (sv a) S=_;rw[F67_eq,qkv h hf m,callP_ret,qna,oB,ifK_bool];unfold RT.placeE;by_cases h0:R.dirE d=0
 . rw[dT h0,Bool.not_true,cF,iP h0,lnStr_sv,oB]
   dsimp only;rw[qm3,oB,ifK_bool];unfold qcw;by_cases hl:56<a.length
   . rw[dT (by omega),cT,iP hl]
   . rw[dF (by omega),cF,iN hl,show sv ([]:Bs)=sv []from rfl,eqStr,oB]
     unfold mayBe;rw[any_bad];cases e1:(a==[])with
     | true=>
      simp only[gFT,oB,cF,pickV_bool,cT,callP_ret,Bool.not_true,Bool.false_and,ifK_bool,iN Bool.false_ne_true]
     | false=>
      simp only[gFF,oB,cT];rw[eqStr,oB,pickV_bool,cF,oB];cases e2:(a==[46])with
      | true=>
       simp only[gFT,oB,cF,pickV_bool,cT,callP_ret,Bool.not_true,Bool.false_and,Bool.and_false,ifK_bool,iN Bool.false_ne_true]
      | false=>
       simp only[gFF,oB,cT];rw[eqStr,oB,pickV_bool,cF,oB];cases e3:(a==[46,46])with
       | true=>
        simp only[gFT,oB,cF,pickV_bool,cT,callP_ret,Bool.not_true,Bool.false_and,Bool.and_false,ifK_bool,iN Bool.false_ne_true]
       | false=>
        simp only[gFF,oB,cT];rw[show V.int .u8 47=.int .u8 (((47:UInt8).toNat:Nat):Int)from rfl,show V.int .u8 0=.int .u8 (((0:UInt8).toNat:Nat):Int)from rfl,has_run _ 47 a ha,callP_ret,pickV_bool,cF,oB];cases e4:a.any (·==47)with
        | true=>
         simp only[gFT,oB,cF,pickV_bool,cT,callP_ret,Bool.not_true,Bool.true_or,Bool.and_false,ifK_bool,iN Bool.false_ne_true]
        | false=>
         simp only[gFF,oB,cT];rw[has_run _ 0 a ha,callP_ret,pickV_bool,cF,oB,ifK_bool];cases e5:a.any (·==0)<;>rfl
 . rw[dF h0,nF,cT,iN h0])
def RT.find (R:RT) (d:Int) (a:Bs):Option Int:=(R.E.find? (qh1 d a)).map (·.ino)
theorem qm0 (d:Int) (a:Bs):∀(l:List REnt) (i:Nat),(0<=qg6 d a l i↔(l.find? (qh1 d a)).isSome)/\∀e,l.find? (qh1 d a)=some e->∃k,qg6 d a l i=((i+k:Nat):Int)/\l[k]?=some e
 | [],i=>⟨by simp[qg6],fun e h=>by cases h⟩
 | x::l,i=>by
  unfold qg6;rw[List.find?_cons];cases hb:qh1 d a x with
  | true=>exact⟨by simp,fun e h=>⟨0,by rw[iP rfl]; rfl,by simpa using h⟩⟩
  | false=>
   rw[iN Bool.false_ne_true];obtain⟨h1,h2⟩:=qm0 d a l (i+1)
   exact⟨h1,fun e h=>by
    obtain⟨k,k1,k2⟩:=h2 e h
    exact⟨k+1,by rw[k1]; congr 1; omega,by simpa using k2⟩⟩
theorem qfq {d:Int} {a:Bs} (h:R.find d a=none):qg6 d a R.E 0=-1:=by
 unfold RT.find at h;rw[Option.map_eq_none_iff]at h;obtain⟨h1,_⟩:=qm0 d a R.E 0
 have:¬0<=qg6 d a R.E 0:=fun q=>by
  have:=h1.1 q;rw[h]at this; cases this
 exact(qoz this).1
theorem qfr {d i:Int} {a:Bs} (h:R.find d a=some i):∃k,∃hk:k<R.E.length,qg6 d a R.E 0=(k:Int)/\R.E[k].ino=i/\qh1 d a R.E[k]=true:=by
 unfold RT.find at h;rw[Option.map_eq_some_iff]at h;obtain⟨e,he,hi⟩:=h;obtain⟨_,h2⟩:=qm0 d a R.E 0;obtain⟨k,k1,k2⟩:=h2 e he;obtain⟨hk,hke⟩:=List.getElem?_eq_some_iff.1 k2;exact⟨k,hk,by rw[k1]; congr 1; omega,by rw[hke]; exact hi,by rw[hke]; exact List.find?_some he⟩
theorem findV_run (h:RAt S rb vL vE R) (hf:Fw R) (m:Nat) (d:Int) (a:Bs):(ev E0 KD (m+2)).f 48 [.ptr rb 0,.int .i64 d,sv a] S=some (.ret (.tuple [.int .i64 ((R.find d a).getD 0),.bool (R.find d a).isSome]),S):=rd48 (by
 show F48 (ev E0 KD (m+1)) qa4 (.ptr rb 0) (.int .i64 d) (sv a) S=_;rw[F48_eq,qcb h hf.e,callP_ret,qjc,oB,ifK_bool];cases hg:R.find d a with
 | none=>rw[qfq hg,dT (by omega),cT]; rfl
 | some i=>
  obtain⟨k,hk,k1,k2,_⟩:=qfr hg;obtain⟨r,q1,q2⟩:=h.ent hk;rw[k1,dF (by omega),cF,qc5,oB,qax,oB,Nat.zero_add,h.ldE,oB];dsimp only;rw[q1,oB,qax,oB,q2 2 (.int .i64 i) (by rw[<- k2]; rfl),oB]
  rfl)
def upR (d:Int):List REnt->Int
 | []=>1
 | e::l=>if e.ino=d then e.dir else upR d l
def RT.up (R:RT) (d:Int):Int:=if R.kind d=2 then upR d R.E else 0
theorem L50_spec {self:EV} {N:Nat} (nk:Ac->St->Rs) (ek:Nat->Ac->St->Rs) (h:RAt S rb vL vE R) (hf:Fw R) (d:Int) (hek:∀T,ek 0 (fr 37 []) T=some (.ret (.int .i64 1),T)):∀(r:List REnt) (i q:Nat),R.E.drop i=r->r.length<q->
 L50_9 self N nk ek q (.ptr rb 0) (.int .i64 d) (.int .i64 (i:Int)) S=some (.ret (.int .i64 (upR d r)),S)
 | _,_,0,_,hq=>by omega
 | [],i,q+1,hi,hq=>by
  have hge:R.E.length<=i:=List.drop_eq_nil_iff.1 hi;rw[L50_9_eq,qc5,oB,qax,oB,Nat.zero_add,h.ldE,oB];dsimp only;rw[h.lenE,oB];dsimp only;rw[qjc,dF (by omega),oB,ifK_bool,cF,hek];rfl
 | e::r,i,q+1,hi,hq=>by
  obtain⟨hlt,he,hr,_⟩:=qgl hi;obtain⟨x,q1,q2⟩:=h.ent hlt;have ih:=L50_spec (self:=self) (N:=N) nk ek h hf d hek r (i+1) q hr (by simpa using hq);have f0:=q2 0 (.int .i64 e.dir) (by rw[he]; rfl);have f2:=q2 2 (.int .i64 e.ino) (by rw[he]; rfl);have hfe:=hf.e;rw[L50_9_eq,qc5,oB,qax,oB,Nat.zero_add,h.ldE,oB];dsimp only;rw[h.lenE,oB];dsimp only;rw[qjc,dT (by omega),oB,ifK_bool,cT,oB,qax,oB,Nat.zero_add,h.ldE,oB];dsimp only;rw[q1,oB,qax,oB,f2,oB];dsimp only;rw[qbl,oB,ifK_bool];unfold upR;by_cases h0:e.ino=d
  . rw[dT h0,cT,iP h0,oB,qax,oB,Nat.zero_add,h.ldE,oB]
    dsimp only;rw[q1,oB,qax,oB,f0,oB]
  . rw[dF h0,cF,iN h0,qlt _ _ _ _ _ (by unfold qaj; omega) (by unfold qaj; omega),oB,show(i:Int)+1=((i+1:Nat):Int) by omega,ih]
theorem upV_run (h:RAt S rb vL vE R) (hf:Fw R) (m:Nat) (d:Int):(ev E0 KD (m+2)).f 50 [.ptr rb 0,.int .i64 d] S=some (.ret (.int .i64 (R.up d)),S):=rd50 (by
 show F50 (ev E0 KD (m+1)) qa4 (.ptr rb 0) (.int .i64 d) S=_;have hfe:=hf.e;rw[F50_eq,qgb h hf.l,callP_ret,qna,oB,ifK_bool];unfold RT.up;by_cases h2:R.kind d=2
 . rw[dT h2,Bool.not_true,cF,iP h2,show V.int .i64 0=.int .i64 ((0:Nat):Int)from rfl,L50_spec _ _ h hf d (fun T=>by rw[exB_same,R50_6_eq]) R.E 0 qa4 rfl (by unfold qa4; omega)]
 . rw[dF h2,nF,cT,iN h2])
end
section
variable {S U:St} {rb:Nat} {vL vE:V} {R:RT}
theorem qof (ho:S.on=false) {b e i n:Nat} {l m:List V} {v:V} (h:Bx S b e l) (hl:l.length=n) (hm:m.length=n) (hi:i<n) (hn:1<n) (hb:n<big) (hset:(Tr.ofListFrom .nil l 0).set v i=Tr.ofListFrom .nil m 0) (hv:OneV v) :
 stP 1 (.ptr b i) v S=some (.tuple [],S.put b (bxO e m)):=by
 show vu (bif Nat.beq v.size 1&&!qai v then stK S b i 1 v.cells else none)=_;rw[hv.size,hv.cells,hv.tup]
 have hst:stK S b i 1 (Ev.one v)=some (S.put b (bxO e m)):=by
  unfold stK;rw[h,hl];simp only[ble_true.2 (show i+1<=n*1 by omega),blt_true.2 (show n*1<big by omega),Bool.and_self,nF,cT];unfold qep;rw[show Nat.beq 1 n=false from beq_false.2 (by omega)];have hv0:(Ev.one v).get 0=some v:=rfl;simp only[Bool.false_and,cF,qhh,Tr.setC_eq,hv0,oB,Nat.add_zero,Nat.div_eq_of_lt hi,Nat.mod_eq_of_lt hi];rw[Tr.get_ofList];simp only[List.getElem?_cons_zero,oB,hset,set_one,qb3 ho];unfold bxO;rw[hm]
 rw[hst]; rfl
theorem set2_0 (a b v:V):(Tr.ofListFrom .nil [a,b] 0).set v 0=Tr.ofListFrom .nil [v,b] 0:=by kernel_rfl
theorem set2_1 (a b v:V):(Tr.ofListFrom .nil [a,b] 0).set v 1=Tr.ofListFrom .nil [a,v] 0:=by kernel_rfl
theorem set4_3 (a b c d v:V):(Tr.ofListFrom .nil [a,b,c,d] 0).set v 3=Tr.ofListFrom .nil [a,b,c,v] 0:=by kernel_rfl
theorem set4_2 (a b c d v:V):(Tr.ofListFrom .nil [a,b,c,d] 0).set v 2=Tr.ofListFrom .nil [a,b,v,d] 0:=by kernel_rfl
theorem set4_1 (a b c d v:V):(Tr.ofListFrom .nil [a,b,c,d] 0).set v 1=Tr.ofListFrom .nil [a,v,c,d] 0:=by kernel_rfl
theorem nw_bx (ho:S.on=false) (e:Nat) (l:List V):Bx (nwP e l.length (Tr.ofListFrom .nil l 0) S).2 S.next e l/\Grew (fun _=>False) S (nwP e l.length (Tr.ofListFrom .nil l 0) S).2/\(nwP e l.length (Tr.ofListFrom .nil l 0) S).2.next=S.next+1:=by
 refine⟨?_,qcq ho _ _,rfl⟩;show(qag S e l.length [_]).heap.get S.next=_
 unfold qag;rw[qfw,iP rfl]; rfl
theorem Bx.ag {b e:Nat} {l:List V} (h:Bx S b e l):AgAt S b e l.length (Tr.ofListFrom .nil l 0):=⟨_,h,by rw[Tr.get_ofList]; rfl⟩
def qiw:List RIno->Int×Int->Int×Int
 | [],q=>q
 | x::l,q=>qiw l (if 0<x.kind then(q.1+1,q.2+(x.data.length:Int))else q)
def RT.used (R:RT):Int×Int:=qiw R.L (0,0)
def qkm (l:List RIno):Prop:=∀x∈l,x.data.length<=1000
theorem qkk:∀(l:List RIno) (q:Int×Int),qkm l->0<=q.1->0<=q.2->0<=(qiw l q).1/\(qiw l q).1<=q.1+l.length/\0<=(qiw l q).2/\(qiw l q).2<=q.2+1000*l.length
 | [],q,_,h1,h2=>by unfold qiw; simp; omega
 | x::l,q,h,h1,h2=>by
  have hx:=h x (List.mem_cons_self ..);have hl:qkm l:=fun y hy=>h y (mO _ hy);unfold qiw;rw[List.length_cons];split
  . have:=qkk l (q.1+1,q.2+(x.data.length:Int)) hl (by dsimp only; omega) (by dsimp only; omega)
    dsimp only at this;omega
  . have:=qkk l q hl h1 h2
    omega
theorem qcp:2<big:=by unfold big; decide
theorem L53_spec {self:EV} {N:Nat} (nk:Ac->St->Rs) (ek:Nat->Ac->St->Rs) {q3:Nat} {v2:V} (hf:Fw R) (hs:qkm R.L) (hq:rb<q3) (hqL:∀r,qel vL=some r->r<q3) (hqE:∀r,qel vE=some r->r<q3) :
 ∀(r:List RIno) (i q:Nat) (u:Int×Int) (S:St),R.L.drop i=r->r.length<q->RAt S rb vL vE R->q3<S.next->Bx S q3 26 [.int .i64 u.1,.int .i64 u.2]->0<=u.1->u.1<=i->0<=u.2->u.2<=1000*i->
 ∃U,L53_9 self N nk ek q (.ptr rb 0) v2 (.ptr q3 0) (.int .i64 (i:Int)) S=ek 0 (fr 42 [(2,v2),(3,.ptr q3 0)]) U/\Bx U q3 26 [.int .i64 (qiw r u).1,.int .i64 (qiw r u).2]/\Grew (fun x=>x=q3) S U
 | _,_,0,_,_,_,hq,_,_,_,_,_,_,_=>by omega
 | [],i,q+1,u,S,hi,_,h,hlt,hb,_,_,_,_=>by
  have hge:R.L.length<=i:=List.drop_eq_nil_iff.1 hi;refine⟨S,?_,hb,Grew.refl _ _⟩;rw[L53_9_eq,qc5,oB,qax,oB,Nat.zero_add,h.ldL,oB];dsimp only;rw[h.lenL,oB];dsimp only;rw[qjc,dF (by omega),oB,ifK_bool,cF]
 | x::r,i,q+1,u,S,hi,hql,h,hlt,hb,h1,h2,h3,h4=>by
  obtain⟨hil,hx,hr,hmem⟩:=qgl hi;obtain⟨rl,q1,q2⟩:=h.ino hil;have f0:=q2 0 (.int .i64 x.kind) (by rw[hx]; rfl);have hfl:=hf.l;have hxd:=hs x hmem
  have head:∀Q,((qa6 E0 .gtr 3 false true (.int .i64 x.kind) (.int .i64 0)).bind fun t25=>
   ifK t25 (
   (faP 0 false 1 (.ptr q3 0)).bind fun t26=>
   (ld1 t26 S).bind fun p27=>
   (qa6 E0 .add 3 false true p27.1 (.int .i64 1)).bind fun t28=>
   (faP 0 false 1 (.ptr q3 0)).bind fun t29=>
   (stP 1 t29 t28 p27.2).bind fun p30=>
   (faP 1 false 1 (.ptr q3 0)).bind fun t31=>
   (ld1 t31 (onS p30.2)).bind fun p32=>
   (qa2 (.ptr rb 0)).bind fun t34=>
   (faP 2 false 1 t34).bind fun t35=>
   (ld1 t35 (onS p32.2)).bind fun p36=>
   (ixP 4 p36.1 (.int .i64 (i:Int))).bind fun t38=>
   (faP 2 false 1 t38).bind fun t39=>
   (ld1 t39 (onS p36.2)).bind fun p40=>
   (qeb p40.1 (onS p40.2)).bind fun p41=>
   (qa6 E0 .add 3 false false p32.1 p41.1).bind fun t42=>
   (faP 1 false 1 (.ptr q3 0)).bind fun t43=>
   (stP 1 t43 t42 (onS p41.2)).bind fun p44=>
   qgx [(1,[5,9,10])] p30.2 [[],p32.2.log,[],[],[],p36.2.log,[],[],[],p40.2.log,p41.2.log,[],[],p44.2.log] p44.2 fun S45=>
   (qa6 E0 .add 3 false true (.int .i64 (i:Int)) (.int .i64 1)).bind fun t47=>
   L53_9 self N nk ek q (.ptr rb 0) v2 (.ptr q3 0) t47 S45) (
   (qa6 E0 .add 3 false true (.int .i64 (i:Int)) (.int .i64 1)).bind fun t50=>
   L53_9 self N nk ek q (.ptr rb 0) v2 (.ptr q3 0) t50 S))=Q->L53_9 self N nk ek (q+1) (.ptr rb 0) v2 (.ptr q3 0) (.int .i64 (i:Int)) S=Q:=fun Q hQ=>by
   rw[L53_9_eq,qc5,oB,qax,oB,Nat.zero_add,h.ldL,oB];dsimp only;rw[h.lenL,oB];dsimp only;rw[qjc,dT (by omega),oB,ifK_bool,cT,oB,qax,oB,Nat.zero_add,h.ldL,oB];dsimp only;rw[q1,oB,qax,oB,f0,oB];exact hQ
  by_cases hk:0<x.kind
  . have f2:=q2 2 (sv x.data) (by rw[hx]; rfl)
    have s1:=qof h.on hb rfl (m:=[.int .i64 (u.1+1),.int .i64 u.2]) rfl (i:=0) (by show 0<2; omega) (by show 1<2; omega) qcp (set2_0 _ _ (.int .i64 (u.1+1))) (qb4 _ _);have g1:Grew (fun y=>y=q3) S (S.put q3 (bxO 26 [.int .i64 (u.1+1),.int .i64 u.2])):=qan _ _;have b1:Bx (S.put q3 (bxO 26 [.int .i64 (u.1+1),.int .i64 u.2])) q3 26 [.int .i64 (u.1+1),.int .i64 u.2]:=qi8 _ _ _;have hn1:(S.put q3 (bxO 26 [.int .i64 (u.1+1),.int .i64 u.2])).next=S.next:=rfl
    generalize S.put q3 (bxO 26 [.int .i64 (u.1+1),.int .i64 u.2])=S1 at s1 g1 b1 hn1;have h1':RAt S1 rb vL vE R:=h.grew g1 (by omega) (fun r hr e=>by have:=hqL r hr; omega) (fun r hr e=>by have:=hqE r hr; omega);have on1:=h1'.on;have s2:=qof on1 b1 rfl (m:=[.int .i64 (u.1+1),.int .i64 (u.2+(x.data.length:Int))]) rfl (i:=1) (by show 1<2; omega) (by show 1<2; omega) qcp (set2_1 _ _ (.int .i64 (u.2+(x.data.length:Int)))) (qb4 _ _);obtain⟨lg2,s2'⟩:=stP_lg on1 s2;have g2:Grew (fun y=>y=q3) S1 (S1.put q3 (bxO 26 [.int .i64 (u.1+1),.int .i64 (u.2+(x.data.length:Int))])):=qan _ _;have b2:Bx (S1.put q3 (bxO 26 [.int .i64 (u.1+1),.int .i64 (u.2+(x.data.length:Int))])) q3 26 [.int .i64 (u.1+1),.int .i64 (u.2+(x.data.length:Int))]:=qi8 _ _ _;have hn2:(S1.put q3 (bxO 26 [.int .i64 (u.1+1),.int .i64 (u.2+(x.data.length:Int))])).next=S1.next:=rfl
    have hlog2:(S1.put q3 (bxO 26 [.int .i64 (u.1+1),.int .i64 (u.2+(x.data.length:Int))])).log=S1.log:=rfl;generalize S1.put q3 (bxO 26 [.int .i64 (u.1+1),.int .i64 (u.2+(x.data.length:Int))])=S2 at s2 s2' g2 b2 hn2 hlog2;have on2:=g2.on.trans on1;have h2':RAt S2 rb vL vE R:=h1'.grew g2 (by omega) (fun r hr e=>by have:=hqL r hr; omega) (fun r hr e=>by have:=hqE r hr; omega);obtain⟨rl',q1',q2'⟩:=h1'.ino hil;have f2':=qh4 on1 (q2' 2 (sv x.data) (by rw[hx]; rfl)) [];have f1':=qh4 on1 (Bx6.ld on1 b1 qcp (i:=1) rfl) [];have fL':=qh4 on1 h1'.ldL [];obtain⟨U,t1,t2,t3⟩:=L53_spec (self:=self) (N:=N) nk ek hf hs hq hqL hqE r (i+1) q (u.1+1,u.2+(x.data.length:Int)) S2 hr (by simpa using hql) h2' (by omega) b2 (by dsimp only; omega) (by dsimp only; omega) (by dsimp only; omega) (by dsimp only; omega);refine⟨U,head _ ?_,by unfold qiw; rw[iP hk]; exact t2,(g1.trans g2).trans t3⟩;rw[qm3,dT hk,oB,ifK_bool,cT,qax,oB,Nat.zero_add,Bx6.ld h.on hb qcp (i:=0) rfl,oB];dsimp only;rw[qlt _ _ _ _ _ (by unfold qaj; omega) (by unfold qaj; omega),oB,oB,s1,oB];dsimp only;rw[qax,oB,Nat.zero_add,show onS S1=S1.lg []from rfl,f1',oB];dsimp only;rw[qc5,oB,qax,oB,Nat.zero_add,show onS (S1.lg [⟨q3,1,1+1,false⟩])=S1.lg []from rfl,fL',oB];dsimp only;rw[q1',oB,qax,oB,show onS (S1.lg [⟨rb,2,2+1,false⟩])=S1.lg []from rfl,f2',oB];dsimp only;rw[lnStr_sv,oB];dsimp only
    rw[qlt _ _ _ _ _ (by unfold qaj; omega) (by unfold qaj; omega),oB,oB,show onS (onS (S1.lg [⟨rl',i*4+2,i*4+2+1,false⟩]))=S1.lg []from rfl,s2',oB]
    rw[qca (by
     show(bif (bif qd5 [⟨q3,1,1+1,false⟩] [⟨rb,2,2+1,false⟩]then true else bif qd5 [⟨q3,1,1+1,false⟩] [⟨rl',i*4+2,i*4+2+1,false⟩]then true else bif qd5 [⟨q3,1,1+1,false⟩] []then true else false)then false else true)=true
     simp only[qd5,qem,qh6,cF,cT])]
    rw[qee on1 on2 hlog2,qlt _ _ _ _ _ (by unfold qaj; omega) (by unfold qaj; omega),oB,show(i:Int)+1=((i+1:Nat):Int) by omega,t1]
  . obtain⟨U,t1,t2,t3⟩:=L53_spec (self:=self) (N:=N) nk ek hf hs hq hqL hqE r (i+1) q u S hr (by simpa using hql) h hlt hb h1 (by omega) h3 (by omega)
    refine⟨U,head _ ?_,by unfold qiw; rw[iN hk]; exact t2,t3⟩;rw[qm3,dF hk,oB,ifK_bool,cF,qlt _ _ _ _ _ (by unfold qaj; omega) (by unfold qaj; omega),oB,show(i:Int)+1=((i+1:Nat):Int) by omega,t1]
theorem RV.blk_lt {v:V} {e z:Nat} {ts:List (Tr V)} (h:RV S v e z ts) {r:Nat} (hr:qel v=some r):r<S.next:=by
 rcases h with⟨_,rfl⟩|⟨r',h1,h2,h3,rfl|rfl⟩
 . cases hr
 . cases hr; exact h2
 . cases hr; exact h2
theorem rd53 {n:Nat} {args:List V} {s:St} {r:En×St} (e:qb6 E0 (ev E0 KD n) qa4 Try.f53 B53 args s=some r):(ev E0 KD (n+1)).f 53 args s=some r:=qaa (c:=C53) (d:=B53) (by kernel_rfl) (by kernel_rfl) (qa5 C53 _ (by kernel_rfl)) rfl e
theorem build26e:qb9 E0 26 []=some (qbz [.int .i64 0,.int .i64 0]):=by kernel_rfl
theorem usedV_run (h:RAt S rb vL vE R) (hf:Fw R) (hs:qkm R.L) (m:Nat):∃U,(ev E0 KD (m+1)).f 53 [.ptr rb 0] S=some (.ret (qbz [.int .i64 R.used.1,.int .i64 R.used.2]),U)/\Grew (fun _=>False) S U:=by
 obtain⟨b0,g0,n0⟩:=nw_bx h.on 26 [.int .i64 0,.int .i64 0];have e0:nwP 26 2 (Tr.ofListFrom .nil [(.int .i64 0),(.int .i64 0)] 0) S=(.ptr S.next 0,(nwP 26 2 (Tr.ofListFrom .nil [(.int .i64 0),(.int .i64 0)] 0) S).2):=rfl
 change Bx (nwP 26 2 (Tr.ofListFrom .nil [(.int .i64 0),(.int .i64 0)] 0) S).2 S.next 26 _ at b0
 change Grew _ S (nwP 26 2 (Tr.ofListFrom .nil [(.int .i64 0),(.int .i64 0)] 0) S).2 at g0
 change (nwP 26 2 (Tr.ofListFrom .nil [(.int .i64 0),(.int .i64 0)] 0) S).2.next=_ at n0
 generalize (nwP 26 2 (Tr.ofListFrom .nil [(.int .i64 0),(.int .i64 0)] 0) S).2=S1 at b0 g0 n0 e0;have h1:=h.grew0 g0;obtain⟨S2,a1,a2,a3,a4⟩:=qf2 h1.on 26 2 (Tr.ofListFrom .nil [(.int .i64 0),(.int .i64 0)] 0) [.int .i64 0,.int .i64 0] rfl (by omega) qcp;have h2:=h1.grew0 a3;obtain⟨U,t1,t2,t3⟩:=L53_spec (self:=ev E0 KD m) (N:=qa4) (R53_4 (ev E0 KD m) qa4 (qc0 E0 (ev E0 KD m) Try.f53) qbd) (exB 0 (R53_4 (ev E0 KD m) qa4 (qc0 E0 (ev E0 KD m) Try.f53) qbd) qbd) (q3:=S1.next) (v2:=.ptr S.next 0) hf hs (by have:=h1.lt; omega) (fun r hr=>h1.L.blk_lt hr) (fun r hr=>h1.E.blk_lt hr) R.L 0 qa4 (0,0) S2 rfl (by have:=hf.l; unfold qa4; omega) h2 (by omega) a2 (by simp) (by simp) (by simp) (by simp);have onU:=t3.on.trans h2.on;have b0':Bx U S.next 26 [.int .i64 0,.int .i64 0]:=(b0.grew (by omega) (fun h=>h) a3).grew (by omega) (by omega) t3
 obtain⟨W,w1,w2,w3,w4⟩:=(Bx.ag b0').stA onU qcp (Tr.ofListFrom .nil [.int .i64 R.used.1,.int .i64 R.used.2] 0);refine⟨W,rd53 ?_,?_⟩
 . show F53 (ev E0 KD m) qa4 (.ptr rb 0) S=_
   rw[F53_eq,e0,oB,build26e,oB,oB];dsimp only;rw[qdz,a1,oB];dsimp only;rw[show V.int .i64 0=.int .i64 ((0:Nat):Int)from rfl];refine t1.trans ?_;rw[exB_same,R53_4_eq,show ldA 2 (.ptr S1.next 0) U=_ from Bx.ldA onU t2 rfl qcp,oB];dsimp only;rw[show stP 2 (.ptr S.next 0) (qbz [V.int .i64 (qiw R.L (0,0)).1,.int .i64 (qiw R.L (0,0)).2]) U=_ from w1,oB];dsimp only;rw[show ldrA 2 (.ptr S.next 0) W=_ from w2.ldrA (w3.on.trans onU) qcp,oB];rfl
 . exact(((g0.trans a3).own (x:=S1.next) (by omega) t3)).own (x:=S.next) (lR _) w3
end
end Go.Proofs.Ytbihlgcdnhoknaa.W
