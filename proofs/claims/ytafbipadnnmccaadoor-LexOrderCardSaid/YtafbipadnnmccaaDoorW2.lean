/-
  WHAT THE FUNCTIONS COME TO: each is read by the evaluator,printed,and told as a function of data,part 2 of 13 (no condition).
-/
import Derived.Test.YtafbipadnnmccaaDoorW1
import Derived.Test.YtafbipadnnmccaaDoorProg
import Derived.KernelRfl
noncomputable section
namespace Go.Proofs.YtafbipadnnmccaaDoor.W
open Go.Proofs.YtafbipadnnmccaaDoor.Ev
set_option maxRecDepth 100000
noncomputable section
def C72:Code:=Tryd.f72.body.getD .skip
def B72:D:=(qaw C72 [[],[],[0,0],[2],[],[],[]]).1
def RL72:List Nat:=cellsOf Tryd.f72.results.toList
def R72_1 (self:EV) (N:Nat) (nk:Ac->St->Rs) (ek:Nat->Ac->St->Rs) (a:Ac) (S:St):Rs:=qbh [0] a fun a=>dr E0 self RL72 N (B72.r).r (mkK E0 self Tryd.f72 nk ek) a S
theorem R72_1_eq (self:EV) (N:Nat) (nk:Ac->St->Rs) (ek:Nat->Ac->St->Rs) ( v0:V) (S:St):R72_1 self N nk ek (fr 38 [(0,v0)]) S =
(qa1 v0).bind fun t3=>
(faP 0 false 1 t3).bind fun t4=>
(ld1 t4 (onS S)).bind fun p5=>
(qa1 v0).bind fun t7=>
(faP 1 false 1 t7).bind fun t8=>
(ld1 t8 (onS p5.2)).bind fun p9=>
(qa5 E0 .add 3 false true p9.1 (.int .i64 1)).bind fun t10=>
(ixS p5.1 t10).bind fun t11=>
qh7 [(3,[7])] S [[],[],[],p5.2.log,[],[],[],p9.2.log,[],[],[]] (onS p9.2) fun S13=>
(qa1 v0).bind fun t15=>
(faP 1 false 1 t15).bind fun t16=>
(ld1 t16 S13).bind fun p17=>
(qa5 E0 .add 3 false true p17.1 (.int .i64 2)).bind fun t18=>
(qa1 v0).bind fun t19=>
(faP 1 false 1 t19).bind fun t20=>
(stP 1 t20 t18 p17.2).bind fun p21=>
some (.ret t11,p21.2):=by kernel_rfl
def F72 (self:EV) (N:Nat) (x0:V) (S:St):Rs:=qd9 E0 self N Tryd.f72 B72 [x0] S
theorem F72_eq (self:EV) (N:Nat) (x0:V) (S:St):F72 self N x0 S =
(qa1 x0).bind fun t25=>
(faP 1 false 1 t25).bind fun t26=>
(ld1 t26 (onS S)).bind fun p27=>
(qa5 E0 .add 3 false true p27.1 (.int .i64 1)).bind fun t28=>
(qa1 x0).bind fun t30=>
(faP 0 false 1 t30).bind fun t31=>
(ld1 t31 (onS p27.2)).bind fun p32=>
(qbv p32.1 (onS p32.2)).bind fun p33=>
(qa5 E0 .geq 3 false false t28 p33.1).bind fun t34=>
qh7 [(3,[8,9])] S [[],[],[],p27.2.log,[],[],[],[],p32.2.log,p33.2.log,[]] (onS p33.2) fun S35=>
ifK t34 (
(qa1 x0).bind fun t37=>
(faP 1 false 1 t37).bind fun t38=>
(ld1 t38 S35).bind fun p39=>
callP (self.f 25 [(.int .i64 19),p39.1] p39.2) fun t40 S40=>
R72_1 self N (qbz E0 self Tryd.f72) qav (fr 38 [(0,x0)]) S40) (
R72_1 self N (qbz E0 self Tryd.f72) qav (fr 38 [(0,x0)]) S35):=by kernel_rfl
def C70:Code:=Tryd.f70.body.getD .skip
def B70:D:=(qaw C70 [[]]).1
def F70 (self:EV) (N:Nat) (x0 x1 x2:V) (S:St):Rs:=qd9 E0 self N Tryd.f70 B70 [x0,x1,x2] S
theorem F70_eq (self:EV) (N:Nat) (x0 x1 x2:V) (S:St):F70 self N x0 x1 x2 S =
(ld1 x1 S).bind fun p0=>
callP (qbt E0 self p0.1 [] p0.2) fun t1 S1=>
(ld1 x2 S1).bind fun p2=>
(apP 49 6 80 p2.1 x0 p2.2).bind fun p4=>
(stP 1 x2 p4.1 p4.2).bind fun p5=>
some (.ret (.tuple []),p5.2):=by kernel_rfl
def C69:Code:=Tryd.f69.body.getD .skip
def B69:D:=(qaw C69 [[],[],[],[],[]]).1
def F69 (self:EV) (N:Nat) (x0 x1 x2:V) (S:St):Rs:=qd9 E0 self N Tryd.f69 B69 [x0,x1,x2] S
theorem F69_eq (self:EV) (N:Nat) (x0 x1 x2:V) (S:St):F69 self N x0 x1 x2 S =
(ld1 x0 S).bind fun p0=>
(lnS p0.1 p0.2).bind fun p1=>
(qa5 E0 .eql 3 false true p1.1 (.int .i64 0)).bind fun t2=>
ifK t2 (
some (.ret (.tuple []),p1.2)) (
(ld1 x0 p1.2).bind fun p3=>
(qc6 E0 79 9 p3.1 p3.2).bind fun p4=>
(ld1 x1 p4.2).bind fun p5=>
(qab E0 49 [(0,(.int .i64 0)),(1,p4.1),(3,p5.1)]).bind fun t6=>
(some (nwP 49 6 (Tr.ofListFrom .nil [(.int .i64 0),(sv []),(sv []),(.bool false),.nilslice,.nilptr] 0) p5.2)).bind fun p7=>
(stP 6 p7.1 t6 p7.2).bind fun p8=>
(ld1 x1 p8.2).bind fun p9=>
ifK p9.1 (
(faP 0 false 1 p7.1).bind fun t10=>
(stP 1 t10 (.int .i64 1) p9.2).bind fun p11=>
(ld1 x2 p11.2).bind fun p12=>
(ldA 6 p7.1 p12.2).bind fun p13=>
(bsP 49 6 1 (Tr.ofListFrom .nil [(.int .i64 0),(sv []),(sv []),(.bool false),.nilslice,.nilptr] 0) [(0,p13.1)] p13.2).bind fun p14=>
(apP 49 6 80 p12.1 p14.1 p14.2).bind fun p15=>
(stP 1 x2 p15.1 p15.2).bind fun p16=>
(stP 1 x0 .nilslice p16.2).bind fun p17=>
some (.ret (.tuple []),p17.2)) (
(ld1 x2 p9.2).bind fun p18=>
(ldA 6 p7.1 p18.2).bind fun p19=>
(bsP 49 6 1 (Tr.ofListFrom .nil [(.int .i64 0),(sv []),(sv []),(.bool false),.nilslice,.nilptr] 0) [(0,p19.1)] p19.2).bind fun p20=>
(apP 49 6 80 p18.1 p20.1 p20.2).bind fun p21=>
(stP 1 x2 p21.1 p21.2).bind fun p22=>
(stP 1 x0 .nilslice p22.2).bind fun p23=>
some (.ret (.tuple []),p23.2))):=by kernel_rfl
def C90:Code:=Tryd.f90.body.getD .skip
def B90:D:=(qaw C90 [[],[],[],[0,1,5,6],[],[0,1,5,6],[],[0,0,1,5,6],[4],[],[],[],[]]).1
def RL90:List Nat:=cellsOf Tryd.f90.results.toList
def R90_13 (self:EV) (N:Nat) (nk:Ac->St->Rs) (ek:Nat->Ac->St->Rs) (a:Ac) (S:St):Rs:=qbh [0,1,5,6] a fun a=>dr E0 self RL90 N (B90.r.r.r).r (mkK E0 self Tryd.f90 nk ek) a S
theorem R90_13_eq (self:EV) (N:Nat) (nk:Ac->St->Rs) (ek:Nat->Ac->St->Rs) ( v0 v1 v5 v6:V) (S:St):R90_13 self N nk ek (fr 67 [(0,v0),(1,v1),(5,v5),(6,v6)]) S =
(qa5 E0 .eql 3 false true v6 (.int .i64 0)).bind fun t15=>
(qa2 true t15).bind fun g17=>(bif g17 then some v5 else some (.tuple [])).bind fun t17=>
(qa2 true t15).bind fun g18=>(bif g18 then qa5 E0 .neq 9 false true t17 (sv [])else some (.tuple [])).bind fun t18=>
(qam t15 (some t18) (some (.bool false))).bind fun t19=>
(qa2 true t19).bind fun g21=>(bif g21 then some v5 else some (.tuple [])).bind fun t21=>
(qa2 true t19).bind fun g22=>(bif g22 then ixS t21 (.int .i64 0)else some (.tuple [])).bind fun t22=>
(qa2 true t19).bind fun g23=>callP (bif g23 then self.f 101 [t22] S else some (.ret (.tuple []),S)) fun t23 S23=>
(qa2 true t19).bind fun g24=>(bif g24 then some t23 else some (.tuple [])).bind fun t24=>
(qa2 false t24).bind fun g25=>(bif g25 then some v1 else some (.tuple [])).bind fun t25=>
(qa2 false t24).bind fun g26=>(bif g26 then some v5 else some (.tuple [])).bind fun t26=>
(qa2 false t24).bind fun g27=>(bif g27 then ixS t26 (.int .i64 0)else some (.tuple [])).bind fun t27=>
(qa2 false t24).bind fun g28=>callP (bif g28 then self.f 73 [t25,t27] S23 else some (.ret (.tuple []),S23)) fun t28 S28=>
(qa2 false t24).bind fun g29=>(bif g29 then qa5 E0 .geq 3 false true t28 (.int .i64 0)else some (.tuple [])).bind fun t29=>
(qa2 true t19).bind fun g30=>(bif g30 then qam t24 (some (.bool true)) (some t29)else some (.tuple [])).bind fun t30=>
(qam t19 (some t30) (some (.bool false))).bind fun t31=>
ifK t31 (
(qa1 v0).bind fun t34=>
(faP 1 false 1 t34).bind fun t35=>
(ld1 t35 S28).bind fun p36=>
(qa5 E0 .add 3 false false p36.1 (.int .i64 1)).bind fun t38=>
(qa1 v0).bind fun t39=>
(faP 1 false 1 t39).bind fun t40=>
(stP 1 t40 t38 p36.2).bind fun p41=>
(qai E0 9 v5 none (some (.int .i64 1)) none p41.2).bind fun p44=>
some (.ret p44.1,p44.2)) (
(qa1 v0).bind fun t47=>
(faP 1 false 1 t47).bind fun t48=>
(ld1 t48 S28).bind fun p49=>
(qa5 E0 .add 3 false false p49.1 v6).bind fun t51=>
(qa1 v0).bind fun t52=>
(faP 1 false 1 t52).bind fun t53=>
(stP 1 t53 t51 p49.2).bind fun p54=>
(qai E0 9 v5 none (some v6) none p54.2).bind fun p57=>
some (.ret p57.1,p57.2)):=by kernel_rfl
def L90_59 (self:EV) (N:Nat) (nk:Ac->St->Rs) (ek:Nat->Ac->St->Rs) (n:Nat) ( v0 v1 v5 v6:V) (S:St):Rs:=qdo [0,1,5,6] (dr E0 self RL90 N (B90.r.r.r.l.l.l)) (mkK E0 self Tryd.f90 nk ek) n (fr 67 [(0,v0),(1,v1),(5,v5),(6,v6)]) S
theorem L90_59_eq (self:EV) (N:Nat) (nk:Ac->St->Rs) (ek:Nat->Ac->St->Rs) (n:Nat) ( v0 v1 v5 v6:V) (S:St):L90_59 self N nk ek (n+1) v0 v1 v5 v6 S =
(qbv v5 S).bind fun p62=>
(qa5 E0 .lss 3 false false v6 p62.1).bind fun t63=>
(qa2 true t63).bind fun g65=>(bif g65 then some v5 else some (.tuple [])).bind fun t65=>
(qa2 true t63).bind fun g66=>(bif g66 then some v6 else some (.tuple [])).bind fun t66=>
(qa2 true t63).bind fun g67=>(bif g67 then ixS t65 t66 else some (.tuple [])).bind fun t67=>
(qa2 true t63).bind fun g68=>callP (bif g68 then self.f 100 [t67] p62.2 else some (.ret (.tuple []),p62.2)) fun t68 S68=>
(qa2 true t63).bind fun g69=>(bif g69 then some t68 else some (.tuple [])).bind fun t69=>
(qa2 false t69).bind fun g70=>(bif g70 then some v6 else some (.tuple [])).bind fun t70=>
(qa2 false t69).bind fun g71=>(bif g71 then qa5 E0 .gtr 3 false true t70 (.int .i64 0)else some (.tuple [])).bind fun t71=>
(qa2 false t69).bind fun g72=>(bif g72 then some t71 else some (.tuple [])).bind fun t72=>
(qa2 true t72).bind fun g73=>(bif g73 then some v5 else some (.tuple [])).bind fun t73=>
(qa2 true t72).bind fun g74=>(bif g74 then some v6 else some (.tuple [])).bind fun t74=>
(qa2 true t72).bind fun g75=>(bif g75 then ixS t73 t74 else some (.tuple [])).bind fun t75=>
(qa2 true t72).bind fun g76=>callP (bif g76 then self.f 101 [t75] S68 else some (.ret (.tuple []),S68)) fun t76 S76=>
(qa2 false t69).bind fun g77=>(bif g77 then qam t72 (some t76) (some (.bool false))else some (.tuple [])).bind fun t77=>
(qa2 true t63).bind fun g78=>(bif g78 then qam t69 (some (.bool true)) (some t77)else some (.tuple [])).bind fun t78=>
(qam t63 (some t78) (some (.bool false))).bind fun t79=>
ifK t79 (
(qa5 E0 .add 3 false true v6 (.int .i64 1)).bind fun t81=>
L90_59 self N nk ek n v0 v1 v5 t81 S76) (
ek 0 (fr 67 [(0,v0),(1,v1),(5,v5),(6,v6)]) S76):=by kernel_rfl
def F90 (self:EV) (N:Nat) (x0 x1:V) (S:St):Rs:=qd9 E0 self N Tryd.f90 B90 [x0,x1] S
theorem F90_eq (self:EV) (N:Nat) (x0 x1:V) (S:St):F90 self N x0 x1 S =
(qa1 x0).bind fun t2=>
(faP 0 false 1 t2).bind fun t3=>
(ld1 t3 (onS S)).bind fun p4=>
(qa1 x0).bind fun t6=>
(faP 1 false 1 t6).bind fun t7=>
(ld1 t7 (onS p4.2)).bind fun p8=>
(qai E0 9 p4.1 (some p8.1) none none (onS p8.2)).bind fun p9=>
qh7 [(3,[7])] S [[],[],[],p4.2.log,[],[],[],p8.2.log,p9.2.log,[]] (onS p9.2) fun S11=>
L90_59 self N (R90_13 self N (qbz E0 self Tryd.f90) qav) (exB 0 (R90_13 self N (qbz E0 self Tryd.f90) qav) qav) N x0 x1 p9.1 (.int .i64 0) S11:=by kernel_rfl
end
noncomputable section
def C88:Code:=Tryd.f88.body.getD .skip
def B88:D:=(qaw C88 [[],[0,1,4],[],[1],[],[],[],[],[],[],[],[],[],[],[],[],[],[],[0,1],[]]).1
def RL88:List Nat:=cellsOf Tryd.f88.results.toList
def R88_0 (self:EV) (N:Nat) (nk:Ac->St->Rs) (ek:Nat->Ac->St->Rs) (a:Ac) (S:St):Rs:=qbh [1] a fun a=>dr E0 self RL88 N (B88).r (mkK E0 self Tryd.f88 nk ek) a S
theorem R88_0_eq (self:EV) (N:Nat) (nk:Ac->St->Rs) (ek:Nat->Ac->St->Rs) ( v1:V) (S:St):R88_0 self N nk ek (fr 77 [(1,v1)]) S =
callP (self.f 25 [(.int .i64 19),v1] S) fun t2 S2=>
nk (fr 77 []) S2:=by kernel_rfl
def qkh (self:EV) (N:Nat) (nk:Ac->St->Rs) (ek:Nat->Ac->St->Rs) (n:Nat) ( v0 v1 v4:V) (S:St):Rs:=qdo [0,1,4] (dr E0 self RL88 N (B88.l.r.l.l)) (mkK E0 self Tryd.f88 nk ek) n (fr 77 [(0,v0),(1,v1),(4,v4)]) S
theorem L88_4_eq (self:EV) (N:Nat) (nk:Ac->St->Rs) (ek:Nat->Ac->St->Rs) (n:Nat) ( v0 v1 v4:V) (S:St):qkh self N nk ek (n+1) v0 v1 v4 S =
callP (self.f 24 [v0] S) fun t6 S6=>
ifK t6 (
(qa1 v0).bind fun t8=>
(faP 0 false 1 t8).bind fun t9=>
(ld1 t9 (onS S6)).bind fun p10=>
(qa1 v0).bind fun t12=>
(faP 1 false 1 t12).bind fun t13=>
(ld1 t13 (onS p10.2)).bind fun p14=>
(ixS p10.1 p14.1).bind fun t15=>
qh7 [(3,[7])] S6 [[],[],[],p10.2.log,[],[],[],p14.2.log,[],[]] (onS p14.2) fun S17=>
(qa1 v0).bind fun t19=>
(faP 1 false 1 t19).bind fun t20=>
(ld1 t20 S17).bind fun p21=>
(qa5 E0 .add 3 false true p21.1 (.int .i64 1)).bind fun t22=>
(qa1 v0).bind fun t23=>
(faP 1 false 1 t23).bind fun t24=>
(stP 1 t24 t22 p21.2).bind fun p25=>
(qa5 E0 .eql 5 false true t15 (.int .u8 92)).bind fun t27=>
ifK t27 (
(qa1 v0).bind fun t30=>
(faP 1 false 1 t30).bind fun t31=>
(ld1 t31 p25.2).bind fun p32=>
(qa5 E0 .add 3 false true p32.1 (.int .i64 1)).bind fun t33=>
(qa1 v0).bind fun t34=>
(faP 1 false 1 t34).bind fun t35=>
(stP 1 t35 t33 p32.2).bind fun p36=>
qkh self N nk ek n v0 v1 v4 p36.2) (
(qa5 E0 .eql 5 false true t15 (.int .u8 39)).bind fun t37=>
ifK t37 (
(qa1 v0).bind fun t40=>
(faP 0 false 1 t40).bind fun t41=>
(ld1 t41 (onS p25.2)).bind fun p42=>
(qa1 v0).bind fun t44=>
(faP 1 false 1 t44).bind fun t45=>
(ld1 t45 (onS p42.2)).bind fun p46=>
(qai E0 9 p42.1 (some p46.1) none none (onS p46.2)).bind fun p47=>
qki (qat E0 (B88.l.r.l.l.r.l.r.r.r.l.r.r.r.l.l).ops) p25.2 9 [[],[],[],p42.2.log,[],[],[],p46.2.log,p47.2.log] (self.f 73 [p47.1,(.int .u8 39)] (onS p47.2)) fun t48 S48=>
qh7 [(3,[7])] p25.2 [[],[],[],p42.2.log,[],[],[],p46.2.log,p47.2.log,S48.log,[]] (onS S48) fun S50=>
(qa5 E0 .lss 3 false true t48 (.int .i64 0)).bind fun t52=>
ifK t52 (
callP (self.f 25 [(.int .i64 19),v1] S50) fun t54 S54=>
(qa1 v0).bind fun t56=>
(faP 1 false 1 t56).bind fun t57=>
(ld1 t57 S54).bind fun p58=>
(qa5 E0 .add 3 false true t48 (.int .i64 1)).bind fun t60=>
(qa5 E0 .add 3 false false p58.1 t60).bind fun t61=>
(qa1 v0).bind fun t62=>
(faP 1 false 1 t62).bind fun t63=>
(stP 1 t63 t61 p58.2).bind fun p64=>
qkh self N nk ek n v0 v1 v4 p64.2) (
(qa1 v0).bind fun t66=>
(faP 1 false 1 t66).bind fun t67=>
(ld1 t67 S50).bind fun p68=>
(qa5 E0 .add 3 false true t48 (.int .i64 1)).bind fun t70=>
(qa5 E0 .add 3 false false p68.1 t70).bind fun t71=>
(qa1 v0).bind fun t72=>
(faP 1 false 1 t72).bind fun t73=>
(stP 1 t73 t71 p68.2).bind fun p74=>
qkh self N nk ek n v0 v1 v4 p74.2)) (
(qa5 E0 .eql 5 false true t15 (.int .u8 34)).bind fun t75=>
ifK t75 (
callP (self.f 98 [v0,v1] p25.2) fun t79 S79=>
qkh self N nk ek n v0 v1 v4 S79) (
(qa5 E0 .eql 5 false true t15 (.int .u8 40)).bind fun t80=>
ifK t80 (
(qa5 E0 .add 3 false true v4 (.int .i64 1)).bind fun t83=>
qkh self N nk ek n v0 v1 t83 p25.2) (
(qa5 E0 .eql 5 false true t15 (.int .u8 41)).bind fun t85=>
ifK t85 (
(qa5 E0 .sub 3 false true v4 (.int .i64 1)).bind fun t88=>
(qa5 E0 .eql 3 false true t88 (.int .i64 0)).bind fun t91=>
ifK t91 (
some (.ret (.tuple []),p25.2)) (
qkh self N nk ek n v0 v1 t88 p25.2)) (
qkh self N nk ek n v0 v1 v4 p25.2)))))) (
ek 0 (fr 77 [(1,v1)]) S6):=by kernel_rfl
def F88 (self:EV) (N:Nat) (x0 x1:V) (S:St):Rs:=qd9 E0 self N Tryd.f88 B88 [x0,x1] S
theorem F88_eq (self:EV) (N:Nat) (x0 x1:V) (S:St):F88 self N x0 x1 S =
qkh self N (R88_0 self N (qbz E0 self Tryd.f88) qav) (exB 0 (R88_0 self N (qbz E0 self Tryd.f88) qav) qav) N x0 x1 (.int .i64 1) S:=by kernel_rfl
def C98:Code:=Tryd.f98.body.getD .skip
def B98:D:=(qaw C98 [[0,1],[],[1],[],[],[],[],[0,1],[]]).1
def RL98:List Nat:=cellsOf Tryd.f98.results.toList
def R98_0 (self:EV) (N:Nat) (nk:Ac->St->Rs) (ek:Nat->Ac->St->Rs) (a:Ac) (S:St):Rs:=qbh [1] a fun a=>dr E0 self RL98 N (B98).r (mkK E0 self Tryd.f98 nk ek) a S
theorem R98_0_eq (self:EV) (N:Nat) (nk:Ac->St->Rs) (ek:Nat->Ac->St->Rs) ( v1:V) (S:St):R98_0 self N nk ek (fr 34 [(1,v1)]) S =
callP (self.f 25 [(.int .i64 19),v1] S) fun t2 S2=>
nk (fr 34 []) S2:=by kernel_rfl
def L98_3 (self:EV) (N:Nat) (nk:Ac->St->Rs) (ek:Nat->Ac->St->Rs) (n:Nat) ( v0 v1:V) (S:St):Rs:=qdo [0,1] (dr E0 self RL98 N (B98.l.l.l)) (mkK E0 self Tryd.f98 nk ek) n (fr 34 [(0,v0),(1,v1)]) S
theorem L98_3_eq (self:EV) (N:Nat) (nk:Ac->St->Rs) (ek:Nat->Ac->St->Rs) (n:Nat) ( v0 v1:V) (S:St):L98_3 self N nk ek (n+1) v0 v1 S =
callP (self.f 24 [v0] S) fun t5 S5=>
ifK t5 (
callP (self.f 23 [v0,(sv [92])] S5) fun t7 S7=>
ifK t7 (
(qa1 v0).bind fun t10=>
(faP 1 false 1 t10).bind fun t11=>
(ld1 t11 S7).bind fun p12=>
(qa5 E0 .add 3 false true p12.1 (.int .i64 1)).bind fun t13=>
(qa1 v0).bind fun t14=>
(faP 1 false 1 t14).bind fun t15=>
(stP 1 t15 t13 p12.2).bind fun p16=>
L98_3 self N nk ek n v0 v1 p16.2) (
callP (self.f 23 [v0,(sv [34])] S7) fun t18 S18=>
ifK t18 (
some (.ret (.tuple []),S18)) (
callP (self.f 23 [v0,(sv [36,40])] S18) fun t21 S21=>
ifK t21 (
callP (self.f 88 [v0,v1] S21) fun t25 S25=>
L98_3 self N nk ek n v0 v1 S25) (
(qa1 v0).bind fun t27=>
(faP 1 false 1 t27).bind fun t28=>
(ld1 t28 S21).bind fun p29=>
(qa5 E0 .add 3 false true p29.1 (.int .i64 1)).bind fun t30=>
(qa1 v0).bind fun t31=>
(faP 1 false 1 t31).bind fun t32=>
(stP 1 t32 t30 p29.2).bind fun p33=>
L98_3 self N nk ek n v0 v1 p33.2)))) (
ek 0 (fr 34 [(1,v1)]) S5):=by kernel_rfl
def F98 (self:EV) (N:Nat) (x0 x1:V) (S:St):Rs:=qd9 E0 self N Tryd.f98 B98 [x0,x1] S
theorem F98_eq (self:EV) (N:Nat) (x0 x1:V) (S:St):F98 self N x0 x1 S =
L98_3 self N (R98_0 self N (qbz E0 self Tryd.f98) qav) (exB 0 (R98_0 self N (qbz E0 self Tryd.f98) qav) qav) N x0 x1 S:=by kernel_rfl
end
noncomputable section
def C74:Code:=Tryd.f74.body.getD .skip
def B74:D:=(qaw C74 [[],[],[],[],[],[],[],[],[],[0,0,1,6],[6,7],[],[],[],[],[],[]]).1
def F74 (self:EV) (N:Nat) (x0 x1 x2:V) (S:St):Rs:=qd9 E0 self N Tryd.f74 B74 [x0,x1,x2] S
theorem F74_eq (self:EV) (N:Nat) (x0 x1 x2:V) (S:St):F74 self N x0 x1 x2 S =
(some (nwP 49 6 (Tr.ofListFrom .nil [(.int .i64 0),(sv []),(sv []),(.bool false),.nilslice,.nilptr] 0) S)).bind fun p0=>
(qa1 x0).bind fun t3=>
(faP 1 false 1 t3).bind fun t4=>
(ld1 t4 p0.2).bind fun p5=>
callP (self.f 44 [x0,(sv [36,40,40])] p5.2) fun t8 S8=>
ifK t8 (
callP (self.f 25 [(.int .i64 19),p5.1] S8) fun t11 S11=>
(qa1 x0).bind fun t13=>
(faP 1 false 1 t13).bind fun t14=>
(ld1 t14 S11).bind fun p15=>
(qa5 E0 .add 3 false true p15.1 (.int .i64 1)).bind fun t16=>
(qa1 x0).bind fun t17=>
(faP 1 false 1 t17).bind fun t18=>
(stP 1 t18 t16 p15.2).bind fun p19=>
callP (self.f 90 [x0,(sv [63,35,64,42])] p19.2) fun t21 S21=>
(qa5 E0 .neq 9 false true t21 (sv [])).bind fun t24=>
ifK t24 (
callP (self.f 68 [x1] S21) fun t27 S27=>
(qab E0 49 [(0,(.int .i64 2)),(1,t21),(3,t27)]).bind fun t28=>
(stP 6 p0.1 t28 S27).bind fun p29=>
(ldrA 6 p0.1 p29.2).bind fun p31=>
some (.ret (.tuple [p31.1,(.bool true)]),p31.2)) (
(qab E0 49 []).bind fun t32=>
(stP 6 p0.1 t32 S21).bind fun p33=>
(ldrA 6 p0.1 p33.2).bind fun p35=>
some (.ret (.tuple [p35.1,(.bool false)]),p35.2))) (
callP (self.f 23 [x0,(sv [36,40])] S8) fun t37 S37=>
ifK t37 (
(qa1 x0).bind fun t40=>
(faP 1 false 1 t40).bind fun t41=>
(ld1 t41 S37).bind fun p42=>
callP (self.f 88 [x0,p5.1] p42.2) fun t46 S46=>
(qa1 x0).bind fun t48=>
(faP 0 false 1 t48).bind fun t49=>
(ld1 t49 (onS S46)).bind fun p50=>
(qa1 x0).bind fun t53=>
(faP 1 false 1 t53).bind fun t54=>
(ld1 t54 (onS p50.2)).bind fun p55=>
(qa5 E0 .sub 3 false true p55.1 (.int .i64 1)).bind fun t56=>
(qai E0 9 p50.1 (some p42.1) (some t56) none (onS p55.2)).bind fun p57=>
qki (qat E0 (B74.r.r.l.l.r.r.r.l.r.r.l).ops) S46 12 [[],[],[],p50.2.log,[],[],[],[],p55.2.log,[],p57.2.log,[]] (self.f 68 [x1] (onS p57.2)) fun t59 S59=>
(qab E0 49 [(0,(.int .i64 3)),(1,p57.1),(3,t59)]).bind fun t60=>
(stP 6 p0.1 t60 (onS S59)).bind fun p61=>
qh7 [(3,[8,12]),(8,[12]),(10,[12])] S46 [[],[],[],p50.2.log,[],[],[],[],p55.2.log,[],p57.2.log,[],S59.log,[],p61.2.log,[]] (onS p61.2) fun S63=>
(ldrA 6 p0.1 S63).bind fun p64=>
some (.ret (.tuple [p64.1,(.bool true)]),p64.2)) (
callP (self.f 23 [x0,(sv [36,123])] S37) fun t66 S66=>
ifK t66 (
callP (self.f 89 [x0,p5.1,x1,x2] S66) fun t72 S72=>
(stP 6 p0.1 t72 S72).bind fun p73=>
(ldrA 6 p0.1 p73.2).bind fun p75=>
some (.ret (.tuple [p75.1,(.bool true)]),p75.2)) (
(qa1 x0).bind fun t77=>
(faP 1 false 1 t77).bind fun t78=>
(ld1 t78 S66).bind fun p79=>
(qa5 E0 .add 3 false true p79.1 (.int .i64 1)).bind fun t80=>
(qa1 x0).bind fun t81=>
(faP 1 false 1 t81).bind fun t82=>
(stP 1 t82 t80 p79.2).bind fun p83=>
callP (self.f 90 [x0,(sv [63,35,64,42])] p83.2) fun t85 S85=>
(qa5 E0 .neq 9 false true t85 (sv [])).bind fun t88=>
ifK t88 (
callP (self.f 68 [x1] S85) fun t91 S91=>
(qab E0 49 [(0,(.int .i64 2)),(1,t85),(3,t91)]).bind fun t92=>
(stP 6 p0.1 t92 S91).bind fun p93=>
(ldrA 6 p0.1 p93.2).bind fun p95=>
some (.ret (.tuple [p95.1,(.bool true)]),p95.2)) (
(qab E0 49 []).bind fun t96=>
(stP 6 p0.1 t96 S85).bind fun p97=>
(ldrA 6 p0.1 p97.2).bind fun p99=>
some (.ret (.tuple [p99.1,(.bool false)]),p99.2))))):=by kernel_rfl
end
noncomputable section
def C49:Code:=Tryd.f49.body.getD .skip
def B49:D:=(qaw C49 [[],[],[],[],[],[],[0,1,2,7,8,9,10,11],[],[7,10],[],[],[],[],[],[],[],[],[],[],[],[],[0,0,1,2,7,8,9,10,11,12,13,122],[0,1,2,7,8,9,10,11],[],[],[],[0,0,1,2,7,8,9,10,11,12,17],[0,1,2,7,8,9,10,11],[],[],[],[],[],[],[],[],[],[0,7,10],[6],[],[]]).1
def RL49:List Nat:=cellsOf Tryd.f49.results.toList
def qli (self:EV) (N:Nat) (nk:Ac->St->Rs) (ek:Nat->Ac->St->Rs) (a:Ac) (S:St):Rs:=qbh [7,10] a fun a=>dr E0 self RL49 N (B49.r.r.r.r.r.r).r (mkK E0 self Tryd.f49 nk ek) a S
theorem R49_12_eq (self:EV) (N:Nat) (nk:Ac->St->Rs) (ek:Nat->Ac->St->Rs) ( v7 v10:V) (S:St):qli self N nk ek (fr 209 [(7,v7),(10,v10)]) S =
(ld1 v10 S).bind fun p13=>
callP (qbt E0 self p13.1 [] p13.2) fun t14 S14=>
(ld1 v7 S14).bind fun p15=>
some (.ret p15.1,p15.2):=by kernel_rfl
def qba (self:EV) (N:Nat) (nk:Ac->St->Rs) (ek:Nat->Ac->St->Rs) (n:Nat) ( v0 v1 v2 v7 v8 v9 v10 v11:V) (S:St):Rs:=qdo [0,1,2,7,8,9,10,11] (dr E0 self RL49 N (B49.r.r.r.r.r.r.l.l.l)) (mkK E0 self Tryd.f49 nk ek) n (fr 209 [(0,v0),(1,v1),(2,v2),(7,v7),(8,v8),(9,v9),(10,v10),(11,v11)]) S
theorem L49_17_eq (self:EV) (N:Nat) (nk:Ac->St->Rs) (ek:Nat->Ac->St->Rs) (n:Nat) ( v0 v1 v2 v7 v8 v9 v10 v11:V) (S:St):qba self N nk ek (n+1) v0 v1 v2 v7 v8 v9 v10 v11 S =
qki (qat E0 (B49.r.r.r.r.r.r.l.l.l.l.l).ops) S 1 [[]] (self.f 24 [v0] (onS S)) fun t19 S19=>
(qa2 true t19).bind fun g21=>(bif g21 then some v1 else some (.tuple [])).bind fun t21=>
(qa2 true t19).bind fun g22=>(bif g22 then some v0 else some (.tuple [])).bind fun t22=>
(qa2 true t19).bind fun g23=>(bif g23 then qa1 t22 else some (.tuple [])).bind fun t23=>
(qa2 true t19).bind fun g24=>(bif g24 then faP 0 false 1 t23 else some (.tuple [])).bind fun t24=>
(qa2 true t19).bind fun g25=>(bif g25 then ld1 t24 (onS S19)else some (.tuple [],(onS S19))).bind fun p25=>
(qa2 true t19).bind fun g26=>(bif g26 then some v0 else some (.tuple [])).bind fun t26=>
(qa2 true t19).bind fun g27=>(bif g27 then qa1 t26 else some (.tuple [])).bind fun t27=>
(qa2 true t19).bind fun g28=>(bif g28 then faP 1 false 1 t27 else some (.tuple [])).bind fun t28=>
(qa2 true t19).bind fun g29=>(bif g29 then ld1 t28 (onS p25.2)else some (.tuple [],(onS p25.2))).bind fun p29=>
(qa2 true t19).bind fun g30=>(bif g30 then ixS p25.1 p29.1 else some (.tuple [])).bind fun t30=>
(qa2 true t19).bind fun g31=>qki (qat E0 (B49.r.r.r.r.r.r.l.l.l.l.l).ops) S 13 [[],S19.log,[],[],[],[],[],p25.2.log,[],[],[],p29.2.log,[]] (bif g31 then self.f 71 [t21,t30] (onS p29.2)else some (.ret (.tuple []),(onS p29.2))) fun t31 S31=>
(qa2 true t19).bind fun g32=>(bif g32 then unV .not t31 else some (.tuple [])).bind fun t32=>
(qam t19 (some t32) (some (.bool false))).bind fun t33=>
qh7 [(7,[11])] S [[],S19.log,[],[],[],[],[],p25.2.log,[],[],[],p29.2.log,[],S31.log,[],[]] (onS S31) fun S34=>
ifK t33 (
(qa1 v0).bind fun t36=>
(faP 1 false 1 t36).bind fun t37=>
(ld1 t37 (onS S34)).bind fun p38=>
(qa1 v0).bind fun t40=>
(faP 0 false 1 t40).bind fun t41=>
(ld1 t41 (onS p38.2)).bind fun p42=>
(qa1 v0).bind fun t44=>
(faP 1 false 1 t44).bind fun t45=>
(ld1 t45 (onS p42.2)).bind fun p46=>
(ixS p42.1 p46.1).bind fun t47=>
qh7 [(3,[7,11]),(7,[11])] S34 [[],[],[],p38.2.log,[],[],[],p42.2.log,[],[],[],p46.2.log,[],[],[]] (onS p46.2) fun S50=>
callP (self.f 23 [v0,(sv [92,10])] S50) fun t52 S52=>
ifK t52 (
qba self N nk ek n v0 v1 v2 v7 v8 v9 v10 v11 S52) (
(qa5 E0 .eql 5 false true t47 (.int .u8 92)).bind fun t55=>
(qa2 true t55).bind fun g57=>(bif g57 then ld1 v9 S52 else some (.tuple [],S52)).bind fun p57=>
(qam t55 (some p57.1) (some (.bool false))).bind fun t58=>
ifK t58 (
callP (self.f 72 [v0] p57.2) fun t61 S61=>
callP (self.f 73 [(sv [36,96,92]),t61] S61) fun t64 S64=>
(qa5 E0 .lss 3 false true t64 (.int .i64 0)).bind fun t65=>
(qa2 true t65).bind fun g67=>(bif g67 then some t61 else some (.tuple [])).bind fun t67=>
(qa2 true t65).bind fun g68=>(bif g68 then qa5 E0 .neq 5 false true t67 (.int .u8 34)else some (.tuple [])).bind fun t68=>
(qa2 true t65).bind fun g69=>(bif g69 then some t68 else some (.tuple [])).bind fun t69=>
(qa2 false t69).bind fun g70=>(bif g70 then some v1 else some (.tuple [])).bind fun t70=>
(qa2 false t69).bind fun g71=>(bif g71 then qa5 E0 .eql 96 false true t70 (.int .i64 2)else some (.tuple [])).bind fun t71=>
(qa2 true t65).bind fun g72=>(bif g72 then qam t69 (some (.bool true)) (some t71)else some (.tuple [])).bind fun t72=>
(qam t65 (some t72) (some (.bool false))).bind fun t73=>
ifK t73 (
(ld1 v8 S64).bind fun p74=>
(bsP 5 1 1 (Ev.one (.int .u8 0)) [(0,(.int .u8 92))] p74.2).bind fun p75=>
(apP 5 1 1 p74.1 p75.1 p75.2).bind fun p76=>
(stP 1 v8 p76.1 p76.2).bind fun p77=>
(ld1 v8 p77.2).bind fun p78=>
(bsP 5 1 1 (Ev.one (.int .u8 0)) [(0,t61)] p78.2).bind fun p80=>
(apP 5 1 1 p78.1 p80.1 p80.2).bind fun p81=>
(stP 1 v8 p81.1 p81.2).bind fun p82=>
qba self N nk ek n v0 v1 v2 v7 v8 v9 v10 v11 p82.2) (
(ld1 v8 S64).bind fun p83=>
(bsP 5 1 1 (Ev.one (.int .u8 0)) [(0,t61)] p83.2).bind fun p85=>
(apP 5 1 1 p83.1 p85.1 p85.2).bind fun p86=>
(stP 1 v8 p86.1 p86.2).bind fun p87=>
qba self N nk ek n v0 v1 v2 v7 v8 v9 v10 v11 p87.2)) (
(qa5 E0 .eql 5 false true t47 (.int .u8 92)).bind fun t89=>
ifK t89 (
callP (self.f 72 [v0] p57.2) fun t93 S93=>
(bsP 5 1 1 (Ev.one (.int .u8 0)) [(0,t93)] S93).bind fun p94=>
(qc6 E0 79 9 p94.1 p94.2).bind fun p95=>
(qab E0 49 [(0,(.int .i64 1)),(1,p95.1)]).bind fun t96=>
(bsP 49 6 1 (Tr.ofListFrom .nil [(.int .i64 0),(sv []),(sv []),(.bool false),.nilslice,.nilptr] 0) [(0,t96)] p95.2).bind fun p97=>
callP (qbt E0 self v11 [p97.1] p97.2) fun t98 S98=>
qba self N nk ek n v0 v1 v2 v7 v8 v9 v10 v11 S98) (
(qa5 E0 .eql 5 false true t47 (.int .u8 36)).bind fun t100=>
ifK t100 (
callP (self.f 74 [v0,v1,v2] p57.2) fun t105 S105=>
(qaa t105 0).bind fun t107=>
(qaa t105 1).bind fun t108=>
(some (nwP 49 6 (Tr.ofListFrom .nil [(.int .i64 0),(sv []),(sv []),(.bool false),.nilslice,.nilptr] 0) S105)).bind fun p109=>
(stP 6 p109.1 t107 p109.2).bind fun p110=>
ifK t108 (
(ldA 6 p109.1 p110.2).bind fun p114=>
(bsP 49 6 1 (Tr.ofListFrom .nil [(.int .i64 0),(sv []),(sv []),(.bool false),.nilslice,.nilptr] 0) [(0,p114.1)] p114.2).bind fun p115=>
callP (qbt E0 self v11 [p115.1] p115.2) fun t116 S116=>
qba self N nk ek n v0 v1 v2 v7 v8 v9 v10 v11 S116) (
(ld1 v8 p110.2).bind fun p117=>
(bsP 5 1 1 (Ev.one (.int .u8 0)) [(0,t47)] p117.2).bind fun p119=>
(apP 5 1 1 p117.1 p119.1 p119.2).bind fun p120=>
(stP 1 v8 p120.1 p120.2).bind fun p121=>
qba self N nk ek n v0 v1 v2 v7 v8 v9 v10 v11 p121.2)) (
(qa5 E0 .eql 5 false true t47 (.int .u8 96)).bind fun t123=>
ifK t123 (
ifK t123 (
callP (self.f 25 [(.int .i64 19),p38.1] p57.2) fun t126 S126=>
qba self N nk ek n v0 v1 v2 v7 v8 v9 v10 v11 S126) (
(qa5 E0 .eql 5 false true t47 (.int .u8 39)).bind fun t128=>
(qa2 true t128).bind fun g130=>(bif g130 then ld1 v9 p57.2 else some (.tuple [],p57.2)).bind fun p130=>
(qa2 true t128).bind fun g131=>(bif g131 then unV .not p130.1 else some (.tuple [])).bind fun t131=>
(qam t128 (some t131) (some (.bool false))).bind fun t132=>
ifK t132 (
(qa1 v0).bind fun t135=>
(faP 0 false 1 t135).bind fun t136=>
(ld1 t136 p130.2).bind fun p137=>
(qa5 E0 .add 3 false true p38.1 (.int .i64 1)).bind fun t139=>
(qai E0 9 p137.1 (some t139) none none p137.2).bind fun p140=>
callP (self.f 73 [p140.1,(.int .u8 39)] p140.2) fun t141 S141=>
(qa5 E0 .lss 3 false true t141 (.int .i64 0)).bind fun t144=>
ifK t144 (
callP (self.f 25 [(.int .i64 19),p38.1] S141) fun t146 S146=>
(qa1 v0).bind fun t149=>
(faP 0 false 1 t149).bind fun t150=>
(ld1 t150 S146).bind fun p151=>
(qa5 E0 .add 3 false true p38.1 (.int .i64 1)).bind fun t153=>
(qa5 E0 .add 3 false true p38.1 (.int .i64 1)).bind fun t155=>
(qa5 E0 .add 3 false false t155 t141).bind fun t157=>
(qai E0 9 p151.1 (some t153) (some t157) none p151.2).bind fun p158=>
(qab E0 49 [(0,(.int .i64 1)),(1,p158.1)]).bind fun t159=>
(bsP 49 6 1 (Tr.ofListFrom .nil [(.int .i64 0),(sv []),(sv []),(.bool false),.nilslice,.nilptr] 0) [(0,t159)] p158.2).bind fun p160=>
callP (qbt E0 self v11 [p160.1] p160.2) fun t161 S161=>
(qa1 v0).bind fun t163=>
(faP 1 false 1 t163).bind fun t164=>
(ld1 t164 S161).bind fun p165=>
(qa5 E0 .add 3 false true t141 (.int .i64 2)).bind fun t167=>
(qa5 E0 .add 3 false false p165.1 t167).bind fun t168=>
(qa1 v0).bind fun t169=>
(faP 1 false 1 t169).bind fun t170=>
(stP 1 t170 t168 p165.2).bind fun p171=>
qba self N nk ek n v0 v1 v2 v7 v8 v9 v10 v11 p171.2) (
(qa1 v0).bind fun t174=>
(faP 0 false 1 t174).bind fun t175=>
(ld1 t175 S141).bind fun p176=>
(qa5 E0 .add 3 false true p38.1 (.int .i64 1)).bind fun t178=>
(qa5 E0 .add 3 false true p38.1 (.int .i64 1)).bind fun t180=>
(qa5 E0 .add 3 false false t180 t141).bind fun t182=>
(qai E0 9 p176.1 (some t178) (some t182) none p176.2).bind fun p183=>
(qab E0 49 [(0,(.int .i64 1)),(1,p183.1)]).bind fun t184=>
(bsP 49 6 1 (Tr.ofListFrom .nil [(.int .i64 0),(sv []),(sv []),(.bool false),.nilslice,.nilptr] 0) [(0,t184)] p183.2).bind fun p185=>
callP (qbt E0 self v11 [p185.1] p185.2) fun t186 S186=>
(qa1 v0).bind fun t188=>
(faP 1 false 1 t188).bind fun t189=>
(ld1 t189 S186).bind fun p190=>
(qa5 E0 .add 3 false true t141 (.int .i64 2)).bind fun t192=>
(qa5 E0 .add 3 false false p190.1 t192).bind fun t193=>
(qa1 v0).bind fun t194=>
(faP 1 false 1 t194).bind fun t195=>
(stP 1 t195 t193 p190.2).bind fun p196=>
qba self N nk ek n v0 v1 v2 v7 v8 v9 v10 v11 p196.2)) (
(qa5 E0 .eql 5 false true t47 (.int .u8 34)).bind fun t198=>
(qa2 true t198).bind fun g200=>(bif g200 then ld1 v9 p130.2 else some (.tuple [],p130.2)).bind fun p200=>
(qa2 true t198).bind fun g201=>(bif g201 then unV .not p200.1 else some (.tuple [])).bind fun t201=>
(qam t198 (some t201) (some (.bool false))).bind fun t202=>
ifK t202 (
(qa1 v0).bind fun t205=>
(faP 1 false 1 t205).bind fun t206=>
(ld1 t206 p200.2).bind fun p207=>
(qa5 E0 .add 3 false true p207.1 (.int .i64 1)).bind fun t208=>
(qa1 v0).bind fun t209=>
(faP 1 false 1 t209).bind fun t210=>
(stP 1 t210 t208 p207.2).bind fun p211=>
callP (self.f 49 [v0,(.int .i64 1),v2] p211.2) fun t214 S214=>
callP (self.f 23 [v0,(sv [34])] S214) fun t217 S217=>
(unV .not t217).bind fun t218=>
ifK t218 (
callP (self.f 25 [(.int .i64 19),p38.1] S217) fun t220 S220=>
(lnS t214 S220).bind fun p222=>
(qa5 E0 .eql 3 false true p222.1 (.int .i64 0)).bind fun t223=>
ifK t223 (
(qab E0 49 [(0,(.int .i64 1)),(3,(.bool true))]).bind fun t224=>
(bsP 49 6 1 (Tr.ofListFrom .nil [(.int .i64 0),(sv []),(sv []),(.bool false),.nilslice,.nilptr] 0) [(0,t224)] p222.2).bind fun p225=>
callP (qbt E0 self v11 [p225.1] p225.2) fun t229 S229=>
qba self N nk ek n v0 v1 v2 v7 v8 v9 v10 v11 S229) (
callP (qbt E0 self v11 [t214] p222.2) fun t232 S232=>
qba self N nk ek n v0 v1 v2 v7 v8 v9 v10 v11 S232)) (
(lnS t214 S217).bind fun p234=>
(qa5 E0 .eql 3 false true p234.1 (.int .i64 0)).bind fun t235=>
ifK t235 (
(qab E0 49 [(0,(.int .i64 1)),(3,(.bool true))]).bind fun t236=>
(bsP 49 6 1 (Tr.ofListFrom .nil [(.int .i64 0),(sv []),(sv []),(.bool false),.nilslice,.nilptr] 0) [(0,t236)] p234.2).bind fun p237=>
callP (qbt E0 self v11 [p237.1] p237.2) fun t241 S241=>
qba self N nk ek n v0 v1 v2 v7 v8 v9 v10 v11 S241) (
callP (qbt E0 self v11 [t214] p234.2) fun t244 S244=>
qba self N nk ek n v0 v1 v2 v7 v8 v9 v10 v11 S244))) (
(ld1 v8 p200.2).bind fun p245=>
(bsP 5 1 1 (Ev.one (.int .u8 0)) [(0,t47)] p245.2).bind fun p247=>
(apP 5 1 1 p245.1 p247.1 p247.2).bind fun p248=>
(stP 1 v8 p248.1 p248.2).bind fun p249=>
(qa1 v0).bind fun t251=>
(faP 1 false 1 t251).bind fun t252=>
(ld1 t252 p249.2).bind fun p253=>
(qa5 E0 .add 3 false true p253.1 (.int .i64 1)).bind fun t254=>
(qa1 v0).bind fun t255=>
(faP 1 false 1 t255).bind fun t256=>
(stP 1 t256 t254 p253.2).bind fun p257=>
qba self N nk ek n v0 v1 v2 v7 v8 v9 v10 v11 p257.2)))) (
(qa5 E0 .eql 5 false true t47 (.int .u8 34)).bind fun t259=>
(qa2 true t259).bind fun g261=>(bif g261 then some v1 else some (.tuple [])).bind fun t261=>
(qa2 true t259).bind fun g262=>(bif g262 then qa5 E0 .eql 96 false true t261 (.int .i64 4)else some (.tuple [])).bind fun t262=>
(qam t259 (some t262) (some (.bool false))).bind fun t263=>
ifK t263 (
callP (self.f 25 [(.int .i64 19),p38.1] p57.2) fun t266 S266=>
qba self N nk ek n v0 v1 v2 v7 v8 v9 v10 v11 S266) (
(qa5 E0 .eql 5 false true t47 (.int .u8 39)).bind fun t268=>
(qa2 true t268).bind fun g270=>(bif g270 then ld1 v9 p57.2 else some (.tuple [],p57.2)).bind fun p270=>
(qa2 true t268).bind fun g271=>(bif g271 then unV .not p270.1 else some (.tuple [])).bind fun t271=>
(qam t268 (some t271) (some (.bool false))).bind fun t272=>
ifK t272 (
(qa1 v0).bind fun t275=>
(faP 0 false 1 t275).bind fun t276=>
(ld1 t276 p270.2).bind fun p277=>
(qa5 E0 .add 3 false true p38.1 (.int .i64 1)).bind fun t279=>
(qai E0 9 p277.1 (some t279) none none p277.2).bind fun p280=>
callP (self.f 73 [p280.1,(.int .u8 39)] p280.2) fun t281 S281=>
(qa5 E0 .lss 3 false true t281 (.int .i64 0)).bind fun t284=>
ifK t284 (
callP (self.f 25 [(.int .i64 19),p38.1] S281) fun t286 S286=>
(qa1 v0).bind fun t289=>
(faP 0 false 1 t289).bind fun t290=>
(ld1 t290 S286).bind fun p291=>
(qa5 E0 .add 3 false true p38.1 (.int .i64 1)).bind fun t293=>
(qa5 E0 .add 3 false true p38.1 (.int .i64 1)).bind fun t295=>
(qa5 E0 .add 3 false false t295 t281).bind fun t297=>
(qai E0 9 p291.1 (some t293) (some t297) none p291.2).bind fun p298=>
(qab E0 49 [(0,(.int .i64 1)),(1,p298.1)]).bind fun t299=>
(bsP 49 6 1 (Tr.ofListFrom .nil [(.int .i64 0),(sv []),(sv []),(.bool false),.nilslice,.nilptr] 0) [(0,t299)] p298.2).bind fun p300=>
callP (qbt E0 self v11 [p300.1] p300.2) fun t301 S301=>
(qa1 v0).bind fun t303=>
(faP 1 false 1 t303).bind fun t304=>
(ld1 t304 S301).bind fun p305=>
(qa5 E0 .add 3 false true t281 (.int .i64 2)).bind fun t307=>
(qa5 E0 .add 3 false false p305.1 t307).bind fun t308=>
(qa1 v0).bind fun t309=>
(faP 1 false 1 t309).bind fun t310=>
(stP 1 t310 t308 p305.2).bind fun p311=>
qba self N nk ek n v0 v1 v2 v7 v8 v9 v10 v11 p311.2) (
(qa1 v0).bind fun t314=>
(faP 0 false 1 t314).bind fun t315=>
(ld1 t315 S281).bind fun p316=>
(qa5 E0 .add 3 false true p38.1 (.int .i64 1)).bind fun t318=>
(qa5 E0 .add 3 false true p38.1 (.int .i64 1)).bind fun t320=>
(qa5 E0 .add 3 false false t320 t281).bind fun t322=>
(qai E0 9 p316.1 (some t318) (some t322) none p316.2).bind fun p323=>
(qab E0 49 [(0,(.int .i64 1)),(1,p323.1)]).bind fun t324=>
(bsP 49 6 1 (Tr.ofListFrom .nil [(.int .i64 0),(sv []),(sv []),(.bool false),.nilslice,.nilptr] 0) [(0,t324)] p323.2).bind fun p325=>
callP (qbt E0 self v11 [p325.1] p325.2) fun t326 S326=>
(qa1 v0).bind fun t328=>
(faP 1 false 1 t328).bind fun t329=>
(ld1 t329 S326).bind fun p330=>
(qa5 E0 .add 3 false true t281 (.int .i64 2)).bind fun t332=>
(qa5 E0 .add 3 false false p330.1 t332).bind fun t333=>
(qa1 v0).bind fun t334=>
(faP 1 false 1 t334).bind fun t335=>
(stP 1 t335 t333 p330.2).bind fun p336=>
qba self N nk ek n v0 v1 v2 v7 v8 v9 v10 v11 p336.2)) (
(qa5 E0 .eql 5 false true t47 (.int .u8 34)).bind fun t338=>
(qa2 true t338).bind fun g340=>(bif g340 then ld1 v9 p270.2 else some (.tuple [],p270.2)).bind fun p340=>
(qa2 true t338).bind fun g341=>(bif g341 then unV .not p340.1 else some (.tuple [])).bind fun t341=>
(qam t338 (some t341) (some (.bool false))).bind fun t342=>
ifK t342 (
(qa1 v0).bind fun t345=>
(faP 1 false 1 t345).bind fun t346=>
(ld1 t346 p340.2).bind fun p347=>
(qa5 E0 .add 3 false true p347.1 (.int .i64 1)).bind fun t348=>
(qa1 v0).bind fun t349=>
(faP 1 false 1 t349).bind fun t350=>
(stP 1 t350 t348 p347.2).bind fun p351=>
callP (self.f 49 [v0,(.int .i64 1),v2] p351.2) fun t354 S354=>
callP (self.f 23 [v0,(sv [34])] S354) fun t357 S357=>
(unV .not t357).bind fun t358=>
ifK t358 (
callP (self.f 25 [(.int .i64 19),p38.1] S357) fun t360 S360=>
(lnS t354 S360).bind fun p362=>
(qa5 E0 .eql 3 false true p362.1 (.int .i64 0)).bind fun t363=>
ifK t363 (
(qab E0 49 [(0,(.int .i64 1)),(3,(.bool true))]).bind fun t364=>
(bsP 49 6 1 (Tr.ofListFrom .nil [(.int .i64 0),(sv []),(sv []),(.bool false),.nilslice,.nilptr] 0) [(0,t364)] p362.2).bind fun p365=>
callP (qbt E0 self v11 [p365.1] p365.2) fun t369 S369=>
qba self N nk ek n v0 v1 v2 v7 v8 v9 v10 v11 S369) (
callP (qbt E0 self v11 [t354] p362.2) fun t372 S372=>
qba self N nk ek n v0 v1 v2 v7 v8 v9 v10 v11 S372)) (
(lnS t354 S357).bind fun p374=>
(qa5 E0 .eql 3 false true p374.1 (.int .i64 0)).bind fun t375=>
ifK t375 (
(qab E0 49 [(0,(.int .i64 1)),(3,(.bool true))]).bind fun t376=>
(bsP 49 6 1 (Tr.ofListFrom .nil [(.int .i64 0),(sv []),(sv []),(.bool false),.nilslice,.nilptr] 0) [(0,t376)] p374.2).bind fun p377=>
callP (qbt E0 self v11 [p377.1] p377.2) fun t381 S381=>
qba self N nk ek n v0 v1 v2 v7 v8 v9 v10 v11 S381) (
callP (qbt E0 self v11 [t354] p374.2) fun t384 S384=>
qba self N nk ek n v0 v1 v2 v7 v8 v9 v10 v11 S384))) (
(ld1 v8 p340.2).bind fun p385=>
(bsP 5 1 1 (Ev.one (.int .u8 0)) [(0,t47)] p385.2).bind fun p387=>
(apP 5 1 1 p385.1 p387.1 p387.2).bind fun p388=>
(stP 1 v8 p388.1 p388.2).bind fun p389=>
(qa1 v0).bind fun t391=>
(faP 1 false 1 t391).bind fun t392=>
(ld1 t392 p389.2).bind fun p393=>
(qa5 E0 .add 3 false true p393.1 (.int .i64 1)).bind fun t394=>
(qa1 v0).bind fun t395=>
(faP 1 false 1 t395).bind fun t396=>
(stP 1 t396 t394 p393.2).bind fun p397=>
qba self N nk ek n v0 v1 v2 v7 v8 v9 v10 v11 p397.2))))))))) (
ek 0 (fr 209 [(7,v7),(10,v10)]) S34):=by kernel_rfl
def F49 (self:EV) (N:Nat) (x0 x1 x2:V) (S:St):Rs:=qd9 E0 self N Tryd.f49 B49 [x0,x1,x2] S
theorem F49_eq (self:EV) (N:Nat) (x0 x1 x2:V) (S:St):F49 self N x0 x1 x2 S =
(some (nwP 37 1 (Ev.one .nilslice) S)).bind fun p1=>
(some (nwP 79 1 (Ev.one .nilslice) p1.2)).bind fun p2=>
callP (self.f 68 [x1] p2.2) fun t4 S4=>
(some (nwP 4 1 (Ev.one (.bool false)) S4)).bind fun p5=>
(stP 1 p5.1 t4 p5.2).bind fun p6=>
(some (nwP 1 1 (Ev.one .nilfn) p6.2)).bind fun p8=>
(stP 1 p8.1 (.fn (.func 69) [] [p2.1,p5.1,p1.1]) p8.2).bind fun p9=>
qba self N (qli self N (qbz E0 self Tryd.f49) qav) (exB 0 (qli self N (qbz E0 self Tryd.f49) qav) qav) N x0 x1 x2 p1.1 p2.1 p5.1 p8.1 (.fn (.func 70) [] [p8.1,p1.1]) p9.2:=by kernel_rfl
end
noncomputable section
def C19:Code:=Tryd.f19.body.getD .skip
def B19:D:=(qaw C19 [[],[],[],[],[],[],[],[0,32,33,34],[],[0],[],[],[],[0,0],[2],[],[]]).1
def RL19:List Nat:=cellsOf Tryd.f19.results.toList
def R19_29 (self:EV) (N:Nat) (nk:Ac->St->Rs) (ek:Nat->Ac->St->Rs) (a:Ac) (S:St):Rs:=qbh [0] a fun a=>dr E0 self RL19 N (B19.r.r.r.r).r (mkK E0 self Tryd.f19 nk ek) a S
theorem R19_29_eq (self:EV) (N:Nat) (nk:Ac->St->Rs) (ek:Nat->Ac->St->Rs) ( v0:V) (S:St):R19_29 self N nk ek (fr 45 [(0,v0)]) S =
(qa1 v0).bind fun t31=>
(faP 3 false 1 t31).bind fun t32=>
(stP 1 t32 .nilslice S).bind fun p33=>
some (.ret (.bool true),p33.2):=by kernel_rfl
def L19_41 (self:EV) (N:Nat) (nk:Ac->St->Rs) (ek:Nat->Ac->St->Rs) (n:Nat) ( v0 v32 v33 v34:V) (S:St):Rs:=qdo [0,32,33,34] (dr E0 self RL19 N (B19.r.r.r.r.l.r.l.l)) (mkK E0 self Tryd.f19 nk ek) n (fr 45 [(0,v0),(32,v32),(33,v33),(34,v34)]) S
theorem L19_41_eq (self:EV) (N:Nat) (nk:Ac->St->Rs) (ek:Nat->Ac->St->Rs) (n:Nat) ( v0 v32 v33 v34:V) (S:St):L19_41 self N nk ek (n+1) v0 v32 v33 v34 S =
(qa5 E0 .lss 3 false false v34 v33).bind fun t42=>
ifK t42 (
(ixP 2 v32 v34).bind fun t43=>
(ldA 2 t43 S).bind fun p44=>
(some (nwP 89 2 (Tr.ofListFrom .nil [(.int .i64 0),(sv [])] 0) p44.2)).bind fun p45=>
(stP 2 p45.1 p44.1 p45.2).bind fun p46=>
(ldA 2 p45.1 p46.2).bind fun p48=>
callP (self.f 45 [v0,p48.1] p48.2) fun t49 S49=>
(qa5 E0 .add 3 false true v34 (.int .i64 1)).bind fun t50=>
L19_41 self N nk ek n v0 v32 v33 t50 S49) (
ek 0 (fr 45 [(0,v0)]) S):=by kernel_rfl
def F19 (self:EV) (N:Nat) (x0:V) (S:St):Rs:=qd9 E0 self N Tryd.f19 B19 [x0] S
theorem F19_eq (self:EV) (N:Nat) (x0:V) (S:St):F19 self N x0 S =
callP (self.f 44 [x0,(sv [10])] S) fun t2 S2=>
(unV .not t2).bind fun t3=>
ifK t3 (
some (.ret (.bool false),S2)) (
(qa1 x0).bind fun t7=>
(faP 2 false 1 t7).bind fun t8=>
(ld1 t8 (onS S2)).bind fun p9=>
(qa1 x0).bind fun t11=>
(faP 1 false 1 t11).bind fun t12=>
(ld1 t12 (onS p9.2)).bind fun p13=>
(qab E0 39 [(0,(.int .i64 2)),(4,p13.1)]).bind fun t14=>
(bsP 39 5 1 (Tr.ofListFrom .nil [(.int .i64 0),(sv []),.nilslice,(.bool false),(.int .i64 0)] 0) [(0,t14)] (onS p13.2)).bind fun p15=>
(apP 39 5 64 p9.1 p15.1 (onS p15.2)).bind fun p16=>
(qa1 x0).bind fun t17=>
(faP 2 false 1 t17).bind fun t18=>
(stP 1 t18 p16.1 (onS p16.2)).bind fun p19=>
qh7 [(4,[8,10])] S2 [[],[],[],[],p9.2.log,[],[],[],p13.2.log,[],p15.2.log,p16.2.log,[],[],p19.2.log] p19.2 fun S20=>
(qa1 x0).bind fun t22=>
(faP 1 false 1 t22).bind fun t23=>
(ld1 t23 S20).bind fun p24=>
(qa5 E0 .add 3 false true p24.1 (.int .i64 1)).bind fun t25=>
(qa1 x0).bind fun t26=>
(faP 1 false 1 t26).bind fun t27=>
(stP 1 t27 t25 p24.2).bind fun p28=>
(qa1 x0).bind fun t36=>
(faP 3 false 1 t36).bind fun t37=>
(ld1 t37 p28.2).bind fun p38=>
(lnS p38.1 p38.2).bind fun p39=>
L19_41 self N (R19_29 self N (qbz E0 self Tryd.f19) qav) (exB 0 (R19_29 self N (qbz E0 self Tryd.f19) qav) qav) N x0 p38.1 p39.1 (.int .i64 0) p39.2):=by kernel_rfl
def C20:Code:=Tryd.f20.body.getD .skip
def B20:D:=(qaw C20 [[],[],[],[],[],[],[]]).1
def F20 (self:EV) (N:Nat) (x0:V) (S:St):Rs:=qd9 E0 self N Tryd.f20 B20 [x0] S
theorem F20_eq (self:EV) (N:Nat) (x0:V) (S:St):F20 self N x0 S =
callP (self.f 44 [x0,(sv [35])] S) fun t2 S2=>
(unV .not t2).bind fun t3=>
ifK t3 (
some (.ret (.bool false),S2)) (
(qa1 x0).bind fun t6=>
(faP 0 false 1 t6).bind fun t7=>
(ld1 t7 (onS S2)).bind fun p8=>
(qa1 x0).bind fun t10=>
(faP 1 false 1 t10).bind fun t11=>
(ld1 t11 (onS p8.2)).bind fun p12=>
(qai E0 9 p8.1 (some p12.1) none none (onS p12.2)).bind fun p13=>
qki (qat E0 (B20.r.r.l).ops) S2 9 [[],[],[],p8.2.log,[],[],[],p12.2.log,p13.2.log] (self.f 46 [p13.1,(sv [10])] (onS p13.2)) fun t14 S14=>
(qaa t14 0).bind fun t16=>
(qaa t14 1).bind fun t17=>
(qaa t14 2).bind fun t18=>
qh7 [(3,[7])] S2 [[],[],[],p8.2.log,[],[],[],p12.2.log,p13.2.log,S14.log,[],[],[],[],[],[],[]] (onS S14) fun S22=>
(qa1 x0).bind fun t24=>
(faP 1 false 1 t24).bind fun t25=>
(ld1 t25 S22).bind fun p26=>
(qbv t16 p26.2).bind fun p28=>
(qa5 E0 .add 3 false false p26.1 p28.1).bind fun t29=>
(qa1 x0).bind fun t30=>
(faP 1 false 1 t30).bind fun t31=>
(stP 1 t31 t29 p28.2).bind fun p32=>
some (.ret (.bool true),p32.2)):=by kernel_rfl
def C21:Code:=Tryd.f21.body.getD .skip
def B21:D:=(qaw C21 [[],[],[],[],[0,0,3],[2],[],[],[],[],[],[],[]]).1
def RL21:List Nat:=cellsOf Tryd.f21.results.toList
def R21_6 (self:EV) (N:Nat) (nk:Ac->St->Rs) (ek:Nat->Ac->St->Rs) (a:Ac) (S:St):Rs:=qbh [0,3] a fun a=>dr E0 self RL21 N (B21.r.r).r (mkK E0 self Tryd.f21 nk ek) a S
theorem R21_6_eq (self:EV) (N:Nat) (nk:Ac->St->Rs) (ek:Nat->Ac->St->Rs) ( v0 v3:V) (S:St):R21_6 self N nk ek (fr 88 [(0,v0),(3,v3)]) S =
callP (self.f 48 [] S) fun t7 S7=>
callP (self.f 47 [t7,(.fn (.func 23) [v0] [])] S7) fun t10 S10=>
(unV .not t10).bind fun t11=>
ifK t11 (
callP (self.f 44 [v0,(sv [38])] S10) fun t13 S13=>
ifK t13 (
callP (self.f 25 [(.int .i64 19),v3] S13) fun t15 S15=>
some (.ret (.bool false),S15)) (
some (.ret (.bool false),S13))) (
(qa1 v0).bind fun t20=>
(faP 2 false 1 t20).bind fun t21=>
(ld1 t21 (onS S10)).bind fun p22=>
(qa1 v0).bind fun t24=>
(faP 0 false 1 t24).bind fun t25=>
(ld1 t25 (onS p22.2)).bind fun p26=>
(qa1 v0).bind fun t29=>
(faP 1 false 1 t29).bind fun t30=>
(ld1 t30 (onS p26.2)).bind fun p31=>
(qai E0 9 p26.1 (some v3) (some p31.1) none (onS p31.2)).bind fun p32=>
(qab E0 39 [(0,(.int .i64 1)),(1,p32.1),(4,v3)]).bind fun t34=>
(bsP 39 5 1 (Tr.ofListFrom .nil [(.int .i64 0),(sv []),.nilslice,(.bool false),(.int .i64 0)] 0) [(0,t34)] (onS p32.2)).bind fun p35=>
(apP 39 5 64 p22.1 p35.1 (onS p35.2)).bind fun p36=>
(qa1 v0).bind fun t37=>
(faP 2 false 1 t37).bind fun t38=>
(stP 1 t38 p36.1 (onS p36.2)).bind fun p39=>
qh7 [(4,[8,13,14,17]),(8,[13])] S10 [[],[],[],[],p22.2.log,[],[],[],p26.2.log,[],[],[],[],p31.2.log,p32.2.log,[],[],p35.2.log,p36.2.log,[],[],p39.2.log] p39.2 fun S40=>
some (.ret (.bool true),S40)):=by kernel_rfl
def F21 (self:EV) (N:Nat) (x0:V) (S:St):Rs:=qd9 E0 self N Tryd.f21 B21 [x0] S
theorem F21_eq (self:EV) (N:Nat) (x0:V) (S:St):F21 self N x0 S =
(qa1 x0).bind fun t2=>
(faP 1 false 1 t2).bind fun t3=>
(ld1 t3 S).bind fun p4=>
(qa1 x0).bind fun t43=>
(faP 0 false 1 t43).bind fun t44=>
(ld1 t44 p4.2).bind fun p45=>
(ixS p45.1 p4.1).bind fun t47=>
(qa5 E0 .geq 5 false true t47 (.int .u8 48)).bind fun t50=>
(qa2 true t50).bind fun g52=>(bif g52 then some t47 else some (.tuple [])).bind fun t52=>
(qa2 true t50).bind fun g53=>(bif g53 then qa5 E0 .leq 5 false true t52 (.int .u8 50)else some (.tuple [])).bind fun t53=>
(qam t50 (some t53) (some (.bool false))).bind fun t54=>
(qa2 true t54).bind fun g56=>(bif g56 then some p4.1 else some (.tuple [])).bind fun t56=>
(qa2 true t54).bind fun g57=>(bif g57 then qa5 E0 .add 3 false true t56 (.int .i64 1)else some (.tuple [])).bind fun t57=>
(qa2 true t54).bind fun g58=>(bif g58 then some x0 else some (.tuple [])).bind fun t58=>
(qa2 true t54).bind fun g59=>(bif g59 then qa1 t58 else some (.tuple [])).bind fun t59=>
(qa2 true t54).bind fun g60=>(bif g60 then faP 0 false 1 t59 else some (.tuple [])).bind fun t60=>
(qa2 true t54).bind fun g61=>(bif g61 then ld1 t60 p45.2 else some (.tuple [],p45.2)).bind fun p61=>
(qa2 true t54).bind fun g62=>(bif g62 then qbv p61.1 p61.2 else some (.tuple [],p61.2)).bind fun p62=>
(qa2 true t54).bind fun g63=>(bif g63 then qa5 E0 .lss 3 false false t57 p62.1 else some (.tuple [])).bind fun t63=>
(qam t54 (some t63) (some (.bool false))).bind fun t64=>
(qa2 true t64).bind fun g66=>(bif g66 then some x0 else some (.tuple [])).bind fun t66=>
(qa2 true t64).bind fun g67=>(bif g67 then qa1 t66 else some (.tuple [])).bind fun t67=>
(qa2 true t64).bind fun g68=>(bif g68 then faP 0 false 1 t67 else some (.tuple [])).bind fun t68=>
(qa2 true t64).bind fun g69=>(bif g69 then ld1 t68 p62.2 else some (.tuple [],p62.2)).bind fun p69=>
(qa2 true t64).bind fun g70=>(bif g70 then some p4.1 else some (.tuple [])).bind fun t70=>
(qa2 true t64).bind fun g71=>(bif g71 then qa5 E0 .add 3 false true t70 (.int .i64 1)else some (.tuple [])).bind fun t71=>
(qa2 true t64).bind fun g72=>(bif g72 then ixS p69.1 t71 else some (.tuple [])).bind fun t72=>
(qa2 true t64).bind fun g73=>(bif g73 then qa5 E0 .eql 5 false true t72 (.int .u8 60)else some (.tuple [])).bind fun t73=>
(qa2 true t64).bind fun g74=>(bif g74 then some t73 else some (.tuple [])).bind fun t74=>
(qa2 false t74).bind fun g75=>(bif g75 then some x0 else some (.tuple [])).bind fun t75=>
(qa2 false t74).bind fun g76=>(bif g76 then qa1 t75 else some (.tuple [])).bind fun t76=>
(qa2 false t74).bind fun g77=>(bif g77 then faP 0 false 1 t76 else some (.tuple [])).bind fun t77=>
(qa2 false t74).bind fun g78=>(bif g78 then ld1 t77 p69.2 else some (.tuple [],p69.2)).bind fun p78=>
(qa2 false t74).bind fun g79=>(bif g79 then some p4.1 else some (.tuple [])).bind fun t79=>
(qa2 false t74).bind fun g80=>(bif g80 then qa5 E0 .add 3 false true t79 (.int .i64 1)else some (.tuple [])).bind fun t80=>
(qa2 false t74).bind fun g81=>(bif g81 then ixS p78.1 t80 else some (.tuple [])).bind fun t81=>
(qa2 false t74).bind fun g82=>(bif g82 then qa5 E0 .eql 5 false true t81 (.int .u8 62)else some (.tuple [])).bind fun t82=>
(qa2 true t64).bind fun g83=>(bif g83 then qam t74 (some (.bool true)) (some t82)else some (.tuple [])).bind fun t83=>
(qam t64 (some t83) (some (.bool false))).bind fun t84=>
ifK t84 (
(qa1 x0).bind fun t86=>
(faP 1 false 1 t86).bind fun t87=>
(ld1 t87 p78.2).bind fun p88=>
(qa5 E0 .add 3 false true p88.1 (.int .i64 1)).bind fun t89=>
(qa1 x0).bind fun t90=>
(faP 1 false 1 t90).bind fun t91=>
(stP 1 t91 t89 p88.2).bind fun p92=>
R21_6 self N (qbz E0 self Tryd.f21) qav (fr 88 [(0,x0),(3,p4.1)]) p92.2) (
R21_6 self N (qbz E0 self Tryd.f21) qav (fr 88 [(0,x0),(3,p4.1)]) p78.2):=by kernel_rfl
end
end Go.Proofs.YtafbipadnnmccaaDoor.W
end
