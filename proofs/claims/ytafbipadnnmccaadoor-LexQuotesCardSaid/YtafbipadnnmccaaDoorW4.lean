/-
  WHAT THE FUNCTIONS COME TO: each is read by the evaluator,printed,and told as a function of data,part 4 of 13 (no condition).
-/
import Derived.Test.YtafbipadnnmccaaDoorW3
import Derived.Test.YtafbipadnnmccaaDoorProg
import Derived.KernelRfl
noncomputable section
namespace Go.Proofs.YtafbipadnnmccaaDoor.W
open Go.Proofs.YtafbipadnnmccaaDoor.Ev
set_option maxRecDepth 100000
noncomputable section
def C10:Code:=Tryd.f10.body.getD .skip
def B10:D:=(qaz C10 [[],[],[],[],[],[]]).1
def F10 (self:EV) (N:Nat) (x0 x1:V) (S:St):Rs:=qdg E0 self N Tryd.f10 B10 [x0,x1] S
theorem F10_eq (self:EV) (N:Nat) (x0 x1:V) (S:St):F10 self N x0 x1 S =
(boxK 29 x1 S).bind fun p0=>
(qa5 E0 .eql 24 false true x0 .niliface).bind fun t3=>
(qa2 false t3).bind fun g5=>(bif g5 then faP 0 false 1 p0.1 else some (.tuple [])).bind fun t5=>
(qa2 false t3).bind fun g6=>(bif g6 then ld1 t5 p0.2 else some (.tuple [],p0.2)).bind fun p6=>
(qa2 false t3).bind fun g7=>(bif g7 then qa5 E0 .eql 27 false true p6.1 (.int .i64 0)else some (.tuple [])).bind fun t7=>
(qao t3 (some (.bool true)) (some t7)).bind fun t8=>
ifK t8 (
(qa5 E0 .eql 24 false true x0 .niliface).bind fun t10=>
(qa2 true t10).bind fun g12=>(bif g12 then faP 0 false 1 p0.1 else some (.tuple [])).bind fun t12=>
(qa2 true t10).bind fun g13=>(bif g13 then ld1 t12 p6.2 else some (.tuple [],p6.2)).bind fun p13=>
(qa2 true t10).bind fun g14=>(bif g14 then qa5 E0 .eql 27 false true p13.1 (.int .i64 0)else some (.tuple [])).bind fun t14=>
(qao t10 (some t14) (some (.bool false))).bind fun t15=>
some (.ret t15,p13.2)) (
(some (nwP 51 1 (Ev.one .nilptr) p6.2)).bind fun p17=>
qlm (qas E0 (B10.r.r.r.l).ops) p17.2 2 [[],[]] (self.f 32 [x0,(.iface 71 p17.1)] (onS p17.2)) fun t20 S20=>
(qa2 true t20).bind fun g22=>(bif g22 then ld1 p17.1 (onS S20)else some (.tuple [],(onS S20))).bind fun p22=>
(qa2 true t20).bind fun g23=>(bif g23 then qa1 p22.1 else some (.tuple [])).bind fun t23=>
(qa2 true t20).bind fun g24=>(bif g24 then faP 0 false 1 t23 else some (.tuple [])).bind fun t24=>
(qa2 true t20).bind fun g25=>(bif g25 then ld1 t24 (onS p22.2)else some (.tuple [],(onS p22.2))).bind fun p25=>
(qa2 true t20).bind fun g26=>(bif g26 then faP 0 false 1 p0.1 else some (.tuple [])).bind fun t26=>
(qa2 true t20).bind fun g27=>(bif g27 then ld1 t26 (onS p25.2)else some (.tuple [],(onS p25.2))).bind fun p27=>
(qa2 true t20).bind fun g28=>(bif g28 then qa5 E0 .eql 27 false false p25.1 p27.1 else some (.tuple [])).bind fun t28=>
(qao t20 (some t28) (some (.bool false))).bind fun t29=>
(qa2 true t29).bind fun g31=>(bif g31 then ld1 p17.1 (onS p27.2)else some (.tuple [],(onS p27.2))).bind fun p31=>
(qa2 true t29).bind fun g32=>(bif g32 then qa1 p31.1 else some (.tuple [])).bind fun t32=>
(qa2 true t29).bind fun g33=>(bif g33 then faP 1 false 1 t32 else some (.tuple [])).bind fun t33=>
(qa2 true t29).bind fun g34=>(bif g34 then ld1 t33 (onS p31.2)else some (.tuple [],(onS p31.2))).bind fun p34=>
(qa2 true t29).bind fun g35=>(bif g35 then faP 1 false 1 p0.1 else some (.tuple [])).bind fun t35=>
(qa2 true t29).bind fun g36=>(bif g36 then ld1 t35 (onS p34.2)else some (.tuple [],(onS p34.2))).bind fun p36=>
(qa2 true t29).bind fun g37=>(bif g37 then qa5 E0 .eql 3 false false p34.1 p36.1 else some (.tuple [])).bind fun t37=>
(qao t29 (some t37) (some (.bool false))).bind fun t38=>
(qa2 true t38).bind fun g40=>(bif g40 then some x0 else some (.tuple [])).bind fun t40=>
(qa2 true t38).bind fun g41=>(bif g41 then faP 0 false 1 p0.1 else some (.tuple [])).bind fun t41=>
(qa2 true t38).bind fun g42=>(bif g42 then ld1 t41 (onS p36.2)else some (.tuple [],(onS p36.2))).bind fun p42=>
(qa2 true t38).bind fun g43=>(bif g43 then some (.iface 27 p42.1)else some (.tuple [])).bind fun t43=>
(qa2 true t38).bind fun g44=>qlm (qas E0 (B10.r.r.r.l).ops) p17.2 26 [[],[],S20.log,[],p22.2.log,[],[],p25.2.log,[],p27.2.log,[],[],[],p31.2.log,[],[],p34.2.log,[],p36.2.log,[],[],[],[],[],p42.2.log,[]] (bif g44 then self.f 33 [t40,t43] (onS p42.2)else some (.ret (.tuple []),(onS p42.2))) fun t44 S44=>
(qao t38 (some t44) (some (.bool false))).bind fun t45=>
qh7 [(4,[9]),(7,[9]),(13,[18]),(16,[18])] p17.2 [[],[],S20.log,[],p22.2.log,[],[],p25.2.log,[],p27.2.log,[],[],[],p31.2.log,[],[],p34.2.log,[],p36.2.log,[],[],[],[],[],p42.2.log,[],S44.log,[],[]] (onS S44) fun S47=>
some (.ret t45,S47)):=by kernel_rfl
end
noncomputable section
def C14:Code:=Tryd.f14.body.getD .skip
def B14:D:=(qaz C14 [[],[],[],[],[],[],[],[3,5,6],[],[5],[],[],[],[],[],[],[],[],[0,3,5,6],[3,5,6],[0,5],[2],[]]).1
def RL14:List Nat:=cellsOf Tryd.f14.results.toList
def R14_12 (self:EV) (N:Nat) (nk:Ac->St->Rs) (ek:Nat->Ac->St->Rs) (a:Ac) (S:St):Rs:=qb8 [5] a fun a=>dr E0 self RL14 N (B14.r.r.r.r).r (mkK E0 self Tryd.f14 nk ek) a S
theorem R14_12_eq (self:EV) (N:Nat) (nk:Ac->St->Rs) (ek:Nat->Ac->St->Rs) ( v5:V) (S:St):R14_12 self N nk ek (fr 78 [(5,v5)]) S =
some (.ret v5,S):=by kernel_rfl
def qfz (self:EV) (N:Nat) (nk:Ac->St->Rs) (ek:Nat->Ac->St->Rs) (n:Nat) ( v3 v5 v6:V) (S:St):Rs:=qdq [3,5,6] (dr E0 self RL14 N (B14.r.r.r.r.l.r.l.l)) (mkK E0 self Tryd.f14 nk ek) n (fr 78 [(3,v3),(5,v5),(6,v6)]) S
theorem L14_16_eq (self:EV) (N:Nat) (nk:Ac->St->Rs) (ek:Nat->Ac->St->Rs) (n:Nat) ( v3 v5 v6:V) (S:St):qfz self N nk ek (n+1) v3 v5 v6 S =
(lnS v3 S).bind fun p19=>
(qa5 E0 .lss 3 false false v6 p19.1).bind fun t20=>
ifK t20 (
(ixP 5 v3 v6).bind fun t23=>
(faP 0 false 1 t23).bind fun t24=>
(ld1 t24 p19.2).bind fun p25=>
(qa5 E0 .eql 3 false true p25.1 (.int .i64 0)).bind fun t26=>
ifK t26 (
(qa5 E0 .add 9 false true v5 (sv [91])).bind fun t29=>
(ixP 5 v3 v6).bind fun t32=>
(faP 2 false 1 t32).bind fun t33=>
(ld1 t33 p25.2).bind fun p34=>
callP (self.f 36 [p34.1] p34.2) fun t35 S35=>
(qa5 E0 .add 9 false false t29 t35).bind fun t36=>
(qa5 E0 .add 9 false true t36 (sv [93])).bind fun t37=>
(qa5 E0 .add 3 false true v6 (.int .i64 1)).bind fun t40=>
qfz self N nk ek n v3 t37 t40 S35) (
(qa5 E0 .eql 3 false true p25.1 (.int .i64 2)).bind fun t42=>
ifK t42 (
(qa5 E0 .add 9 false true v5 (sv [47])).bind fun t45=>
(qa5 E0 .add 3 false true v6 (.int .i64 1)).bind fun t48=>
qfz self N nk ek n v3 t45 t48 p25.2) (
(qa5 E0 .eql 3 false true p25.1 (.int .i64 3)).bind fun t50=>
ifK t50 (
(qa5 E0 .add 9 false true v5 (sv [123])).bind fun t53=>
(ixP 5 v3 v6).bind fun t56=>
(faP 1 false 1 t56).bind fun t57=>
(ld1 t57 p25.2).bind fun p58=>
(qa5 E0 .add 9 false false t53 p58.1).bind fun t59=>
(ixP 5 v3 v6).bind fun t63=>
(faP 3 false 1 t63).bind fun t64=>
(ld1 t64 p58.2).bind fun p65=>
(unV .not p65.1).bind fun t66=>
ifK t66 (
(qa5 E0 .add 9 false true t59 (sv [58])).bind fun t68=>
(ixP 5 v3 v6).bind fun t71=>
(faP 2 false 1 t71).bind fun t72=>
(ld1 t72 p65.2).bind fun p73=>
callP (self.f 36 [p73.1] p73.2) fun t74 S74=>
(qa5 E0 .add 9 false false t68 t74).bind fun t75=>
(qa5 E0 .add 9 false true t75 (sv [125])).bind fun t78=>
(qa5 E0 .add 3 false true v6 (.int .i64 1)).bind fun t81=>
qfz self N nk ek n v3 t78 t81 S74) (
(qa5 E0 .add 9 false true t59 (sv [125])).bind fun t84=>
(qa5 E0 .add 3 false true v6 (.int .i64 1)).bind fun t87=>
qfz self N nk ek n v3 t84 t87 p65.2)) (
(qa5 E0 .add 9 false true v5 (sv [32])).bind fun t90=>
(ixP 5 v3 v6).bind fun t93=>
(faP 1 false 1 t93).bind fun t94=>
(ld1 t94 p25.2).bind fun p95=>
(qa5 E0 .add 9 false false t90 p95.1).bind fun t96=>
(qa5 E0 .add 9 false true t96 (sv [32])).bind fun t97=>
(qa5 E0 .add 3 false true v6 (.int .i64 1)).bind fun t100=>
qfz self N nk ek n v3 t97 t100 p95.2)))) (
ek 0 (fr 78 [(5,v5)]) p19.2):=by kernel_rfl
def F14 (self:EV) (N:Nat) (x0:V) (S:St):Rs:=qdg E0 self N Tryd.f14 B14 [x0] S
theorem F14_eq (self:EV) (N:Nat) (x0:V) (S:St):F14 self N x0 S =
callP (self.f 8 [x0] S) fun t2 S2=>
(qac t2 0).bind fun t4=>
(qac t2 1).bind fun t5=>
(qa5 E0 .neq 24 false true t5 .niliface).bind fun t9=>
ifK t9 (
some (.ret (sv [63]),S2)) (
qfz self N (R14_12 self N (qbu E0 self Tryd.f14) qav) (exB 0 (R14_12 self N (qbu E0 self Tryd.f14) qav) qav) N t4 (sv []) (.int .i64 0) S2):=by kernel_rfl
def C36:Code:=Tryd.f36.body.getD .skip
def B36:D:=(qaz C36 [[],[],[],[0,3,4],[],[3],[],[],[],[],[0,0,3,4,5,6],[0,3,4],[],[],[],[],[0,0,3,4],[0,3,4],[0,3],[2],[]]).1
def RL36:List Nat:=cellsOf Tryd.f36.results.toList
def R36_2 (self:EV) (N:Nat) (nk:Ac->St->Rs) (ek:Nat->Ac->St->Rs) (a:Ac) (S:St):Rs:=qb8 [3] a fun a=>dr E0 self RL36 N (B36.r.r).r (mkK E0 self Tryd.f36 nk ek) a S
theorem R36_2_eq (self:EV) (N:Nat) (nk:Ac->St->Rs) (ek:Nat->Ac->St->Rs) ( v3:V) (S:St):R36_2 self N nk ek (fr 55 [(3,v3)]) S =
some (.ret v3,S):=by kernel_rfl
def qg5 (self:EV) (N:Nat) (nk:Ac->St->Rs) (ek:Nat->Ac->St->Rs) (n:Nat) ( v0 v3 v4:V) (S:St):Rs:=qdq [0,3,4] (dr E0 self RL36 N (B36.r.r.l.r.l.l)) (mkK E0 self Tryd.f36 nk ek) n (fr 55 [(0,v0),(3,v3),(4,v4)]) S
theorem L36_6_eq (self:EV) (N:Nat) (nk:Ac->St->Rs) (ek:Nat->Ac->St->Rs) (n:Nat) ( v0 v3 v4:V) (S:St):qg5 self N nk ek (n+1) v0 v3 v4 S =
(lnS v0 S).bind fun p9=>
(qa5 E0 .lss 3 false false v4 p9.1).bind fun t10=>
ifK t10 (
(ixP 6 v0 v4).bind fun t13=>
(ldA 6 t13 p9.2).bind fun p14=>
(some (nwP 49 6 (Tr.ofListFrom .nil [(.int .i64 0),(sv []),(sv []),(.bool false),.nilslice,.nilptr] 0) p14.2)).bind fun p15=>
(stP 6 p15.1 p14.1 p15.2).bind fun p16=>
(qab E0 114 [(0,(sv [])),(1,(sv [113])),(2,(sv [36])),(3,(sv [40]))]).bind fun t17=>
(faP 0 false 1 p15.1).bind fun t18=>
(ld1 t18 p16.2).bind fun p19=>
(qki minV p19.1 [(.int .i64 3)] p19.2).bind fun p20=>
(qki maxV p20.1 [(.int .i64 0)] p20.2).bind fun p21=>
(ixV 4 1 false 1 t17 p21.1).bind fun t22=>
(faP 3 false 1 p15.1).bind fun t24=>
(ld1 t24 p21.2).bind fun p25=>
ifK p25.1 (
(qa5 E0 .add 9 false true t22 (sv [81])).bind fun t27=>
(qa5 E0 .add 9 false false v3 t27).bind fun t31=>
(faP 1 false 1 p15.1).bind fun t32=>
(ld1 t32 p25.2).bind fun p33=>
(qa5 E0 .add 9 false false t31 p33.1).bind fun t34=>
(faP 2 false 1 p15.1).bind fun t35=>
(ld1 t35 p33.2).bind fun p36=>
(qa5 E0 .add 9 false false t34 p36.1).bind fun t37=>
(faP 4 false 1 p15.1).bind fun t39=>
(ld1 t39 p36.2).bind fun p40=>
(lnS p40.1 p40.2).bind fun p41=>
(qa5 E0 .gtr 3 false true p41.1 (.int .i64 0)).bind fun t42=>
ifK t42 (
(qa5 E0 .add 9 false true t37 (sv [60])).bind fun t44=>
(faP 4 false 1 p15.1).bind fun t45=>
(ld1 t45 p41.2).bind fun p46=>
callP (self.f 36 [p46.1] p46.2) fun t47 S47=>
(qa5 E0 .add 9 false false t44 t47).bind fun t48=>
(qa5 E0 .add 9 false true t48 (sv [62])).bind fun t49=>
(qa5 E0 .add 3 false true v4 (.int .i64 1)).bind fun t52=>
(lnS v0 S47).bind fun p54=>
(qa5 E0 .lss 3 false false t52 p54.1).bind fun t55=>
ifK t55 (
(qa5 E0 .add 9 false true t49 (sv [46])).bind fun t57=>
(qa5 E0 .add 3 false true v4 (.int .i64 1)).bind fun t60=>
qg5 self N nk ek n v0 t57 t60 p54.2) (
(qa5 E0 .add 3 false true v4 (.int .i64 1)).bind fun t63=>
qg5 self N nk ek n v0 t49 t63 p54.2)) (
(qa5 E0 .add 3 false true v4 (.int .i64 1)).bind fun t66=>
(lnS v0 p41.2).bind fun p68=>
(qa5 E0 .lss 3 false false t66 p68.1).bind fun t69=>
ifK t69 (
(qa5 E0 .add 9 false true t37 (sv [46])).bind fun t71=>
(qa5 E0 .add 3 false true v4 (.int .i64 1)).bind fun t74=>
qg5 self N nk ek n v0 t71 t74 p68.2) (
(qa5 E0 .add 3 false true v4 (.int .i64 1)).bind fun t77=>
qg5 self N nk ek n v0 t37 t77 p68.2))) (
(qa5 E0 .add 9 false false v3 t22).bind fun t81=>
(faP 1 false 1 p15.1).bind fun t82=>
(ld1 t82 p25.2).bind fun p83=>
(qa5 E0 .add 9 false false t81 p83.1).bind fun t84=>
(faP 2 false 1 p15.1).bind fun t85=>
(ld1 t85 p83.2).bind fun p86=>
(qa5 E0 .add 9 false false t84 p86.1).bind fun t87=>
(faP 4 false 1 p15.1).bind fun t89=>
(ld1 t89 p86.2).bind fun p90=>
(lnS p90.1 p90.2).bind fun p91=>
(qa5 E0 .gtr 3 false true p91.1 (.int .i64 0)).bind fun t92=>
ifK t92 (
(qa5 E0 .add 9 false true t87 (sv [60])).bind fun t94=>
(faP 4 false 1 p15.1).bind fun t95=>
(ld1 t95 p91.2).bind fun p96=>
callP (self.f 36 [p96.1] p96.2) fun t97 S97=>
(qa5 E0 .add 9 false false t94 t97).bind fun t98=>
(qa5 E0 .add 9 false true t98 (sv [62])).bind fun t99=>
(qa5 E0 .add 3 false true v4 (.int .i64 1)).bind fun t102=>
(lnS v0 S97).bind fun p104=>
(qa5 E0 .lss 3 false false t102 p104.1).bind fun t105=>
ifK t105 (
(qa5 E0 .add 9 false true t99 (sv [46])).bind fun t107=>
(qa5 E0 .add 3 false true v4 (.int .i64 1)).bind fun t110=>
qg5 self N nk ek n v0 t107 t110 p104.2) (
(qa5 E0 .add 3 false true v4 (.int .i64 1)).bind fun t113=>
qg5 self N nk ek n v0 t99 t113 p104.2)) (
(qa5 E0 .add 3 false true v4 (.int .i64 1)).bind fun t116=>
(lnS v0 p91.2).bind fun p118=>
(qa5 E0 .lss 3 false false t116 p118.1).bind fun t119=>
ifK t119 (
(qa5 E0 .add 9 false true t87 (sv [46])).bind fun t121=>
(qa5 E0 .add 3 false true v4 (.int .i64 1)).bind fun t124=>
qg5 self N nk ek n v0 t121 t124 p118.2) (
(qa5 E0 .add 3 false true v4 (.int .i64 1)).bind fun t127=>
qg5 self N nk ek n v0 t87 t127 p118.2)))) (
ek 0 (fr 55 [(3,v3)]) p9.2):=by kernel_rfl
def F36 (self:EV) (N:Nat) (x0:V) (S:St):Rs:=qdg E0 self N Tryd.f36 B36 [x0] S
theorem F36_eq (self:EV) (N:Nat) (x0:V) (S:St):F36 self N x0 S =
qg5 self N (R36_2 self N (qbu E0 self Tryd.f36) qav) (exB 0 (R36_2 self N (qbu E0 self Tryd.f36) qav) qav) N x0 (sv []) (.int .i64 0) S:=by kernel_rfl
def C15:Code:=Tryd.f15.body.getD .skip
def B15:D:=(qaz C15 [[],[],[]]).1
def F15 (self:EV) (N:Nat) (x0 x1 x2:V) (S:St):Rs:=qdg E0 self N Tryd.f15 B15 [x0,x1,x2] S
theorem F15_eq (self:EV) (N:Nat) (x0 x1 x2:V) (S:St):F15 self N x0 x1 x2 S =
callP (self.f 8 [x0] S) fun t2 S2=>
(qac t2 0).bind fun t4=>
(qac t2 1).bind fun t5=>
(lnS t4 S2).bind fun p9=>
(qa5 E0 .eql 3 false true p9.1 (.int .i64 0)).bind fun t10=>
(qa2 true t10).bind fun g12=>(bif g12 then some t5 else some (.tuple [])).bind fun t12=>
(qa2 true t10).bind fun g13=>(bif g13 then some x1 else some (.tuple [])).bind fun t13=>
(qa2 true t10).bind fun g14=>(bif g14 then some x2 else some (.tuple [])).bind fun t14=>
(qa2 true t10).bind fun g15=>(bif g15 then qab E0 29 [(0,t13),(1,t14)]else some (.tuple [])).bind fun t15=>
(qa2 true t10).bind fun g16=>callP (bif g16 then self.f 10 [t12,t15] p9.2 else some (.ret (.tuple []),p9.2)) fun t16 S16=>
(qao t10 (some t16) (some (.bool false))).bind fun t17=>
some (.ret t17,S16):=by kernel_rfl
def C12:Code:=Tryd.f12.body.getD .skip
def B12:D:=(qaz C12 [[],[]]).1
def F12 (self:EV) (N:Nat) (S:St):Rs:=qdg E0 self N Tryd.f12 B12 [] S
theorem F12_eq (self:EV) (N:Nat) (S:St):F12 self N S =
callP (self.f 14 [(sv [101,99,104,111,32,97,39,98,32,99,39,34,100,36,120,34,32,50,62,102])] S) fun t1 S1=>
(qa5 E0 .eql 9 false true t1 (sv [91,101,99,104,111,93,91,97,46,113,98,32,99,46,113,81,100,46,36,81,120,93,32,50,62,32,91,102,93])).bind fun t2=>
(qa2 true t2).bind fun g4=>callP (bif g4 then self.f 14 [(sv [97,59,98,38,38,99,32,35,32,120,10])] S1 else some (.ret (.tuple []),S1)) fun t4 S4=>
(qa2 true t2).bind fun g5=>(bif g5 then qa5 E0 .eql 9 false true t4 (sv [91,97,93,32,59,32,91,98,93,32,38,38,32,91,99,93,47])else some (.tuple [])).bind fun t5=>
(qao t2 (some t5) (some (.bool false))).bind fun t6=>
(qa2 true t6).bind fun g8=>callP (bif g8 then self.f 14 [(sv [36,123,120,58,45,97,32,98,125,34,36,123,35,121,125,34,32,36,40,102,32,39,41,39,32,41])] S4 else some (.ret (.tuple []),S4)) fun t8 S8=>
(qa2 true t6).bind fun g9=>(bif g9 then qa5 E0 .eql 9 false true t8 (sv [91,36,120,58,45,60,97,32,98,62,46,36,81,121,108,101,110,93,91,40,102,32,39,41,39,32,93])else some (.tuple [])).bind fun t9=>
(qao t6 (some t9) (some (.bool false))).bind fun t10=>
(qa2 true t10).bind fun g12=>callP (bif g12 then self.f 14 [(sv [99,97,116,32,60,60,69,59,120,10,104,105,32,36,121,10,69,10])] S8 else some (.ret (.tuple []),S8)) fun t12 S12=>
(qa2 true t10).bind fun g13=>(bif g13 then qa5 E0 .eql 9 false true t12 (sv [91,99,97,116,93,32,60,60,32,91,69,93,123,104,105,32,36,121,10,58,113,81,104,105,32,46,36,81,121,46,113,81,10,125,32,59,32,91,120,93,47])else some (.tuple [])).bind fun t13=>
(qao t10 (some t13) (some (.bool false))).bind fun t14=>
(qa2 true t14).bind fun g16=>callP (bif g16 then self.f 15 [(sv [39,97]),(.int .i64 19),(.int .i64 0)] S12 else some (.ret (.tuple []),S12)) fun t16 S16=>
(qao t14 (some t16) (some (.bool false))).bind fun t17=>
(qa2 true t17).bind fun g19=>callP (bif g19 then self.f 15 [(sv [97,32,38]),(.int .i64 19),(.int .i64 2)] S16 else some (.ret (.tuple []),S16)) fun t19 S19=>
(qao t17 (some t19) (some (.bool false))).bind fun t20=>
(qa2 true t20).bind fun g22=>callP (bif g22 then self.f 15 [(sv [34,36,123,120,34]),(.int .i64 19),(.int .i64 1)] S19 else some (.ret (.tuple []),S19)) fun t22 S22=>
(qao t20 (some t22) (some (.bool false))).bind fun t23=>
(qa2 true t23).bind fun g25=>callP (bif g25 then self.f 15 [(sv [96]),(.int .i64 19),(.int .i64 0)] S22 else some (.ret (.tuple []),S22)) fun t25 S25=>
(qao t23 (some t25) (some (.bool false))).bind fun t26=>
some (.ret t26,S25):=by kernel_rfl
end
noncomputable section
def C85:Code:=Tryd.f85.body.getD .skip
def B85:D:=(qaz C85 [[],[],[],[],[],[],[],[],[],[],[],[],[],[],[],[],[0,1,5,6,7,8,9,10],[],[],[],[],[],[],[],[],[0,0,1,5,6,7,8,9,10],[0,1,5,6,7,8,9,10],[],[],[],[],[],[],[],[],[],[],[],[],[],[],[],[],[],[0],[4],[]]).1
def F85 (self:EV) (N:Nat) (x0 x1:V) (S:St):Rs:=qdg E0 self N Tryd.f85 B85 [x0,x1] S
theorem F85_eq (self:EV) (N:Nat) (x0 x1:V) (S:St):F85 self N x0 x1 S =
(qbw x1 S).bind fun p2=>
(qa5 E0 .eql 3 false true p2.1 (.int .i64 0)).bind fun t5=>
(qa2 false t5).bind fun g7=>(bif g7 then some x1 else some (.tuple [])).bind fun t7=>
(qa2 false t5).bind fun g8=>(bif g8 then some x0 else some (.tuple [])).bind fun t8=>
(qa2 false t5).bind fun g9=>(bif g9 then qa5 E0 .eql 9 false false t7 t8 else some (.tuple [])).bind fun t9=>
(qao t5 (some (.bool true)) (some t9)).bind fun t10=>
ifK t10 (
some (.ret (.int .i64 0),p2.2)) (
(qa5 E0 .eql 3 false true p2.1 (.int .i64 1)).bind fun t14=>
ifK t14 (
(ixS x1 (.int .i64 0)).bind fun t18=>
callP (self.f 87 [x0,t18] p2.2) fun t19 S19=>
some (.ret t19,S19)) (
(qbw x0 p2.2).bind fun p23=>
(qa5 E0 .geq 3 false false p2.1 p23.1).bind fun t24=>
ifK t24 (
some (.ret (.int .i64 (-1)),p23.2)) (
none))):=by kernel_rfl
end
end Go.Proofs.YtafbipadnnmccaaDoor.W

namespace Go.Proofs.YtafbipadnnmccaaDoor.W
open Go.Proofs.YtafbipadnnmccaaDoor.Ev Go.RowKit
structure RefL (K:FuncId->Option KF):Prop where
 k24:K 24=none
 k44:K 44=none
 k23:K 23=none
 k25:K 25=none
 k46:K 46=none
 k66:K 66=none
 k73:K 73=none
 k87:K 87=none
 k67:K 67=none
 k47:K 47=none
 k48:K 48=none
 k99:K 99=none
 k100:K 100=none
 k101:K 101=none
 k68:K 68=none
 k71:K 71=none
 k38:K 38=none
 k60:K 60=none
 k13:K 13=none
 k35:K 35=none
 k72:K 72=none
 k70:K 70=none
 k69:K 69=none
 k90:K 90=none
 k88:K 88=none
 k98:K 98=none
 k74:K 74=none
 k89:K 89=none
 k49:K 49=none
 k19:K 19=none
 k20:K 20=none
 k21:K 21=none
 k22:K 22=none
 k45:K 45=none
 k8:K 8=none
 k26:K 26=none
 k28:K 28=none
 k75:K 75=none
 k50:K 50=none
 k78:K 78=none
 k30:K 30=none
 k31:K 31=none
 k102:K 102=none
 k93:K 93=none
 k92:K 92=none
 k77:K 77=none
 k76:K 76=none
 k91:K 91=none
 k27:K 27=none
 k51:K 51=none
 k29:K 29=none
 k9:K 9=none
 k11:K 11=none
 k34:K 34=none
 k10:K 10=none
 k14:K 14=none
 k36:K 36=none
 k15:K 15=none
 k12:K 12=none
 k85:K 85=none
 k3:K 3=none
abbrev RdL (K:FuncId->Option KF) (f:FuncId) (F:Func) (B:D):Prop:=∀{n:Nat} {args:List V} {s:St} {r:En×St},qdg E0 (ev E0 K n) qa3 F B args s=some r->(ev E0 K (n+1)).f f args s=some r
section
variable {K:FuncId->Option KF}
theorem rv24 (h:RefL K):RdL K 24 Tryd.f24 B24:=qa9 (c:=C24) (d:=B24) (by kernel_rfl) (by kernel_rfl) (qa4 C24 _ (by kernel_rfl)) h.k24
theorem rv44 (h:RefL K):RdL K 44 Tryd.f44 B44:=qa9 (c:=C44) (d:=B44) (by kernel_rfl) (by kernel_rfl) (qa4 C44 _ (by kernel_rfl)) h.k44
theorem rv23 (h:RefL K):RdL K 23 Tryd.f23 B23:=qa9 (c:=C23) (d:=B23) (by kernel_rfl) (by kernel_rfl) (qa4 C23 _ (by kernel_rfl)) h.k23
theorem rv25 (h:RefL K):RdL K 25 Tryd.f25 B25:=qa9 (c:=C25) (d:=B25) (by kernel_rfl) (by kernel_rfl) (qa4 C25 _ (by kernel_rfl)) h.k25
theorem rv46 (h:RefL K):RdL K 46 Tryd.f46 B46:=qa9 (c:=C46) (d:=B46) (by kernel_rfl) (by kernel_rfl) (qa4 C46 _ (by kernel_rfl)) h.k46
theorem rv66 (h:RefL K):RdL K 66 Tryd.f66 B66:=qa9 (c:=C66) (d:=B66) (by kernel_rfl) (by kernel_rfl) (qa4 C66 _ (by kernel_rfl)) h.k66
theorem rv73 (h:RefL K):RdL K 73 Tryd.f73 B73:=qa9 (c:=C73) (d:=B73) (by kernel_rfl) (by kernel_rfl) (qa4 C73 _ (by kernel_rfl)) h.k73
theorem rv87 (h:RefL K):RdL K 87 Tryd.f87 B87:=qa9 (c:=C87) (d:=B87) (by kernel_rfl) (by kernel_rfl) (qa4 C87 _ (by kernel_rfl)) h.k87
theorem rv67 (h:RefL K):RdL K 67 Tryd.f67 B67:=qa9 (c:=C67) (d:=B67) (by kernel_rfl) (by kernel_rfl) (qa4 C67 _ (by kernel_rfl)) h.k67
theorem rv47 (h:RefL K):RdL K 47 Tryd.f47 B47:=qa9 (c:=C47) (d:=B47) (by kernel_rfl) (by kernel_rfl) (qa4 C47 _ (by kernel_rfl)) h.k47
theorem rv48 (h:RefL K):RdL K 48 Tryd.f48 B48:=qa9 (c:=C48) (d:=B48) (by kernel_rfl) (by kernel_rfl) (qa4 C48 _ (by kernel_rfl)) h.k48
theorem rv99 (h:RefL K):RdL K 99 Tryd.f99 B99:=qa9 (c:=C99) (d:=B99) (by kernel_rfl) (by kernel_rfl) (qa4 C99 _ (by kernel_rfl)) h.k99
theorem rv100 (h:RefL K):RdL K 100 Tryd.f100 B100:=qa9 (c:=C100) (d:=B100) (by kernel_rfl) (by kernel_rfl) (qa4 C100 _ (by kernel_rfl)) h.k100
theorem rv101 (h:RefL K):RdL K 101 Tryd.f101 B101:=qa9 (c:=C101) (d:=B101) (by kernel_rfl) (by kernel_rfl) (qa4 C101 _ (by kernel_rfl)) h.k101
theorem rv68 (h:RefL K):RdL K 68 Tryd.f68 B68:=qa9 (c:=C68) (d:=B68) (by kernel_rfl) (by kernel_rfl) (qa4 C68 _ (by kernel_rfl)) h.k68
theorem rv71 (h:RefL K):RdL K 71 Tryd.f71 B71:=qa9 (c:=C71) (d:=B71) (by kernel_rfl) (by kernel_rfl) (qa4 C71 _ (by kernel_rfl)) h.k71
theorem rv38 (h:RefL K):RdL K 38 Tryd.f38 B38:=qa9 (c:=C38) (d:=B38) (by kernel_rfl) (by kernel_rfl) (qa4 C38 _ (by kernel_rfl)) h.k38
theorem rv60 (h:RefL K):RdL K 60 Tryd.f60 B60:=qa9 (c:=C60) (d:=B60) (by kernel_rfl) (by kernel_rfl) (qa4 C60 _ (by kernel_rfl)) h.k60
theorem rv13 (h:RefL K):RdL K 13 Tryd.f13 B13:=qa9 (c:=C13) (d:=B13) (by kernel_rfl) (by kernel_rfl) (qa4 C13 _ (by kernel_rfl)) h.k13
theorem rv35 (h:RefL K):RdL K 35 Tryd.f35 B35:=qa9 (c:=C35) (d:=B35) (by kernel_rfl) (by kernel_rfl) (qa4 C35 _ (by kernel_rfl)) h.k35
theorem rv72 (h:RefL K):RdL K 72 Tryd.f72 B72:=qa9 (c:=C72) (d:=B72) (by kernel_rfl) (by kernel_rfl) (qa4 C72 _ (by kernel_rfl)) h.k72
theorem rv70 (h:RefL K):RdL K 70 Tryd.f70 B70:=qa9 (c:=C70) (d:=B70) (by kernel_rfl) (by kernel_rfl) (qa4 C70 _ (by kernel_rfl)) h.k70
theorem rv69 (h:RefL K):RdL K 69 Tryd.f69 B69:=qa9 (c:=C69) (d:=B69) (by kernel_rfl) (by kernel_rfl) (qa4 C69 _ (by kernel_rfl)) h.k69
theorem rv90 (h:RefL K):RdL K 90 Tryd.f90 B90:=qa9 (c:=C90) (d:=B90) (by kernel_rfl) (by kernel_rfl) (qa4 C90 _ (by kernel_rfl)) h.k90
theorem rv88 (h:RefL K):RdL K 88 Tryd.f88 B88:=qa9 (c:=C88) (d:=B88) (by kernel_rfl) (by kernel_rfl) (qa4 C88 _ (by kernel_rfl)) h.k88
theorem rv98 (h:RefL K):RdL K 98 Tryd.f98 B98:=qa9 (c:=C98) (d:=B98) (by kernel_rfl) (by kernel_rfl) (qa4 C98 _ (by kernel_rfl)) h.k98
theorem rv74 (h:RefL K):RdL K 74 Tryd.f74 B74:=qa9 (c:=C74) (d:=B74) (by kernel_rfl) (by kernel_rfl) (qa4 C74 _ (by kernel_rfl)) h.k74
theorem rv89 (h:RefL K):RdL K 89 Tryd.f89 B89:=qa9 (c:=C89) (d:=B89) (by kernel_rfl) (by kernel_rfl) (qa4 C89 _ (by kernel_rfl)) h.k89
theorem rv49 (h:RefL K):RdL K 49 Tryd.f49 B49:=qa9 (c:=C49) (d:=B49) (by kernel_rfl) (by kernel_rfl) (qa4 C49 _ (by kernel_rfl)) h.k49
theorem rv19 (h:RefL K):RdL K 19 Tryd.f19 B19:=qa9 (c:=C19) (d:=B19) (by kernel_rfl) (by kernel_rfl) (qa4 C19 _ (by kernel_rfl)) h.k19
theorem rv20 (h:RefL K):RdL K 20 Tryd.f20 B20:=qa9 (c:=C20) (d:=B20) (by kernel_rfl) (by kernel_rfl) (qa4 C20 _ (by kernel_rfl)) h.k20
theorem rv21 (h:RefL K):RdL K 21 Tryd.f21 B21:=qa9 (c:=C21) (d:=B21) (by kernel_rfl) (by kernel_rfl) (qa4 C21 _ (by kernel_rfl)) h.k21
theorem rv22 (h:RefL K):RdL K 22 Tryd.f22 B22:=qa9 (c:=C22) (d:=B22) (by kernel_rfl) (by kernel_rfl) (qa4 C22 _ (by kernel_rfl)) h.k22
theorem rv45 (h:RefL K):RdL K 45 Tryd.f45 B45:=qa9 (c:=C45) (d:=B45) (by kernel_rfl) (by kernel_rfl) (qa4 C45 _ (by kernel_rfl)) h.k45
theorem rv8 (h:RefL K):RdL K 8 Tryd.f8 B8:=qa9 (c:=C8) (d:=B8) (by kernel_rfl) (by kernel_rfl) (qa4 C8 _ (by kernel_rfl)) h.k8
theorem rv10 (h:RefL K):RdL K 10 Tryd.f10 B10:=qa9 (c:=C10) (d:=B10) (by kernel_rfl) (by kernel_rfl) (qa4 C10 _ (by kernel_rfl)) h.k10
theorem rv14 (h:RefL K):RdL K 14 Tryd.f14 B14:=qa9 (c:=C14) (d:=B14) (by kernel_rfl) (by kernel_rfl) (qa4 C14 _ (by kernel_rfl)) h.k14
theorem rv36 (h:RefL K):RdL K 36 Tryd.f36 B36:=qa9 (c:=C36) (d:=B36) (by kernel_rfl) (by kernel_rfl) (qa4 C36 _ (by kernel_rfl)) h.k36
theorem rv15 (h:RefL K):RdL K 15 Tryd.f15 B15:=qa9 (c:=C15) (d:=B15) (by kernel_rfl) (by kernel_rfl) (qa4 C15 _ (by kernel_rfl)) h.k15
theorem rv12 (h:RefL K):RdL K 12 Tryd.f12 B12:=qa9 (c:=C12) (d:=B12) (by kernel_rfl) (by kernel_rfl) (qa4 C12 _ (by kernel_rfl)) h.k12
theorem rv85 (h:RefL K):RdL K 85 Tryd.f85 B85:=qa9 (c:=C85) (d:=B85) (by kernel_rfl) (by kernel_rfl) (qa4 C85 _ (by kernel_rfl)) h.k85
end
theorem big4:4<big:=by unfold big; decide
theorem qg8 (S:St):onS S=S.lg []:=rfl
theorem llg (S:St) (l k:List LE):(S.lg l).lg k=S.lg k:=rfl
structure Lx (S:St) (b:Nat) (s:Bs) (i:Nat) (vT vW:V):Prop where
 ex:∃t,AgAt S b 57 4 t/\t.get 0=some (sv s)/\t.get 1=some (.int .i64 (i:Int))/\t.get 2=some vT/\t.get 3=some vW
section
variable {K:FuncId->Option KF} {S:St} {b i:Nat} {s:Bs} {vT vW:V}
theorem Lx.s0 (ho:S.on=false) (h:Lx S b s i vT vW) (l:List LE):ld1 (.ptr b 0) (S.lg l)=some (sv s,S.lg (⟨b,0,1,false⟩::l)):=by
 obtain⟨t,h1,h2,_⟩:=h.ex;exact qc5 ho (h1.ld1 ho big4 (by decide) h2) l
theorem Lx.i1 (ho:S.on=false) (h:Lx S b s i vT vW) (l:List LE):ld1 (.ptr b 1) (S.lg l)=some (.int .i64 (i:Int),S.lg (⟨b,1,2,false⟩::l)):=by
 obtain⟨t,h1,_,h2,_⟩:=h.ex;exact qc5 ho (h1.ld1 ho big4 (by decide) h2) l
theorem Lx.grew {W:Nat->Prop} {U:St} (h:Lx S b s i vT vW) (hb:b<S.next) (hw:¬W b) (g:Grew W S U):Lx U b s i vT vW:=by
 obtain⟨t,h1,h2⟩:=h.ex;exact⟨t,h1.grew hb hw g,h2⟩
theorem qed (hK:RefL K) (m:Nat) (ho:S.on=false) (h:Lx S b s i vT vW):(ev E0 K (m+1)).f 24 [.ptr b 0] S=some (.ret (.bool (decide (i<s.length))),S):=rv24 hK (by
 show F24 (ev E0 K m) qa3 (.ptr b 0) S=_;rw[F24_eq,show qa1 (.ptr b 0)=some (.ptr b 0)from rfl,oB,show faP 1 false 1 (.ptr b 0)=some (.ptr b 1)from rfl,oB,qg8,h.i1 ho,oB];dsimp only;rw[oB,show faP 0 false 1 (.ptr b 0)=some (.ptr b 0)from rfl,oB,qg8,llg,h.s0 ho,oB];dsimp only;rw[qg8,llg,lnStr_sv,oB];dsimp only
 rw[qk5,oB,qbq (by rfl),qg8,llg,qd2 ho])
theorem geqN (a b:Nat):qa5 E0 .geq 3 false false (.int .i64 (a:Int)) (.int .i64 (b:Int))=some (.bool (decide (b<=a))):=by
 rw[binV_ii,intsV_geq]
 congr 2
 simp
def begD (s t:Bs):Bool:=s.take t.length==t
theorem beg_lt {s t:Bs} (h:¬t.length<=s.length):begD s t=false:=by
 unfold begD;refine beq_eq_false_iff_ne.2 fun e=>h ?_;rw[<- e,List.length_take];omega
theorem beg_run (hK:RefL K) (m:Nat) (s t:Bs) (S:St):(ev E0 K (m+1)).f 60 [sv s,sv t] S=some (.ret (.bool (begD s t)),S):=rv60 hK (by
 show F60 (ev E0 K m) qa3 (sv s) (sv t) S=_;rw[F60_eq,lnStr_sv,oB];dsimp only;rw[lnStr_sv,oB];dsimp only;rw[geqN,oB];by_cases h:t.length<=s.length
 . rw[dT h]
   simp only[qae,oB,cT,lnStr_sv];rw[qb9 und9 s (qey .i64 h) h,oB];simp only[oB];rw[eqStr,oB,pickV_bool,cT,oB,List.drop_zero,Nat.sub_zero];rfl
 . rw[dF h,beg_lt h]
   rfl)
theorem has_run (hK:RefL K) (m:Nat) (s t:Bs) (S:St):(ev E0 K (m+2)).f 38 [sv s,sv t] S=some (.ret (.bool (begD s t)),S):=rv38 hK (by
 show F38 (ev E0 K (m+1)) qa3 (sv s) (sv t) S=_
 rw[F38_eq,beg_run hK m,callP_ret])
theorem next_run (hK:RefL K) (m:Nat) (ho:S.on=false) (h:Lx S b s i vT vW) (hi:i<=s.length) (t:Bs):(ev E0 K (m+3)).f 44 [.ptr b 0,sv t] S=some (.ret (.bool (begD (s.drop i) t)),S):=rv44 hK (by
 show F44 (ev E0 K (m+2)) qa3 (.ptr b 0) (sv t) S=_;rw[F44_eq,show qa1 (.ptr b 0)=some (.ptr b 0)from rfl,oB,show faP 0 false 1 (.ptr b 0)=some (.ptr b 0)from rfl,oB,qg8,h.s0 ho,oB];dsimp only;rw[oB,show faP 1 false 1 (.ptr b 0)=some (.ptr b 1)from rfl,oB,qg8,llg,h.i1 ho,oB];dsimp only;rw[qg8,llg,qb9 und9 s (qcw .i64 hi) (lR _),oB];dsimp only
 rw[qg8,llg,has_run hK m,qc8,qbq (by rfl),qg8,llg,qd2 ho,List.take_of_length_le (by rw[List.length_drop]; omega)])
theorem addN {a c:Nat} (h:a+c<9223372036854775808):qa5 E0 .add 3 false false (.int .i64 (a:Int)) (.int .i64 (c:Int))=some (.int .i64 ((a+c:Nat):Int)):=by
 rw[binV_ii,intsV_add,qdi (by omega) (by omega),Int.natCast_add]
theorem Lx.put (ho:S.on=false) (h:Lx S b s i vT vW) (j:Nat):∃U,stP 1 (.ptr b 1) (.int .i64 (j:Int)) S=some (.tuple [],U)/\Lx U b s j vT vW/\Grew (fun x=>x=b) S U/\U.next=S.next:=by
 obtain⟨t,h1,h2,h3,h4,h5⟩:=h.ex;obtain⟨U,k1,k2,k3,k4⟩:=h1.st1 ho big4 (by decide) (by decide:1<4) (.int .i64 (j:Int)) rfl rfl rfl;refine⟨U,k1,⟨_,k2,?_,?_,?_,?_⟩,k3,k4⟩<;>rw[Tr.get_set]
 . exact h2
 . rfl
 . exact h4
 . exact h5
theorem Lx.s0f (ho:S.on=false) (h:Lx S b s i vT vW):ld1 (.ptr b 0) S=some (sv s,S):=by
 obtain⟨t,h1,h2,_⟩:=h.ex;exact h1.ld1 ho big4 (by decide) h2
theorem Lx.i1f (ho:S.on=false) (h:Lx S b s i vT vW):ld1 (.ptr b 1) S=some (.int .i64 (i:Int),S):=by
 obtain⟨t,h1,_,h2,_⟩:=h.ex;exact h1.ld1 ho big4 (by decide) h2
theorem qbc (hK:RefL K) (m:Nat) (ho:S.on=false) (h:Lx S b s i vT vW) (hi:i<=s.length) {t:Bs} (ht:begD (s.drop i) t=false):(ev E0 K (m+4)).f 23 [.ptr b 0,sv t] S=some (.ret (.bool false),S):=rv23 hK (by
 show F23 (ev E0 K (m+3)) qa3 (.ptr b 0) (sv t) S=_;rw[F23_eq,next_run hK m ho h hi,callP_ret,ht]
 rfl)
theorem qb3 (hK:RefL K) (m:Nat) (ho:S.on=false) (h:Lx S b s i vT vW) (hi:i<=s.length) {t:Bs} (hl:i+t.length<9223372036854775808) (ht:begD (s.drop i) t=true) :
 ∃U,(ev E0 K (m+4)).f 23 [.ptr b 0,sv t] S=some (.ret (.bool true),U)/\Lx U b s (i+t.length) vT vW/\Grew (fun x=>x=b) S U/\U.next=S.next:=by
 obtain⟨U,k1,k2⟩:=h.put ho (i+t.length);refine⟨U,rv23 hK ?_,k2⟩;show F23 (ev E0 K (m+3)) qa3 (.ptr b 0) (sv t) S=_;rw[F23_eq,next_run hK m ho h hi,callP_ret,ht,show unV .not (.bool true)=some (.bool false)from rfl,oB,ifK_bool,cF,show qa1 (.ptr b 0)=some (.ptr b 0)from rfl,oB,show faP 1 false 1 (.ptr b 0)=some (.ptr b 1)from rfl,oB,h.i1f ho,oB];dsimp only;rw[lnStr_sv,oB];dsimp only;rw[addN hl,oB,oB,show faP 1 false 1 (.ptr b 0)=some (.ptr b 1)from rfl,oB,k1,oB]
def qk3 (c n:Nat):Tr V:=Tr.ofListFrom .nil [.int .i64 (c:Int),.int .i64 (n:Int)] 0
theorem build_52 (c n:Int):qab E0 52 [(0,.int .i64 c),(1,.int .i64 n)]=some (.agg 2 (Tr.ofListFrom .nil [.int .i64 c,.int .i64 n] 0)):=by kernel_rfl
theorem fail_run (hK:RefL K) (m:Nat) (ho:S.on=false) (c n:Nat):∃U,(ev E0 K (m+1)).f 25 [.int .i64 (c:Int),.int .i64 (n:Int)] S=some (.pan (.iface 51 (.ptr S.next 0)),U)/\AgAt U S.next 52 2 (qk3 c n)/\Grew (fun _=>False) S U/\U.next=S.next+1:=by
 obtain⟨a1,a2,a3⟩:=qbp ho 52 2 (qk3 c n);refine⟨_,rv25 hK ?_,a1,a2,a3⟩;show F25 (ev E0 K m) qa3 (.int .i64 (c:Int)) (.int .i64 (n:Int)) S=_;rw[F25_eq,build_52,oB,show boxK 52 (.agg 2 (Tr.ofListFrom .nil [.int .i64 (c:Int),.int .i64 (n:Int)] 0)) S=some (.ptr S.next 0,(nwP 52 2 (qk3 c n) S).2)from rfl,oB];rfl
end
section
variable {K:FuncId->Option KF} {S:St} {b i:Nat} {s:Bs} {vT vW:V}
theorem nilK (b o:Nat):qa1 (.ptr b o)=some (.ptr b o):=rfl
theorem fap0 (b:Nat):faP 0 false 1 (.ptr b 0)=some (.ptr b 0):=rfl
theorem fap1 (b:Nat):faP 1 false 1 (.ptr b 0)=some (.ptr b 1):=rfl
theorem addC (k:Nat) {i:Nat} (h:i+k<9223372036854775808):qa5 E0 .add 3 false true (.int .i64 (i:Int)) (.int .i64 (k:Int))=some (.int .i64 ((i+k:Nat):Int)):=by
 rw[binV_ii,intsV_add,show((i:Int)+(k:Int))=((i+k:Nat):Int) by omega,qdi (by omega) (by omega)]
theorem qfj {s:Bs} {i:Nat} (h:i<s.length):s[i]=byt s i:=by
 unfold byt;rw[List.getD_eq_getElem?_getD,List.getElem?_eq_getElem h,Option.getD_some]
theorem esc_no (hK:RefL K) (m:Nat) (ho:S.on=false) (h:Lx S b s i vT vW) (hs:s.length<9223372036854775800) (hi:i<=s.length) (hl:s.length<=i+1) :
 ∃U,(ev E0 K (m+2)).f 72 [.ptr b 0] S=some (.pan (.iface 51 (.ptr S.next 0)),U)/\AgAt U S.next 52 2 (qk3 19 i)/\Grew (fun _=>False) S U/\U.next=S.next+1:=by
 obtain⟨U,k1,k2⟩:=fail_run hK m ho 19 i;refine⟨U,rv72 hK ?_,k2⟩;show F72 (ev E0 K (m+1)) qa3 (.ptr b 0) S=_;rw[F72_eq,nilK,oB,fap1,oB,qg8,h.i1 ho,oB];dsimp only;rw[qff (by omega),oB,oB,fap0,oB,qg8,llg,h.s0 ho,oB];dsimp only;rw[qg8,llg,lnStr_sv,oB];dsimp only;rw[geqN,oB,dT hl,qbq (by rfl),qg8,llg,qd2 ho,ifK_bool,cT,oB,fap1,oB,h.i1f ho,oB];dsimp only;rw[show(V.int .i64 19)=.int .i64 ((19:Nat):Int)from rfl,k1];rfl
theorem esc_yes (hK:RefL K) (m:Nat) (ho:S.on=false) (h:Lx S b s i vT vW) (hs:s.length<9223372036854775800) (hl:i+1<s.length) :
 ∃U,(ev E0 K (m+2)).f 72 [.ptr b 0] S=some (.ret (.int .u8 ((byt s (i+1)).toNat:Int)),U)/\Lx U b s (i+2) vT vW/\Grew (fun x=>x=b) S U/\U.next=S.next:=by
 obtain⟨U,k1,k2⟩:=h.put ho (i+2);refine⟨U,rv72 hK ?_,k2⟩;show F72 (ev E0 K (m+1)) qa3 (.ptr b 0) S=_;rw[F72_eq,nilK,oB,fap1,oB,qg8,h.i1 ho,oB];dsimp only;rw[qff (by omega),oB,oB,fap0,oB,qg8,llg,h.s0 ho,oB];dsimp only;rw[qg8,llg,lnStr_sv,oB];dsimp only;rw[geqN,oB,dF (by omega),qbq (by rfl),qg8,llg,qd2 ho,ifK_bool,cF];rw[R72_1_eq,nilK,oB,fap0,oB,qg8,h.s0 ho,oB];dsimp only;rw[oB,fap1,oB,qg8,llg,h.i1 ho,oB];dsimp only;rw[qff (by omega),oB,qf5 _ _ _ hl,oB,qbq (by rfl),qg8,llg,qd2 ho,oB,fap1,oB,h.i1f ho,oB];dsimp only;rw[show(V.int .i64 2)=.int .i64 ((2:Nat):Int)from rfl,addC 2 (by omega),oB,oB,fap1,oB,k1,oB,qfj hl]
end
section
variable {K:FuncId->Option KF} {S:St}
theorem u8ge (c:UInt8) (k:Nat):qa5 E0 .geq 5 false true (.int .u8 (c.toNat:Int)) (.int .u8 (k:Int))=some (.bool (decide (k<=c.toNat))):=by
 rw[binV_ii,intsV_geq]
 congr 2
 simp
theorem u8le (c:UInt8) (k:Nat):qa5 E0 .leq 5 false true (.int .u8 (c.toNat:Int)) (.int .u8 (k:Int))=some (.bool (decide (c.toNat<=k))):=by
 rw[binV_ii,intsV_leq]
 congr 2
 simp
theorem u8eq (c:UInt8) (k:Nat):qa5 E0 .eql 5 false true (.int .u8 (c.toNat:Int)) (.int .u8 (k:Int))=some (.bool (decide (c.toNat=k))):=by
 rw[binV_ii,intsV_eql]
 congr 2
 simp;omega
theorem digD_nat (c:UInt8):digD c=(decide (48<=c.toNat)&&decide (c.toNat<=57)):=rfl
theorem letD_nat (c:UInt8):letD c=((decide (97<=c.toNat)&&decide (c.toNat<=122))||(decide (65<=c.toNat)&&decide (c.toNat<=90))||decide (c.toNat=95)):=by
 have:(c==95)=decide (c.toNat=95):=by
  rw[Bool.eq_iff_iff,beq_iff_eq,decide_eq_true_iff,<- UInt8.toNat_inj];rfl
 unfold letD;rw[this];rfl
theorem dig_run (hK:RefL K) (m:Nat) (c:UInt8) (S:St):(ev E0 K (m+1)).f 101 [.int .u8 (c.toNat:Int)] S=some (.ret (.bool (digD c)),S):=rv101 hK (by
 show F101 (ev E0 K m) qa3 (.int .u8 (c.toNat:Int)) S=_;rw[F101_eq,digD_nat,show V.int .u8 48=.int .u8 ((48:Nat):Int)from rfl,show V.int .u8 57=.int .u8 ((57:Nat):Int)from rfl,u8ge,oB];cases decide (48<=c.toNat)with
 | true=>simp only[oB,qat,qae,cT,cF,pickV_bool,Bool.true_and,u8le]
 | false=>rfl)
theorem let_run (hK:RefL K) (m:Nat) (c:UInt8) (S:St):(ev E0 K (m+1)).f 100 [.int .u8 (c.toNat:Int)] S=some (.ret (.bool (letD c)),S):=rv100 hK (by
 show F100 (ev E0 K m) qa3 (.int .u8 (c.toNat:Int)) S=_;rw[F100_eq,letD_nat,show V.int .u8 97=.int .u8 ((97:Nat):Int)from rfl,show V.int .u8 122=.int .u8 ((122:Nat):Int)from rfl,show V.int .u8 65=.int .u8 ((65:Nat):Int)from rfl,show V.int .u8 90=.int .u8 ((90:Nat):Int)from rfl,show V.int .u8 95=.int .u8 ((95:Nat):Int)from rfl,u8ge,oB];have h1:=u8le c 122;have h2:=u8ge c 65;have h3:=u8le c 90;have h4:=u8eq c 95;generalize decide (c.toNat<=122)=q1 at h1 ⊢;generalize decide (65<=c.toNat)=q2 at h2 ⊢;generalize decide (c.toNat<=90)=q3 at h3 ⊢;generalize decide (c.toNat=95)=q4 at h4 ⊢;generalize decide (97<=c.toNat)=q0
 cases q0<;>cases q1<;>cases q2<;>cases q3<;>cases q4<;>simp only[oB,qat,qae,qax,nF,Bool.not_true,cT,cF,pickV_bool,h1,h2,h3,h4]<;>rfl)
theorem qfb (hK:RefL K) (m:Nat) (w:Nat) (S:St):(ev E0 K (m+1)).f 68 [.int .i64 (w:Int)] S=some (.ret (.bool (inD w)),S):=rv68 hK (by
 show F68 (ev E0 K m) qa3 (.int .i64 (w:Int)) S=_
 have e0:qa5 E0 .neq 96 false true (.int .i64 (w:Int)) (.int .i64 0)=some (.bool (w != 0)):=by
  rw[binV_ii,intsV_neq]
  congr 2
  rw[Bool.eq_iff_iff];simp
 have e3:qa5 E0 .neq 96 false true (.int .i64 (w:Int)) (.int .i64 3)=some (.bool (w != 3)):=by
  rw[binV_ii,intsV_neq]
  congr 2
  rw[Bool.eq_iff_iff];simp;omega
 rw[F68_eq,e0,oB,inD];cases w != 0 with
 | true=>simp only[oB,qae,cT,pickV_bool,Bool.true_and,e3]
 | false=>rfl)
end
section
variable {S:St}
theorem ext97:E0.ext.get 97=some 1:=by kernel_rfl
theorem call97 (self:EV) (s:List UInt8) (c:UInt8) (S:St):qbo E0 self (.fn (.func 97) [] []) [sv s,.int .u8 (c.toNat:Int)] S=some (.ret (.int .i64 (ixB s c)),S):=by
 have h:=qln (E:=E0) (self:=self) ext97 [] [] [sv s,.int .u8 (c.toNat:Int)] S;have h2:=ext_ixB s c S;rw[List.nil_append,List.append_nil,h2]at h;exact h
theorem F87_of (self:EV) (N:Nat) (s:V) (c:UInt8) (S:St) (v:V) (h:qbo E0 self (.fn (.func 97) [] []) [s,.int .u8 (c.toNat:Int)] S=some (.ret v,S)):F87 self N s (.int .u8 (c.toNat:Int)) S=some (.ret v,S):=by
 rw[F87_eq,h,callP_ret]
theorem F87_spec (self:EV) (N:Nat) (s:List UInt8) (c:UInt8) (S:St):F87 self N (sv s) (.int .u8 (c.toNat:Int)) S=some (.ret (.int .i64 (ixB s c)),S):=
 F87_of self N (sv s) c S (.int .i64 (ixB s c)) (call97 self s c S)
theorem ix_run {K:FuncId->Option KF} (hK:RefL K) (m:Nat) (s:Bs) (c:UInt8) (S:St):(ev E0 K (m+2)).f 73 [sv s,.int .u8 (c.toNat:Int)] S=some (.ret (.int .i64 (ixB s c)),S):=rv73 hK (by
 show F73 (ev E0 K (m+1)) qa3 (sv s) (.int .u8 (c.toNat:Int)) S=_
 rw[F73_eq,rv87 hK (F87_spec (ev E0 K m) qa3 s c S),callP_ret])
end
section
variable {K:FuncId->Option KF} {S:St}
theorem ixB_has (l:Bs) (c:UInt8):decide ((0:Int)<=ixB l c)=l.contains c:=by
 unfold ixB;rw[List.contains_eq_any_beq,Bool.eq_iff_iff,List.any_eq_true];cases h:l.findIdx? (fun x=>x==c)with
 | none=>
  rw[List.findIdx?_eq_none_iff]at h;simp only[decide_eq_true_iff];constructor
  . intro h0; omega
  . rintro ⟨x,hx,hc⟩
    have:=h x hx;rw[beq_iff_eq]at hc;subst hc;simp at this
 | some j=>
  simp only[decide_eq_true_iff];constructor
  . intro _
    obtain⟨hj,h1,_⟩:=List.findIdx?_eq_some_iff_getElem.1 h;exact⟨l[j],List.getElem_mem hj,by rw[beq_iff_eq]at h1 ⊢; exact h1.symm⟩
  . intro _; omega
theorem w_eq (w k:Nat):qa5 E0 .eql 96 false true (.int .i64 (w:Int)) (.int .i64 (k:Int))=some (.bool (decide (w=k))):=by
 rw[binV_ii,intsV_eql]
 congr 2
 simp;omega
theorem ends_run (hK:RefL K) (m:Nat) (w:Nat) (c:UInt8) (S:St):(ev E0 K (m+3)).f 71 [.int .i64 (w:Int),.int .u8 (c.toNat:Int)] S=some (.ret (.bool (endsD w c)),S):=rv71 hK (by
 show F71 (ev E0 K (m+2)) qa3 (.int .i64 (w:Int)) (.int .u8 (c.toNat:Int)) S=_
 have hb:∀k:UInt8,decide (c.toNat=k.toNat)=(c==k):=fun k=>by
  rw[Bool.eq_iff_iff,beq_iff_eq,decide_eq_true_iff,<- UInt8.toNat_inj]
 rw[F71_eq,show(V.int .i64 0)=.int .i64 ((0:Nat):Int)from rfl,show(V.int .i64 1)=.int .i64 ((1:Nat):Int)from rfl,show(V.int .i64 2)=.int .i64 ((2:Nat):Int)from rfl,show(V.int .u8 34)=.int .u8 ((34:Nat):Int)from rfl,show(V.int .u8 125)=.int .u8 ((125:Nat):Int)from rfl,w_eq,oB];unfold endsD;by_cases h0:w=0
 . rw[dT h0,iP h0,ifK_bool,cT,ix_run hK m,callP_ret,binV_ii,intsV_geq,oB,<- ixB_has]
   rfl
 . rw[dF h0,iN h0,ifK_bool,cF,w_eq,oB]
   by_cases h1:w=1
   . rw[dT h1,iP h1,ifK_bool,cT,u8eq,oB,<- hb 34]
     rfl
   . rw[dF h1,iN h1,ifK_bool,cF,w_eq,oB]
     by_cases h2:w=2
     . rw[dT h2,iP h2,ifK_bool,cT]
     . rw[dF h2,iN h2,ifK_bool,cF,u8eq,oB,<- hb 125]
       rfl)
end
section
variable {K:FuncId->Option KF} {S:St} {b i:Nat} {s:Bs} {vT vW:V}
theorem Lx.r0 (ho:S.on=false) (h:Lx S b s i vT vW) (k:V×St->Rs):((qa1 (.ptr b 0)).bind fun t=>(faP 0 false 1 t).bind fun u=>(ld1 u S).bind k)=k (sv s,S):=by
 rw[nilK,oB,fap0,oB,h.s0f ho,oB]
theorem Lx.r1 (ho:S.on=false) (h:Lx S b s i vT vW) (k:V×St->Rs):((qa1 (.ptr b 0)).bind fun t=>(faP 1 false 1 t).bind fun u=>(ld1 u S).bind k)=k (.int .i64 (i:Int),S):=by
 rw[nilK,oB,fap1,oB,h.i1f ho,oB]
theorem Lx.l0 (ho:S.on=false) (h:Lx S b s i vT vW) (l:List LE) (k:V×St->Rs):((qa1 (.ptr b 0)).bind fun t=>(faP 0 false 1 t).bind fun u=>(ld1 u (onS (S.lg l))).bind k)=k (sv s,S.lg [⟨b,0,1,false⟩]):=by
 rw[nilK,oB,fap0,oB,qg8,llg,h.s0 ho,oB]
theorem Lx.l1 (ho:S.on=false) (h:Lx S b s i vT vW) (l:List LE) (k:V×St->Rs):((qa1 (.ptr b 0)).bind fun t=>(faP 1 false 1 t).bind fun u=>(ld1 u (onS (S.lg l))).bind k)=k (.int .i64 (i:Int),S.lg [⟨b,1,2,false⟩]):=by
 rw[nilK,oB,fap1,oB,qg8,llg,h.i1 ho,oB]
theorem Lx.o0 (ho:S.on=false) (h:Lx S b s i vT vW) (k:V×St->Rs):((qa1 (.ptr b 0)).bind fun t=>(faP 0 false 1 t).bind fun u=>(ld1 u (onS S)).bind k)=k (sv s,S.lg [⟨b,0,1,false⟩]):=by
 rw[nilK,oB,fap0,oB,qg8,h.s0 ho,oB]
theorem Lx.o1 (ho:S.on=false) (h:Lx S b s i vT vW) (k:V×St->Rs):((qa1 (.ptr b 0)).bind fun t=>(faP 1 false 1 t).bind fun u=>(ld1 u (onS S)).bind k)=k (.int .i64 (i:Int),S.lg [⟨b,1,2,false⟩]):=by
 rw[nilK,oB,fap1,oB,qg8,h.i1 ho,oB]
theorem Lx.set (ho:S.on=false) (h:Lx S b s i vT vW) (j:Nat):∃U,(∀k:V×St->Rs,((qa1 (.ptr b 0)).bind fun t=>(faP 1 false 1 t).bind fun u=>(stP 1 u (.int .i64 (j:Int)) S).bind k)=k (.tuple [],U))/\Lx U b s j vT vW/\Grew (fun x=>x=b) S U/\U.next=S.next/\U.on=false:=by
 obtain⟨U,k1,k2,k3,k4⟩:=h.put ho j;refine⟨U,fun k=>?_,k2,k3,k4,k3.on.trans ho⟩;rw[nilK,oB,fap1,oB,k1,oB]
theorem Lx.bump (ho:S.on=false) (h:Lx S b s i vT vW) (c:Nat) (hc:i+c<9223372036854775808):∃U,(∀k:V×St->Rs,((qa1 (.ptr b 0)).bind fun t=>(faP 1 false 1 t).bind fun u=>(ld1 u S).bind fun p=>(qa5 E0 .add 3 false true p.1 (.int .i64 (c:Int))).bind fun x=>(qa1 (.ptr b 0)).bind fun t=>(faP 1 false 1 t).bind fun u=>(stP 1 u x p.2).bind k)=k (.tuple [],U))/\Lx U b s (i+c) vT vW/\Grew (fun x=>x=b) S U/\U.next=S.next/\U.on=false:=by
 obtain⟨U,k1,k2⟩:=h.set ho (i+c);refine⟨U,fun k=>?_,k2⟩;rw[h.r1 ho];dsimp only;rw[addC c hc,oB,k1]
theorem Lx.bumpV (ho:S.on=false) (h:Lx S b s i vT vW) (c:Nat) (hc:i+c<9223372036854775808):∃U,(∀k:V×St->Rs,((qa1 (.ptr b 0)).bind fun t=>(faP 1 false 1 t).bind fun u=>(ld1 u S).bind fun p=>(qa5 E0 .add 3 false false p.1 (.int .i64 (c:Int))).bind fun x=>(qa1 (.ptr b 0)).bind fun t=>(faP 1 false 1 t).bind fun u=>(stP 1 u x p.2).bind k)=k (.tuple [],U))/\Lx U b s (i+c) vT vW/\Grew (fun x=>x=b) S U/\U.next=S.next/\U.on=false:=by
 obtain⟨U,k1,k2⟩:=h.set ho (i+c);refine⟨U,fun k=>?_,k2⟩;rw[h.r1 ho];dsimp only;rw[addN hc,oB,k1]
theorem namD_ge:∀(l:Bs) (n:Nat),n<=namD l n/\namD l n<=n+l.length
 | [],n=>⟨lR _,lR _⟩
 | c::l,n=>by
  unfold namD;split
  . have:=namD_ge l (n+1)
    rw[List.length_cons]; omega
  . rw[List.length_cons]; omega
theorem qmq (s m:Bs):qcv s m<=s.length:=by
 unfold qcv;split
 . cases s with
   | nil=>exact lR _
   | cons c l=>simp only[List.length_cons]; split<;>omega
 . have:=(namD_ge s 0).2; omega
theorem gtr0 (n:Nat):qa5 E0 .gtr 3 false true (.int .i64 (n:Int)) (.int .i64 0)=some (.bool (decide (0<n))):=by
 rw[binV_ii,intsV_gtr]
 congr 2
 simp
theorem eql0 (n:Nat):qa5 E0 .eql 3 false true (.int .i64 (n:Int)) (.int .i64 0)=some (.bool (decide (n=0))):=by
 rw[binV_ii,intsV_eql]
 congr 2
 simp
theorem L90_spec (hK:RefL K) (m:Nat) (nk:Ac->St->Rs) (ek:Nat->Ac->St->Rs) (v0 v1:V) (t:Bs) (ht:t.length<9223372036854775000) :
 ∀(l:Bs) (n q:Nat),t.drop n=l->l.length<q->L90_59 (ev E0 K (m+1)) qa3 nk ek q v0 v1 (sv t) (.int .i64 (n:Int)) S=ek 0 (fr 67 [(0,v0),(1,v1),(5,sv t),(6,.int .i64 (namD l n:Int))]) S
 | _,_,0,_,hq=>by omega
 | [],n,q+1,hl,hq=>by
  rw[L90_59_eq,lnStr_sv,oB];dsimp only;rw[qk5,oB,dF (by have:=qh6 hl; omega)];rfl
 | c::l,n,q+1,hl,hq=>by
  obtain⟨hlt,hc,hr,_⟩:=qjg hl;have ih:=L90_spec hK m nk ek v0 v1 t ht l (n+1) q hr (by rw[List.length_cons]at hq; omega);rw[L90_59_eq,lnStr_sv,oB];dsimp only;rw[qk5,oB,dT hlt];simp only[qae,oB,cT,qf5 t .i64 n hlt,hc];rw[let_run hK m c,callP_ret];unfold namD;cases hL:letD c with
  | true=>
   simp only[qae,qat,qax,oB,cT,cF,Bool.not_true,Bool.true_or,↓reduceIte,callP_ret,pickV_bool,ifK_bool];rw[qff (by omega),oB,ih]
  | false=>
   simp only[qae,qat,qax,oB,cT,cF,nF,Bool.false_or];rw[gtr0,oB];by_cases h0:0<n
   . rw[dT h0]
     try simp only[qae,qat,qax,oB,cT,cF,nF,Bool.true_and]
     rw[qf5 t .i64 n hlt,hc,oB]
     try simp only[qae,qat,qax,oB,cT,cF,nF,Bool.true_and]
     rw[dig_run hK m c,callP_ret]
     try simp only[qae,qat,qax,oB,cT,cF,nF,Bool.true_and,pickV_bool,ifK_bool]
     cases hD:digD c with
     | true=>rw[cT,iP rfl,qff (by omega),oB,ih]
     | false=>rw[cF,iN (by simp)]
   . rw[dF h0]
     try simp only[qae,qat,qax,oB,cT,cF,nF,Bool.false_and,callP_ret,pickV_bool,ifK_bool,Bool.false_eq_true,↓reduceIte]
theorem ixB_neg (l:Bs) (c:UInt8):qa5 E0 .geq 3 false true (.int .i64 (ixB l c)) (.int .i64 0)=some (.bool (l.contains c)):=by
 rw[binV_ii,intsV_geq,<- ixB_has]
theorem qmr (hK:RefL K) (m:Nat) (ho:S.on=false) (h:Lx S b s i vT vW) (hi:i<=s.length) (hs:s.length<9223372036854770000) (mk:Bs) :
 ∃U,(ev E0 K (m+3)).f 90 [.ptr b 0,sv mk] S=some (.ret (sv ((s.drop i).take (qcv (s.drop i) mk))),U)/\Lx U b s (i+qcv (s.drop i) mk) vT vW/\Grew (fun x=>x=b) S U/\U.next=S.next/\U.on=false:=by
 have hlen:(s.drop i).length=s.length-i:=List.length_drop;have hple:=qmq (s.drop i) mk;obtain⟨U,k1,k2⟩:=h.set ho (i+qcv (s.drop i) mk);refine⟨U,rv90 hK ?_,k2⟩;show F90 (ev E0 K (m+2)) qa3 (.ptr b 0) (sv mk) S=_;rw[F90_eq,h.o0 ho];dsimp only;rw[h.l1 ho];dsimp only;rw[qg8,llg,qb9 und9 s (qcw .i64 hi) (lR _),oB];dsimp only;rw[qbq (by rfl),qg8,llg,qd2 ho,List.take_of_length_le (by rw[List.length_drop]; omega),show V.int .i64 0=.int .i64 ((0:Nat):Int)from rfl,L90_spec hK (m+1) _ _ _ _ (s.drop i) (by omega) (s.drop i) 0 qa3 rfl (by unfold qa3; omega),exB_same,R90_13_eq,eql0,oB]
 have fin:∀x:Bool,((qa1 (.ptr b 0)).bind fun t=>(faP 1 false 1 t).bind fun u=>(ld1 u S).bind fun p=>(qa5 E0 .add 3 false x p.1 (.int .i64 (qcv (s.drop i) mk:Int))).bind fun x=>(qa1 (.ptr b 0)).bind fun t=>(faP 1 false 1 t).bind fun u=>(stP 1 u x p.2).bind fun p=>(qak E0 9 (sv (s.drop i)) none (some (.int .i64 (qcv (s.drop i) mk:Int))) none p.2).bind fun p57=>some (En.ret p57.1,p57.2))=some (.ret (sv ((s.drop i).take (qcv (s.drop i) mk))),U):=fun x=>by
  rw[h.r1 ho];dsimp only
  rw[show qa5 E0 .add 3 false x (.int .i64 (i:Int)) (.int .i64 (qcv (s.drop i) mk:Int))=some (.int .i64 ((i+qcv (s.drop i) mk:Nat):Int)) by
   rw[binV_ii,intsV_add,show((i:Int)+(qcv (s.drop i) mk:Int))=((i+qcv (s.drop i) mk:Nat):Int) by omega,qdi (by omega) (by omega)],oB,k1]
  dsimp only;rw[qb9 und9 _ (qey .i64 hple) hple,oB,List.drop_zero,Nat.sub_zero]
 have f1:=fin false;by_cases h0:namD (s.drop i) 0=0
 . have hp:qcv (s.drop i) mk=match s.drop i with
    | []=>0
    | c::_=>if digD c||mk.contains c then 1 else 0:=by
    unfold qcv;rw[iP h0];rfl
   rw[dT h0,h0];simp only[qae,qat,qax,oB,cT,cF];cases hd:s.drop i with
   | nil=>
    rw[hd]at hp f1;rw[show qa5 E0 .neq 9 false true (sv []) (sv [])=some (.bool false)from neStr _ _ _ _,oB]
    try simp only[qae,qat,qax,oB,cT,cF,callP_ret,pickV_bool,ifK_bool,Bool.not_true,nF]
    rw[hp]at f1 ⊢;exact f1
   | cons c l=>
    rw[hd]at hp f1;have hp:qcv (c::l) mk=if digD c||mk.contains c then 1 else 0:=hp
    rw[show qa5 E0 .neq 9 false true (sv (c::l)) (sv [])=some (.bool true)from neStr _ _ _ _,oB]
    try simp only[qae,qat,qax,oB,cT,cF,callP_ret,pickV_bool,ifK_bool,Bool.not_true,nF]
    rw[show ixS (sv (c::l)) (.int .i64 0)=some (.int .u8 (c.toNat:Int))from qf5 (c::l) .i64 0 (by simp),oB]
    try simp only[qae,qat,qax,oB,cT,cF]
    rw[dig_run hK (m+1) c,callP_ret]
    try simp only[qae,qat,qax,oB,cT,cF]
    have f2:=fin true;rw[hd]at f2;cases hD:digD c with
    | true=>
     rw[hD]at hp;simp only[Bool.true_or,↓reduceIte]at hp
     try simp only[qae,qat,qax,oB,cT,cF,callP_ret,pickV_bool,ifK_bool,Bool.not_true,nF]
     rw[hp]at f1 ⊢;exact f1
    | false=>
     rw[hD]at hp;simp only[Bool.false_or]at hp
     try simp only[qae,qat,qax,oB,cT,cF,callP_ret,pickV_bool,ifK_bool,Bool.not_true,nF]
     rw[show ixS (sv (c::l)) (.int .i64 0)=some (.int .u8 (c.toNat:Int))from qf5 (c::l) .i64 0 (by simp),oB]
     try simp only[qae,qat,qax,oB,cT,cF]
     rw[ix_run hK m,callP_ret]
     try simp only[qae,qat,qax,oB,cT,cF]
     rw[ixB_neg,oB];cases hM:mk.contains c with
     | true=>
      rw[hM]at hp;simp only[↓reduceIte]at hp
      try simp only[qae,qat,qax,oB,cT,cF,callP_ret,pickV_bool,ifK_bool,Bool.not_true,nF]
      rw[hp]at f1 ⊢;exact f1
     | false=>
      rw[hM]at hp;simp only[Bool.false_eq_true,↓reduceIte]at hp
      try simp only[qae,qat,qax,oB,cT,cF,callP_ret,pickV_bool,ifK_bool,Bool.not_true,nF]
      rw[hp]at f1 ⊢;exact f1
 . have hp:qcv (s.drop i) mk=namD (s.drop i) 0:=by
    unfold qcv;rw[iN h0]
   rw[dF h0];simp only[qae,qat,qax,oB,cT,cF,callP_ret,pickV_bool,ifK_bool,Bool.not_true,nF];rw[<- hp];exact f1
end
end Go.Proofs.YtafbipadnnmccaaDoor.W
end
