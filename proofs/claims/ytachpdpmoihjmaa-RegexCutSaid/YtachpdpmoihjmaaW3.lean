/-
  WHAT THE FUNCTIONS COME TO: each is read by the evaluator,printed,and told as a function of data,part 3 of 12 (no condition).
-/
import Derived.Test.YtachpdpmoihjmaaW2
import Derived.Test.YtachpdpmoihjmaaProg
import Derived.KernelRfl
import Derived.OpenShut
import Derived.ProofKit
import Derived.WalkKit
namespace Go.Proofs.Ytachpdpmoihjmaa.W
open Go.Proofs.Ytachpdpmoihjmaa.Ev
set_option maxRecDepth 100000
noncomputable section
noncomputable def C29:Code:=Try.f29.body.getD .skip
noncomputable def B29:D:=(qc1 C29 [[],[],[],[],[],[],[],[],[6,66,67,68],[],[],[],[],[],[],[],[0],[8],[]]).1
noncomputable def RL29:List Nat:=cellsOf Try.f29.results.toList
noncomputable def qh4 (self:EV) (N:Nat) (nk:Ac->St->Rs) (ek:Nat->Ac->St->Rs) (a:Ac) (S:St):Rs:=qa6 [] a fun a=>dr E0 self RL29 N (B29.r.r).r (mkK E0 self Try.f29 nk ek) a S
theorem R29_54_eq (self:EV) (N:Nat) (nk:Ac->St->Rs) (ek:Nat->Ac->St->Rs) (S:St):qh4 self N nk ek (fr 77 []) S =
some (.ret (.bool false),S):=by kernel_rfl
noncomputable def L29_64 (self:EV) (N:Nat) (nk:Ac->St->Rs) (ek:Nat->Ac->St->Rs) (n:Nat) ( v6 v66 v67 v68:V) (S:St):Rs:=qc8 [6,66,67,68] (dr E0 self RL29 N (B29.r.r.l.r.l.l)) (mkK E0 self Try.f29 nk ek) n (fr 77 [(6,v6),(66,v66),(67,v67),(68,v68)]) S
theorem qku (self:EV) (N:Nat) (nk:Ac->St->Rs) (ek:Nat->Ac->St->Rs) (n:Nat) ( v6 v66 v67 v68:V) (S:St):L29_64 self N nk ek (n+1) v6 v66 v67 v68 S =
(qa4 E0 .lss 3 false false v68 v67).bind fun t65=>
ifK t65 (
(ixP 1 v66 v68).bind fun t66=>
(ld1 t66 S).bind fun p67=>
(ld1 v6 p67.2).bind fun p69=>
(ixP 1 p69.1 p67.1).bind fun t71=>
(ld1 t71 p69.2).bind fun p72=>
ifK p72.1 (
some (.ret (.bool true),p72.2)) (
(qa4 E0 .add 3 false true v68 (.int .i64 1)).bind fun t74=>
L29_64 self N nk ek n v6 v66 v67 t74 p72.2)) (
ek 0 (fr 77 []) S):=by kernel_rfl
noncomputable def F29 (self:EV) (N:Nat) (x0 x1 x2 x3 x4 x5 x6:V) (S:St):Rs:=qj3 E0 self N Try.f29 B29 [x0,x1,x2,x3,x4,x5,x6] S
theorem F29_eq (self:EV) (N:Nat) (x0 x1 x2 x3 x4 x5 x6:V) (S:St):F29 self N x0 x1 x2 x3 x4 x5 x6 S =
(ld1 x1 S).bind fun p1=>
(qa2 p1.1).bind fun t2=>
(faP 0 false 1 t2).bind fun t3=>
(ld1 t3 p1.2).bind fun p4=>
(ixP 258 p4.1 x0).bind fun t6=>
(faP 256 false 1 t6).bind fun t7=>
(ld1 t7 p4.2).bind fun p8=>
(qa4 E0 .eql 3 false true p8.1 (.int .i64 0)).bind fun t11=>
ifK t11 (
(ld1 x2 (onS p8.2)).bind fun p12=>
(ixA 2 1 false 1 x3 (.int .i64 1)).bind fun t13=>
(ld1 t13 (onS p12.2)).bind fun p14=>
(qa4 E0 .lss 3 false false p12.1 p14.1).bind fun t15=>
(qa1 true t15).bind fun g17=>(bif g17 then ld1 x1 (onS p14.2)else some (.tuple [],(onS p14.2))).bind fun p17=>
(qa1 true t15).bind fun g18=>(bif g18 then qa2 p17.1 else some (.tuple [])).bind fun t18=>
(qa1 true t15).bind fun g19=>(bif g19 then faP 0 false 1 t18 else some (.tuple [])).bind fun t19=>
(qa1 true t15).bind fun g20=>(bif g20 then ld1 t19 (onS p17.2)else some (.tuple [],(onS p17.2))).bind fun p20=>
(qa1 true t15).bind fun g21=>(bif g21 then some x0 else some (.tuple [])).bind fun t21=>
(qa1 true t15).bind fun g22=>(bif g22 then ld1 x4 (onS p20.2)else some (.tuple [],(onS p20.2))).bind fun p22=>
(qa1 true t15).bind fun g23=>(bif g23 then ld1 x2 (onS p22.2)else some (.tuple [],(onS p22.2))).bind fun p23=>
(qa1 true t15).bind fun g24=>(bif g24 then ixS p22.1 p23.1 else some (.tuple [])).bind fun t24=>
(qa1 true t15).bind fun g25=>(bif g25 then ixP 258 p20.1 t21 else some (.tuple [])).bind fun t25=>
(qa1 true t15).bind fun g26=>(bif g26 then faP 0 true 256 t25 else some (.tuple [])).bind fun t26=>
(qa1 true t15).bind fun g27=>(bif g27 then faP 0 true 256 t26 else some (.tuple [])).bind fun t27=>
(qa1 true t15).bind fun g28=>(bif g28 then ixA 256 1 false 1 t27 t24 else some (.tuple [])).bind fun t28=>
(qa1 true t15).bind fun g29=>(bif g29 then ld1 t28 (onS p23.2)else some (.tuple [],(onS p23.2))).bind fun p29=>
(qah t15 (some p29.1) (some (.bool false))).bind fun t30=>
(qa1 true t30).bind fun g32=>(bif g32 then ld1 x5 (onS p29.2)else some (.tuple [],(onS p29.2))).bind fun p32=>
(qa1 true t30).bind fun g33=>(bif g33 then ld1 x2 (onS p32.2)else some (.tuple [],(onS p32.2))).bind fun p33=>
(qa1 true t30).bind fun g34=>(bif g34 then qa4 E0 .add 3 false true p33.1 (.int .i64 1)else some (.tuple [])).bind fun t34=>
(qa1 true t30).bind fun g35=>(bif g35 then ixA 2 1 false 1 x3 (.int .i64 0)else some (.tuple [])).bind fun t35=>
(qa1 true t30).bind fun g36=>(bif g36 then ld1 t35 (onS p33.2)else some (.tuple [],(onS p33.2))).bind fun p36=>
(qa1 true t30).bind fun g37=>(bif g37 then qa4 E0 .sub 3 false false t34 p36.1 else some (.tuple [])).bind fun t37=>
(qa1 true t30).bind fun g38=>(bif g38 then ixP 1 p32.1 t37 else some (.tuple [])).bind fun t38=>
(qa1 true t30).bind fun g39=>(bif g39 then ld1 t38 (onS p36.2)else some (.tuple [],(onS p36.2))).bind fun p39=>
(qa1 true t30).bind fun g40=>(bif g40 then some x0 else some (.tuple [])).bind fun t40=>
(qa1 true t30).bind fun g41=>(bif g41 then qa4 E0 .add 3 false true t40 (.int .i64 1)else some (.tuple [])).bind fun t41=>
(qa1 true t30).bind fun g42=>(bif g42 then ixP 1 p39.1 t41 else some (.tuple [])).bind fun t42=>
(qa1 true t30).bind fun g43=>(bif g43 then ld1 t42 (onS p39.2)else some (.tuple [],(onS p39.2))).bind fun p43=>
(qah t30 (some p43.1) (some (.bool false))).bind fun t44=>
qfq [(0,[2]),(5,[10,11]),(8,[10,11]),(10,[11]),(20,[21,24]),(21,[24])] p8.2 [p12.2.log,[],p14.2.log,[],[],p17.2.log,[],[],p20.2.log,[],p22.2.log,p23.2.log,[],[],[],[],[],p29.2.log,[],[],p32.2.log,p33.2.log,[],[],p36.2.log,[],[],p39.2.log,[],[],[],p43.2.log,[],[]] (onS p43.2) fun S46=>
some (.ret t44,S46)) (
(qa4 E0 .eql 3 false true p8.1 (.int .i64 6)).bind fun t48=>
ifK t48 (
(ld1 x2 p8.2).bind fun p49=>
(ixA 2 1 false 1 x3 (.int .i64 1)).bind fun t50=>
(ld1 t50 p49.2).bind fun p51=>
(qa4 E0 .eql 3 false false p49.1 p51.1).bind fun t52=>
some (.ret t52,p51.2)) (
(ld1 x1 p8.2).bind fun p56=>
(ld1 x2 p56.2).bind fun p58=>
(ld1 x4 p58.2).bind fun p59=>
(qbu p59.1 p59.2).bind fun p60=>
qad (self.f 28 [p56.1,x0,p58.1,p60.1] p60.2) fun t61 S61=>
(lnS t61 S61).bind fun p62=>
L29_64 self N (qh4 self N (qbg E0 self Try.f29) qav) (exB 0 (qh4 self N (qbg E0 self Try.f29) qav) qav) N x6 t61 p62.1 (.int .i64 0) p62.2)):=by kernel_rfl
noncomputable def C22:Code:=Try.f22.body.getD .skip
noncomputable def B22:D:=(qc1 C22 [[],[],[],[3,4,5,7,8],[],[7],[],[],[],[],[],[3,4,5,7,8,9,10,41],[],[3,4,5,7,8],[],[],[3,4,5,7,8,9,10,11,41],[],[3,4,5,7,8,9,10,41],[],[],[0,3,4,5,7,8,9,10,41],[3,4,5,7,8,9,10,41],[0,3,4,5,7,8],[3,4,5,7,8],[],[],[0,7],[6],[]]).1
noncomputable def RL22:List Nat:=cellsOf Try.f22.results.toList
noncomputable def R22_13 (self:EV) (N:Nat) (nk:Ac->St->Rs) (ek:Nat->Ac->St->Rs) (a:Ac) (S:St):Rs:=qa6 [7] a fun a=>dr E0 self RL22 N (B22.r.r).r (mkK E0 self Try.f22 nk ek) a S
theorem R22_13_eq (self:EV) (N:Nat) (nk:Ac->St->Rs) (ek:Nat->Ac->St->Rs) ( v7:V) (S:St):R22_13 self N nk ek (fr 68 [(7,v7)]) S =
(ld1 v7 S).bind fun p14=>
some (.ret p14.1,p14.2):=by kernel_rfl
noncomputable def qkw (self:EV) (N:Nat) (nk:Ac->St->Rs) (ek:Nat->Ac->St->Rs) (n:Nat):Ac->St->Rs:=fun a S=>qa6 [3,4,5,7,8] a fun a=>qc8 [3,4,5,7,8] (dr E0 self RL22 N (B22.r.r.l.r.l.l)) (mkK E0 self Try.f22 nk ek) n a S
noncomputable def L22_20 (self:EV) (N:Nat) (nk:Ac->St->Rs) (ek:Nat->Ac->St->Rs) (n:Nat) ( v3 v4 v5 v7 v8:V) (S:St):Rs:=qc8 [3,4,5,7,8] (dr E0 self RL22 N (B22.r.r.l.r.l.l)) (mkK E0 self Try.f22 nk ek) n (fr 68 [(3,v3),(4,v4),(5,v5),(7,v7),(8,v8)]) S
noncomputable def qky (self:EV) (N:Nat) (nk:Ac->St->Rs) (ek:Nat->Ac->St->Rs) (a:Ac) (S:St):Rs:=qa6 [3,4,5,7,8] a fun a=>dr E0 self RL22 N (B22.r.r.l.r.l.l.r).r (mkK E0 self Try.f22 nk ek) a S
theorem R22_25_eq (self:EV) (N:Nat) (nk:Ac->St->Rs) (ek:Nat->Ac->St->Rs) ( v3 v4 v5 v7 v8:V) (S:St):qky self N nk ek (fr 68 [(3,v3),(4,v4),(5,v5),(7,v7),(8,v8)]) S =
(ld1 v8 S).bind fun p26=>
(some (nwP 3 1 (Ev.one (.int .i64 0)) p26.2)).bind fun p27=>
(stP 1 p27.1 p26.1 p27.2).bind fun p28=>
(ld1 p27.1 p28.2).bind fun p29=>
(qa4 E0 .sub 3 false true p29.1 (.int .i64 1)).bind fun t30=>
(stP 1 p27.1 t30 p29.2).bind fun p31=>
nk (fr 68 [(3,v3),(4,v4),(5,v5),(7,v7),(8,p27.1)]) p31.2:=by kernel_rfl
noncomputable def qkx (self:EV) (N:Nat) (nk:Ac->St->Rs) (ek:Nat->Ac->St->Rs) (n:Nat):Ac->St->Rs:=fun a S=>qa6 [3,4,5,7,8,9,10,41] a fun a=>qc8 [3,4,5,7,8,9,10,41] (dr E0 self RL22 N (B22.r.r.l.r.l.l.r.l.l.r.r.r.r.l.l)) (mkK E0 self Try.f22 nk ek) n a S
noncomputable def L22_51 (self:EV) (N:Nat) (nk:Ac->St->Rs) (ek:Nat->Ac->St->Rs) (n:Nat) ( v3 v4 v5 v7 v8 v9 v10 v41:V) (S:St):Rs:=qc8 [3,4,5,7,8,9,10,41] (dr E0 self RL22 N (B22.r.r.l.r.l.l.r.l.l.r.r.r.r.l.l)) (mkK E0 self Try.f22 nk ek) n (fr 68 [(3,v3),(4,v4),(5,v5),(7,v7),(8,v8),(9,v9),(10,v10),(41,v41)]) S
noncomputable def qkz (self:EV) (N:Nat) (nk:Ac->St->Rs) (ek:Nat->Ac->St->Rs) (a:Ac) (S:St):Rs:=qa6 [3,4,5,7,8,9,10,41] a fun a=>dr E0 self RL22 N (B22.r.r.l.r.l.l.r.l.l.r.r.r.r.l.l.r.r).r (mkK E0 self Try.f22 nk ek) a S
theorem R22_53_eq (self:EV) (N:Nat) (nk:Ac->St->Rs) (ek:Nat->Ac->St->Rs) ( v3 v4 v5 v7 v8 v9 v10 v41:V) (S:St):qkz self N nk ek (fr 68 [(3,v3),(4,v4),(5,v5),(7,v7),(8,v8),(9,v9),(10,v10),(41,v41)]) S =
(qa4 E0 .add 3 false true v41 (.int .i64 1)).bind fun t54=>
nk (fr 68 [(3,v3),(4,v4),(5,v5),(7,v7),(8,v8),(9,v9),(10,v10),(41,t54)]) S:=by kernel_rfl
noncomputable def L22_63 (self:EV) (N:Nat) (nk:Ac->St->Rs) (ek:Nat->Ac->St->Rs) (n:Nat) ( v3 v4 v5 v7 v8 v9 v10 v11 v41:V) (S:St):Rs:=qc8 [3,4,5,7,8,9,10,11,41] (dr E0 self RL22 N (B22.r.r.l.r.l.l.r.l.l.r.r.r.r.l.l.r.r.l.l.r.l.l)) (mkK E0 self Try.f22 nk ek) n (fr 68 [(3,v3),(4,v4),(5,v5),(7,v7),(8,v8),(9,v9),(10,v10),(11,v11),(41,v41)]) S
theorem L22_63_eq (self:EV) (N:Nat) (nk:Ac->St->Rs) (ek:Nat->Ac->St->Rs) (n:Nat) ( v3 v4 v5 v7 v8 v9 v10 v11 v41:V) (S:St):L22_63 self N nk ek (n+1) v3 v4 v5 v7 v8 v9 v10 v11 v41 S =
(qa4 E0 .geq 3 false true v11 (.int .i64 0)).bind fun t65=>
ifK t65 (
(ld1 v9 (onS S)).bind fun p66=>
(ld1 v9 (onS p66.2)).bind fun p68=>
(ixP 1 p68.1 v11).bind fun t70=>
(ld1 t70 (onS p68.2)).bind fun p71=>
(qa1 false p71.1).bind fun g73=>(bif g73 then some v10 else some (.tuple [])).bind fun t73=>
(qa1 false p71.1).bind fun g74=>(bif g74 then some v11 else some (.tuple [])).bind fun t74=>
(qa1 false p71.1).bind fun g75=>qi6 (qao E0 (B22.r.r.l.r.l.l.r.l.l.r.r.r.r.l.l.r.r.l.l.r.l.l.r.l.l).ops) S 9 [p66.2.log,[],p68.2.log,[],[],p71.2.log,[],[],[]] (bif g75 then qla E0 self t73 [t74] (onS p71.2)else some (.ret (.tuple []),(onS p71.2))) fun t75 S75=>
(qah p71.1 (some (.bool true)) (some t75)).bind fun t76=>
(ixP 1 p66.1 v11).bind fun t77=>
(stP 1 t77 t76 (onS S75)).bind fun p78=>
qfq [(0,[2,5,9])] S [p66.2.log,[],p68.2.log,[],[],p71.2.log,[],[],[],S75.log,[],[],p78.2.log] p78.2 fun S79=>
(qa4 E0 .sub 3 false true v11 (.int .i64 1)).bind fun t81=>
L22_63 self N nk ek n v3 v4 v5 v7 v8 v9 v10 t81 v41 S79) (
ek 4 (fr 68 [(3,v3),(4,v4),(5,v5),(7,v7),(8,v8),(9,v9),(10,v10),(41,v41)]) S):=by kernel_rfl
theorem L22_51_eq (self:EV) (N:Nat) (nk:Ac->St->Rs) (ek:Nat->Ac->St->Rs) (n:Nat) ( v3 v4 v5 v7 v8 v9 v10 v41:V) (S:St):L22_51 self N nk ek (n+1) v3 v4 v5 v7 v8 v9 v10 v41 S =
(qa4 E0 .lss 3 false true v41 (.int .i64 11)).bind fun t52=>
ifK t52 (
(ld1 v3 S).bind fun p56=>
(qa2 p56.1).bind fun t57=>
(faP 0 false 1 t57).bind fun t58=>
(ld1 t58 p56.2).bind fun p59=>
(lnS p59.1 p59.2).bind fun p60=>
(qa4 E0 .sub 3 false true p60.1 (.int .i64 1)).bind fun t61=>
L22_63 self N (qkz self N (qkx self N nk ek n) ek) (exB 4 (qkz self N (qkx self N nk ek n) ek) (exB 3 (qkz self N (qkx self N nk ek n) ek) ek)) N v3 v4 v5 v7 v8 v9 v10 t61 v41 p60.2) (
ek 2 (fr 68 [(3,v3),(4,v4),(5,v5),(7,v7),(8,v8)]) S):=by kernel_rfl
theorem N22_51_eq (self:EV) (N:Nat) (nk:Ac->St->Rs) (ek:Nat->Ac->St->Rs) (n:Nat) ( v3 v4 v5 v7 v8 v9 v10 v41:V) (S:St):qkx self N nk ek n (fr 68 [(3,v3),(4,v4),(5,v5),(7,v7),(8,v8),(9,v9),(10,v10),(41,v41)]) S=L22_51 self N nk ek n v3 v4 v5 v7 v8 v9 v10 v41 S:=by kernel_rfl
theorem L22_20_eq (self:EV) (N:Nat) (nk:Ac->St->Rs) (ek:Nat->Ac->St->Rs) (n:Nat) ( v3 v4 v5 v7 v8:V) (S:St):L22_20 self N nk ek (n+1) v3 v4 v5 v7 v8 S =
(ld1 v8 S).bind fun p21=>
(ixA 2 1 false 1 v5 (.int .i64 0)).bind fun t22=>
(ld1 t22 p21.2).bind fun p23=>
(qa4 E0 .geq 3 false false p21.1 p23.1).bind fun t24=>
ifK t24 (
(ld1 v3 p23.2).bind fun p32=>
(qa2 p32.1).bind fun t33=>
(faP 0 false 1 t33).bind fun t34=>
(ld1 t34 p32.2).bind fun p35=>
(lnS p35.1 p35.2).bind fun p36=>
(qb5 E0 65 p36.1 p36.1 p36.2).bind fun p37=>
(some (nwP 65 1 (Ev.one .nilslice) p37.2)).bind fun p38=>
(stP 1 p38.1 p37.1 p38.2).bind fun p39=>
(ld1 v7 p39.2).bind fun p40=>
(ld1 v8 p40.2).bind fun p41=>
(ixA 2 1 false 1 v5 (.int .i64 0)).bind fun t42=>
(ld1 t42 p41.2).bind fun p43=>
(qa4 E0 .sub 3 false false p41.1 p43.1).bind fun t44=>
(ld1 p38.1 p43.2).bind fun p45=>
(ixP 1 p40.1 t44).bind fun t46=>
(stP 1 t46 p45.1 p45.2).bind fun p47=>
L22_51 self N (qky self N (qkw self N nk ek n) ek) (exB 2 (qky self N (qkw self N nk ek n) ek) (exB 1 (qky self N (qkw self N nk ek n) ek) ek)) N v3 v4 v5 v7 v8 p38.1 (.fn (.func 29) [] [v3,v8,v5,v4,v7,p38.1]) (.int .i64 0) p47.2) (
ek 0 (fr 68 [(7,v7)]) p23.2):=by kernel_rfl
theorem N22_20_eq (self:EV) (N:Nat) (nk:Ac->St->Rs) (ek:Nat->Ac->St->Rs) (n:Nat) ( v3 v4 v5 v7 v8:V) (S:St):qkw self N nk ek n (fr 68 [(3,v3),(4,v4),(5,v5),(7,v7),(8,v8)]) S=L22_20 self N nk ek n v3 v4 v5 v7 v8 S:=by kernel_rfl
noncomputable def F22 (self:EV) (N:Nat) (x0 x1 x2:V) (S:St):Rs:=qj3 E0 self N Try.f22 B22 [x0,x1,x2] S
theorem F22_eq (self:EV) (N:Nat) (x0 x1 x2:V) (S:St):F22 self N x0 x1 x2 S =
(boxK 22 x0 S).bind fun p0=>
(boxK 9 x1 p0.2).bind fun p1=>
(boxK 30 x2 p1.2).bind fun p2=>
(ixA 2 1 false 1 p2.1 (.int .i64 1)).bind fun t4=>
(ld1 t4 p2.2).bind fun p5=>
(ixA 2 1 false 1 p2.1 (.int .i64 0)).bind fun t6=>
(ld1 t6 p5.2).bind fun p7=>
(qa4 E0 .sub 3 false false p5.1 p7.1).bind fun t8=>
(qa4 E0 .add 3 false true t8 (.int .i64 1)).bind fun t9=>
(qb5 E0 63 t9 t9 p7.2).bind fun p10=>
(some (nwP 63 1 (Ev.one .nilslice) p10.2)).bind fun p11=>
(stP 1 p11.1 p10.1 p11.2).bind fun p12=>
(ixA 2 1 false 1 p2.1 (.int .i64 1)).bind fun t16=>
(ld1 t16 p12.2).bind fun p17=>
(some (nwP 3 1 (Ev.one (.int .i64 0)) p17.2)).bind fun p18=>
(stP 1 p18.1 p17.1 p18.2).bind fun p19=>
L22_20 self N (R22_13 self N (qbg E0 self Try.f22) qav) (exB 0 (R22_13 self N (qbg E0 self Try.f22) qav) qav) N p0.1 p1.1 p2.1 p11.1 p18.1 p19.2:=by kernel_rfl
noncomputable def C15:Code:=Try.f15.body.getD .skip
noncomputable def B15:D:=(qc1 C15 [[],[],[],[0,1,5,7,20,21],[],[0,1,5,7],[],[],[],[0,0,1,5,7],[6],[],[],[],[0,5,7,9,10,11],[],[7],[],[],[],[],[],[],[],[],[],[],[],[0,7],[6],[]]).1
noncomputable def RL15:List Nat:=cellsOf Try.f15.results.toList
noncomputable def R15_9 (self:EV) (N:Nat) (nk:Ac->St->Rs) (ek:Nat->Ac->St->Rs) (a:Ac) (S:St):Rs:=qa6 [0,1,5,7] a fun a=>dr E0 self RL15 N (B15.r.r).r (mkK E0 self Try.f15 nk ek) a S
noncomputable def R15_23 (self:EV) (N:Nat) (nk:Ac->St->Rs) (ek:Nat->Ac->St->Rs) (a:Ac) (S:St):Rs:=qa6 [7] a fun a=>dr E0 self RL15 N (B15.r.r.r.l.r.r.r).r (mkK E0 self Try.f15 nk ek) a S
theorem R15_23_eq (self:EV) (N:Nat) (nk:Ac->St->Rs) (ek:Nat->Ac->St->Rs) ( v7:V) (S:St):R15_23 self N nk ek (fr 100 [(7,v7)]) S =
some (.ret v7,S):=by kernel_rfl
noncomputable def qcy (self:EV) (N:Nat) (nk:Ac->St->Rs) (ek:Nat->Ac->St->Rs) (n:Nat) ( v0 v5 v7 v9 v10 v11:V) (S:St):Rs:=qc8 [0,5,7,9,10,11] (dr E0 self RL15 N (B15.r.r.r.l.r.r.r.l.l.l)) (mkK E0 self Try.f15 nk ek) n (fr 100 [(0,v0),(5,v5),(7,v7),(9,v9),(10,v10),(11,v11)]) S
theorem L15_26_eq (self:EV) (N:Nat) (nk:Ac->St->Rs) (ek:Nat->Ac->St->Rs) (n:Nat) ( v0 v5 v7 v9 v10 v11:V) (S:St):qcy self N nk ek (n+1) v0 v5 v7 v9 v10 v11 S =
(qa2 v0).bind fun t28=>
(faP 0 false 1 t28).bind fun t29=>
(ld1 t29 S).bind fun p30=>
(ixP 258 p30.1 v10).bind fun t32=>
(faP 256 false 1 t32).bind fun t33=>
(ld1 t33 p30.2).bind fun p34=>
(qa4 E0 .neq 3 false true p34.1 (.int .i64 6)).bind fun t35=>
ifK t35 (
(qa2 v0).bind fun t37=>
(faP 0 false 1 t37).bind fun t38=>
(ld1 t38 p34.2).bind fun p39=>
(ixP 258 p39.1 v10).bind fun t41=>
(ldA 258 t41 p39.2).bind fun p42=>
(some (nwP 50 258 (Tr.ofListFrom .nil [(.bool false),(.bool false),(.bool false),(.bool false),(.bool false),(.bool false),(.bool false),(.bool false),(.bool false),(.bool false),(.bool false),(.bool false),(.bool false),(.bool false),(.bool false),(.bool false),(.bool false),(.bool false),(.bool false),(.bool false),(.bool false),(.bool false),(.bool false),(.bool false),(.bool false),(.bool false),(.bool false),(.bool false),(.bool false),(.bool false),(.bool false),(.bool false),(.bool false),(.bool false),(.bool false),(.bool false),(.bool false),(.bool false),(.bool false),(.bool false),(.bool false),(.bool false),(.bool false),(.bool false),(.bool false),(.bool false),(.bool false),(.bool false),(.bool false),(.bool false),(.bool false),(.bool false),(.bool false),(.bool false),(.bool false),(.bool false),(.bool false),(.bool false),(.bool false),(.bool false),(.bool false),(.bool false),(.bool false),(.bool false),(.bool false),(.bool false),(.bool false),(.bool false),(.bool false),(.bool false),(.bool false),(.bool false),(.bool false),(.bool false),(.bool false),(.bool false),(.bool false),(.bool false),(.bool false),(.bool false),(.bool false),(.bool false),(.bool false),(.bool false),(.bool false),(.bool false),(.bool false),(.bool false),(.bool false),(.bool false),(.bool false),(.bool false),(.bool false),(.bool false),(.bool false),(.bool false),(.bool false),(.bool false),(.bool false),(.bool false),(.bool false),(.bool false),(.bool false),(.bool false),(.bool false),(.bool false),(.bool false),(.bool false),(.bool false),(.bool false),(.bool false),(.bool false),(.bool false),(.bool false),(.bool false),(.bool false),(.bool false),(.bool false),(.bool false),(.bool false),(.bool false),(.bool false),(.bool false),(.bool false),(.bool false),(.bool false),(.bool false),(.bool false),(.bool false),(.bool false),(.bool false),(.bool false),(.bool false),(.bool false),(.bool false),(.bool false),(.bool false),(.bool false),(.bool false),(.bool false),(.bool false),(.bool false),(.bool false),(.bool false),(.bool false),(.bool false),(.bool false),(.bool false),(.bool false),(.bool false),(.bool false),(.bool false),(.bool false),(.bool false),(.bool false),(.bool false),(.bool false),(.bool false),(.bool false),(.bool false),(.bool false),(.bool false),(.bool false),(.bool false),(.bool false),(.bool false),(.bool false),(.bool false),(.bool false),(.bool false),(.bool false),(.bool false),(.bool false),(.bool false),(.bool false),(.bool false),(.bool false),(.bool false),(.bool false),(.bool false),(.bool false),(.bool false),(.bool false),(.bool false),(.bool false),(.bool false),(.bool false),(.bool false),(.bool false),(.bool false),(.bool false),(.bool false),(.bool false),(.bool false),(.bool false),(.bool false),(.bool false),(.bool false),(.bool false),(.bool false),(.bool false),(.bool false),(.bool false),(.bool false),(.bool false),(.bool false),(.bool false),(.bool false),(.bool false),(.bool false),(.bool false),(.bool false),(.bool false),(.bool false),(.bool false),(.bool false),(.bool false),(.bool false),(.bool false),(.bool false),(.bool false),(.bool false),(.bool false),(.bool false),(.bool false),(.bool false),(.bool false),(.bool false),(.bool false),(.bool false),(.bool false),(.bool false),(.bool false),(.bool false),(.bool false),(.bool false),(.bool false),(.bool false),(.bool false),(.bool false),(.bool false),(.bool false),(.bool false),(.bool false),(.bool false),(.bool false),(.bool false),(.bool false),(.bool false),(.bool false),(.bool false),(.bool false),(.bool false),(.bool false),(.bool false),(.bool false),(.int .i64 0),(.int .i64 0)] 0) p42.2)).bind fun p43=>
(stP 258 p43.1 p42.1 p43.2).bind fun p44=>
(faP 256 false 1 p43.1).bind fun t45=>
(ld1 t45 p44.2).bind fun p46=>
(qa4 E0 .eql 3 false true p46.1 (.int .i64 0)).bind fun t47=>
ifK t47 (
(qa4 E0 .add 3 false true v11 (.int .i64 1)).bind fun t50=>
(qa4 E0 .add 3 false true v10 (.int .i64 1)).bind fun t53=>
qcy self N nk ek n v0 v5 v7 v9 t53 t50 p46.2) (
(qa4 E0 .eql 3 false true p46.1 (.int .i64 5)).bind fun t55=>
ifK t55 (
(faP 257 false 1 p43.1).bind fun t58=>
(ld1 t58 (onS p46.2)).bind fun p59=>
(qa4 E0 .quo 3 false true p59.1 (.int .i64 2)).bind fun t60=>
(faP 257 false 1 p43.1).bind fun t61=>
(ld1 t61 (onS p59.2)).bind fun p62=>
(qa4 E0 .rem 3 false true p62.1 (.int .i64 2)).bind fun t63=>
(ixP 2 v7 t60).bind fun t65=>
(ixA 2 1 false 1 t65 t63).bind fun t66=>
(stP 1 t66 v11 (onS p62.2)).bind fun p67=>
qfq [(2,[5])] p46.2 [[],[],p59.2.log,[],[],p62.2.log,[],[],[],[],p67.2.log] p67.2 fun S68=>
(qa4 E0 .add 3 false true v10 (.int .i64 1)).bind fun t70=>
qcy self N nk ek n v0 v5 v7 v9 t70 v11 S68) (
(qa4 E0 .eql 3 false true p46.1 (.int .i64 3)).bind fun t72=>
ifK t72 (
(qa4 E0 .add 3 false true v10 (.int .i64 1)).bind fun t75=>
(ixA 2 1 false 1 v5 (.int .i64 0)).bind fun t79=>
(ld1 t79 p46.2).bind fun p80=>
(qa4 E0 .sub 3 false false v11 p80.1).bind fun t81=>
(ixP 1 v9 t81).bind fun t82=>
(ld1 t82 p80.2).bind fun p83=>
(ixP 1 p83.1 t75).bind fun t85=>
(ld1 t85 p83.2).bind fun p86=>
(unV .not p86.1).bind fun t87=>
ifK t87 (
(faP 257 false 1 p43.1).bind fun t88=>
(ld1 t88 p86.2).bind fun p89=>
qcy self N nk ek n v0 v5 v7 v9 p89.1 v11 p89.2) (
qcy self N nk ek n v0 v5 v7 v9 t75 v11 p86.2)) (
(qa4 E0 .eql 3 false true p46.1 (.int .i64 4)).bind fun t91=>
ifK t91 (
(faP 257 false 1 p43.1).bind fun t93=>
(ld1 t93 p46.2).bind fun p94=>
qcy self N nk ek n v0 v5 v7 v9 p94.1 v11 p94.2) (
(qa4 E0 .add 3 false true v10 (.int .i64 1)).bind fun t97=>
qcy self N nk ek n v0 v5 v7 v9 t97 v11 p46.2))))) (
ek 2 (fr 100 [(7,v7)]) p34.2):=by kernel_rfl
theorem R15_9_eq (self:EV) (N:Nat) (nk:Ac->St->Rs) (ek:Nat->Ac->St->Rs) ( v0 v1 v5 v7:V) (S:St):R15_9 self N nk ek (fr 100 [(0,v0),(1,v1),(5,v5),(7,v7)]) S =
(ldA 2 v5 S).bind fun p11=>
(ixP 2 v7 (.int .i64 0)).bind fun t12=>
(stP 2 t12 p11.1 p11.2).bind fun p13=>
(ldA 2 v5 p13.2).bind fun p16=>
qad (self.f 22 [v0,v1,p16.1] p16.2) fun t17 S17=>
(ixA 2 1 false 1 v5 (.int .i64 0)).bind fun t19=>
(ld1 t19 (onS S17)).bind fun p20=>
qcy self N (R15_23 self N (fun a s=>qa6 [6] a fun a=>nk a s) ek) (exB 2 (R15_23 self N (fun a s=>qa6 [6] a fun a=>nk a s) ek) ek) N v0 v5 v7 t17 (.int .i64 0) p20.1 (qbf S17 (onS p20.2) [[],p20.2.log,[],[]]):=by kernel_rfl
noncomputable def L15_102 (self:EV) (N:Nat) (nk:Ac->St->Rs) (ek:Nat->Ac->St->Rs) (n:Nat) ( v0 v1 v5 v7 v20 v21:V) (S:St):Rs:=qc8 [0,1,5,7,20,21] (dr E0 self RL15 N (B15.r.r.l.r.l.l)) (mkK E0 self Try.f15 nk ek) n (fr 100 [(0,v0),(1,v1),(5,v5),(7,v7),(20,v20),(21,v21)]) S
theorem L15_102_eq (self:EV) (N:Nat) (nk:Ac->St->Rs) (ek:Nat->Ac->St->Rs) (n:Nat) ( v0 v1 v5 v7 v20 v21:V) (S:St):L15_102 self N nk ek (n+1) v0 v1 v5 v7 v20 v21 S =
(qa4 E0 .lss 3 false false v21 v20).bind fun t103=>
ifK t103 (
(qau E0 30 [(0,(.int .i64 (-1))),(1,(.int .i64 (-1)))]).bind fun t108=>
(ixP 2 v7 v21).bind fun t109=>
(stP 2 t109 t108 S).bind fun p110=>
(qa4 E0 .add 3 false true v21 (.int .i64 1)).bind fun t111=>
L15_102 self N nk ek n v0 v1 v5 v7 v20 t111 p110.2) (
ek 0 (fr 100 [(0,v0),(1,v1),(5,v5),(7,v7)]) S):=by kernel_rfl
noncomputable def F15 (self:EV) (N:Nat) (x0 x1 x2:V) (S:St):Rs:=qj3 E0 self N Try.f15 B15 [x0,x1,x2] S
theorem F15_eq (self:EV) (N:Nat) (x0 x1 x2:V) (S:St):F15 self N x0 x1 x2 S =
(boxK 30 x2 S).bind fun p0=>
(qa2 x0).bind fun t3=>
(faP 1 false 1 t3).bind fun t4=>
(ld1 t4 p0.2).bind fun p5=>
(qa4 E0 .add 3 false true p5.1 (.int .i64 1)).bind fun t6=>
(qb5 E0 27 t6 t6 p5.2).bind fun p7=>
(lnS p7.1 p7.2).bind fun p100=>
L15_102 self N (R15_9 self N (qbg E0 self Try.f15) qav) (exB 0 (R15_9 self N (qbg E0 self Try.f15) qav) qav) N x0 x1 p0.1 p7.1 p100.1 (.int .i64 0) p100.2:=by kernel_rfl
end
noncomputable section
noncomputable def C8:Code:=Try.f8.body.getD .skip
noncomputable def B8:D:=(qc1 C8 [[],[],[],[],[],[],[],[],[]]).1
noncomputable def F8 (self:EV) (N:Nat) (x0 x1 x2:V) (S:St):Rs:=qj3 E0 self N Try.f8 B8 [x0,x1,x2] S
theorem F8_eq (self:EV) (N:Nat) (x0 x1 x2:V) (S:St):F8 self N x0 x1 x2 S =
(qa4 E0 .eql 22 false true x0 .nilptr).bind fun t3=>
(qa1 false t3).bind fun g5=>(bif g5 then some x2 else some (.tuple [])).bind fun t5=>
(qa1 false t3).bind fun g6=>(bif g6 then qa4 E0 .lss 3 false true t5 (.int .i64 0)else some (.tuple [])).bind fun t6=>
(qah t3 (some (.bool true)) (some t6)).bind fun t7=>
(qa1 false t7).bind fun g9=>(bif g9 then some x2 else some (.tuple [])).bind fun t9=>
(qa1 false t7).bind fun g10=>(bif g10 then some x1 else some (.tuple [])).bind fun t10=>
(qa1 false t7).bind fun g11=>(bif g11 then qbu t10 S else some (.tuple [],S)).bind fun p11=>
(qa1 false t7).bind fun g12=>(bif g12 then qa4 E0 .gtr 3 false false t9 p11.1 else some (.tuple [])).bind fun t12=>
(qah t7 (some (.bool true)) (some t12)).bind fun t13=>
ifK t13 (
some (.ret (.tuple [.nilslice,(.bool false)]),p11.2)) (
qad (self.f 14 [x0,x1,x2] p11.2) fun t19 S19=>
(qaj t19 0).bind fun t21=>
(qaj t19 1).bind fun t22=>
(some (nwP 30 2 (Tr.ofListFrom .nil [(.int .i64 0),(.int .i64 0)] 0) S19)).bind fun p23=>
(stP 2 p23.1 t21 p23.2).bind fun p24=>
(unV .not t22).bind fun t27=>
ifK t27 (
some (.ret (.tuple [.nilslice,(.bool false)]),p24.2)) (
(ldA 2 p23.1 p24.2).bind fun p32=>
qad (self.f 15 [x0,x1,p32.1] p32.2) fun t33 S33=>
some (.ret (.tuple [t33,(.bool true)]),S33))):=by kernel_rfl
end
end Go.Proofs.Ytachpdpmoihjmaa.W
namespace Go.Proofs.Ytachpdpmoihjmaa.W
open Go.Proofs.Ytachpdpmoihjmaa.Ev Go.RowKit
theorem E0_ok:EnvOk Try.prog E0:=envOf_ok (by kernel_rfl) (by kernel_rfl) (by kernel_rfl) (fun p hp=>by
 simp only[List.mem_cons,List.not_mem_nil,or_false]at hp;rcases hp with rfl;exact⟨fun _ args w=>by kernel_rfl,fun h=>absurd h (by decide),fun h=>absurd h (by decide),fun h=>absurd h (by decide),fun h=>absurd h (by decide)⟩
 ) (by kernel_rfl) (by kernel_rfl) (by kernel_rfl)
theorem qg1 {α:Type} {l r:List α} {i:Nat} {y:α} (h:l.drop i=y::r):∃hlt:i<l.length,l[i]=y/\l.drop (i+1)=r/\y∈l:=by
 have hlt:i<l.length:=by
  rcases Nat.lt_or_ge i l.length with h'|h'
  . exact h'
  . rw[List.drop_eq_nil_of_le h']at h; cases h
 rw[List.drop_eq_getElem_cons hlt]at h;simp only[List.cons.injEq]at h;exact⟨hlt,h.1,h.2,h.1▸List.getElem_mem hlt⟩
theorem drop_end {α:Type} {l:List α} {i:Nat} (h:l.drop i=[]):l.length<=i:=List.drop_eq_nil_iff.1 h
theorem qee {a b:Nat} (h:a<b):decide ((a:Int)<(b:Int))=true:=by simp; omega
theorem qed {a b:Nat} (h:b<=a):decide ((a:Int)<(b:Int))=false:=by simp; omega
theorem qa5 {i:Nat} (h:i<9223372036854775807):IntKind.i64.wrap ((i:Int)+1)=((i+1:Nat):Int):=by
 rw[qap (by omega) (by omega)]; omega
section
variable {s:St}
def AgAt (s:St) (b e z:Nat) (t:Tr V):Prop:=∃c,s.heap.get b=some (.cells e z 1 false c)/\c.get 0=some t
theorem AgAt.grew {W:Nat->Prop} {u:St} {b e z:Nat} {t:Tr V} (h:AgAt s b e z t) (hb:b<s.next) (hw:¬W b) (g:Grew W s u):AgAt u b e z t:=by
 obtain⟨c,h1,h2⟩:=h;exact⟨c,by rw[g.keep b hb hw]; exact h1,h2⟩
theorem qe2 (ho:s.on=false) (e z:Nat) (t:Tr V):AgAt (nwP e z t s).2 s.next e z t/\Grew (fun _=>False) s (nwP e z t s).2/\(nwP e z t s).2.next=s.next+1:=by
 refine⟨⟨Tr.ofListFrom .nil [t] 0,?_,by rw[Tr.get_ofList]; rfl⟩,qd3 ho _ _,rfl⟩;show(qag s e z [t]).heap.get s.next=_
 unfold qag;rw[qin,iP rfl]; rfl
theorem AgAt.ldk (ho:s.on=false) {b e z:Nat} {t:Tr V} (h:AgAt s b e z t) (hz:z<big):ldK s b 0 z=some (t,s):=by
 obtain⟨c,h1,h2⟩:=h;unfold ldK;rw[h1];simp only[ble_true.2 (show 0+z<=z*1 by omega),blt_true.2 (show z*1<big by omega),Bool.and_self,cT];unfold qh6;rw[show Nat.beq z z=true from beq_true.2 rfl,Nat.zero_mod,show Nat.beq 0 0=true from rfl];simp only[Bool.and_self,cT,Nat.zero_div,h2,oB,qb6 ho]
theorem AgAt.ldA (ho:s.on=false) {b e z:Nat} {t:Tr V} (h:AgAt s b e z t) (hz:z<big):Ev.ldA z (.ptr b 0) s=some (.agg z t,s):=by
 show((ldK s b 0 z).bind fun p=>some (V.agg z p.1,p.2))=_;rw[h.ldk ho hz]; rfl
theorem AgAt.ldrA (ho:s.on=false) {b e z:Nat} {t:Tr V} (h:AgAt s b e z t) (hz:z<big):Ev.ldrA z (.ptr b 0) s=some (.agg z t,s):=by
 show((ldK s b 0 z).bind fun p=>some (V.agg z p.1,p.2))=_;rw[h.ldk ho hz]; rfl
theorem AgAt.stA (ho:s.on=false) {b e z:Nat} {t:Tr V} (h:AgAt s b e z t) (hz:z<big) (u:Tr V):∃w,stP z (.ptr b 0) (.agg z u) s=some (.tuple [],w)/\AgAt w b e z u/\Grew (fun x=>x=b) s w/\w.next=s.next:=by
 obtain⟨c,h1,h2⟩:=h;refine⟨s.put b (.cells e z 1 false (c.set u 0)),?_,⟨c.set u 0,by rw[qe9,iP rfl],by rw[Tr.get_set,iP rfl]⟩,qbz b _,rfl⟩;show vu (bif Nat.beq z z&&!false then stK s b 0 z u else none)=_;rw[show Nat.beq z z=true from beq_true.2 rfl];simp only[nF,Bool.and_self,cT]
 have:stK s b 0 z u=some (s.put b (.cells e z 1 false (c.set u 0))):=by
  unfold stK;rw[h1];simp only[ble_true.2 (show 0+z<=z*1 by omega),blt_true.2 (show z*1<big by omega),Bool.and_self,nF,cT];unfold qfn;rw[show Nat.beq z z=true from beq_true.2 rfl,Nat.zero_mod,show Nat.beq 0 0=true from rfl];simp only[Bool.and_self,cT,Nat.zero_div,Tr.setC_eq,oB,qb6 ho]
 rw[this]; rfl
theorem AgAt.ld1 (ho:s.on=false) {b e z i:Nat} {t:Tr V} {v:V} (h:AgAt s b e z t) (hz:z<big) (hi:i<z) (hv:t.get i=some v):Ev.ld1 (.ptr b i) s=some (v,s):=by
 obtain⟨c,h1,h2⟩:=h;show ld s b i=_;exact ld_of ho h1 (by omega) (by omega) (by rw[qlc hi,h2]; exact hv)
theorem AgAt.st1 (ho:s.on=false) {b e z i:Nat} {t:Tr V} (h:AgAt s b e z t) (hz:z<big) (h1z:1<z) (hi:i<z) (v:V) (hs:v.size=1) (hc:v.cells=Ev.one v) (hv:qaf v=false):∃w,stP 1 (.ptr b i) v s=some (.tuple [],w)/\AgAt w b e z (t.set v i)/\Grew (fun x=>x=b) s w/\w.next=s.next:=by
 obtain⟨c,h1,h2⟩:=h;refine⟨s.put b (.cells e z 1 false (c.set (t.set v i) 0)),?_,⟨c.set (t.set v i) 0,by rw[qe9,iP rfl],by rw[Tr.get_set,iP rfl]⟩,qbz b _,rfl⟩;show vu (bif Nat.beq v.size 1&&!qaf v then stK s b i 1 v.cells else none)=_;rw[hs,hv,hc];simp only[show Nat.beq 1 1=true from rfl,nF,Bool.and_self,cT]
 have:stK s b i 1 (Ev.one v)=some (s.put b (.cells e z 1 false (c.set (t.set v i) 0))):=by
  unfold stK;rw[h1];simp only[ble_true.2 (show i+1<=z*1 by omega),blt_true.2 (show z*1<big by omega),Bool.and_self,nF,cT];unfold qfn;rw[show Nat.beq 1 z=false from beq_false.2 (by omega)];simp only[Bool.false_and,cF,qfa,show(Ev.one v).get 0=some v from rfl,oB,Nat.add_zero,Nat.div_eq_of_lt hi,Nat.mod_eq_of_lt hi,h2,Tr.setC_eq,qb6 ho]
 rw[this]; rfl
end
def ixB (l:List UInt8) (c:UInt8):Int:=match l.findIdx? (fun x=>x==c)with|some i=>(i:Int)|none=>-1
theorem extV_one (l n c:Nat) (S:St):extV 1 [.str l n,.int .u8 (.ofNat c)] S=bif Nat.blt c 256 then match indexByte c l 0 n with
 | some i=>some (.val (.int .i64 (.ofNat i)) S)
 | none=>some (.val (.int .i64 (-1)) S)
 else none:=rfl
theorem callK_ext {E:Env} {self:EV} {f k:Nat} (h:E.ext.get f=some k) (x y args:List V) (S:St):qla E self (.fn (.func f) x y) args S=(extV k (x++args++y) S).bind fun
 | .val v s=>some (.ret v,s)
 | _=>none:=by
 show(match E.ext.get f with|some k=>_|none=>_)=_;rw[h];rfl
theorem ext76:E0.ext.get 34=some 1:=by kernel_rfl
theorem ext_ixB (s:List UInt8) (c:UInt8) (S:St):extV 1 [sv s,.int .u8 (c.toNat:Int)] S=some (.val (.int .i64 (ixB s c)) S):=by
 have h1:extV 1 [sv s,.int .u8 (c.toNat:Int)] S=bif Nat.blt c.toNat 256 then match indexByte c.toNat s.length 0 (qb4 s)with
  | some i=>some (.val (.int .i64 (.ofNat i)) S)
  | none=>some (.val (.int .i64 (-1)) S)
  else none:=extV_one _ _ _ _
 rw[h1,blt_true.2 c.toNat_lt,qep,ixB];cases s.findIdx? (fun x=>x==c)with
 | none=>rfl
 | some i=>rfl
theorem call76 (self:EV) (s:List UInt8) (c:UInt8) (S:St):qla E0 self (.fn (.func 34) [] []) [sv s,.int .u8 (c.toNat:Int)] S=some (.ret (.int .i64 (ixB s c)),S):=by
 have h:=callK_ext (E:=E0) (self:=self) ext76 [] [] [sv s,.int .u8 (c.toNat:Int)] S;have h2:=ext_ixB s c S;rw[List.nil_append,List.append_nil,h2]at h;exact h
theorem F73_of (self:EV) (N:Nat) (s:V) (c:UInt8) (S:St) (v:V) (h:qla E0 self (.fn (.func 34) [] []) [s,.int .u8 (c.toNat:Int)] S=some (.ret v,S)):F33 self N s (.int .u8 (c.toNat:Int)) S=some (.ret v,S):=by
 rw[F33_eq,h,callP_ret]
theorem F73_spec (self:EV) (N:Nat) (s:List UInt8) (c:UInt8) (S:St):F33 self N (sv s) (.int .u8 (c.toNat:Int)) S=some (.ret (.int .i64 (ixB s c)),S):=
 F73_of self N (sv s) c S (.int .i64 (ixB s c)) (call76 self s c S)
def frz (W:World):Rho:=⟨fun _=>none,fun k=>W.heap[k]?⟩
theorem glob0:∀g,E0.glob.get g=none:=fun _=>rfl
noncomputable def kfTrue:KF:=specKF (fun _:Unit=>[]) (fun _=>En.ret (.bool true))
theorem kfTrue_run (S:St):kfTrue.run [] S=some (.ret (.bool true),S):=specKF_run (enc:=fun _:Unit=>[]) (out:=fun _=>En.ret (.bool true)) (fun _ _ _=>rfl) () S
theorem relF (W:World):Rel E0 (base0 W) (frz W) s0 W:=
 ⟨⟨rfl,rfl,rfl,lR _,fun _ _=>rfl⟩,fun _ _=>rfl,lR _,fun b o h=>by simp[s0,Tr.get_nil]at h,fun b b' o o' cb sh sz sh' sz' h=>by simp[s0,Tr.get_nil]at h,fun g b h=>(by rw[glob0]at h; cases h),fun k o h=>h,fun b o cb sh sz h=>(by simp[s0,Tr.get_nil]at h),fun k o h _=>trivial⟩
section
variable {s:St}
theorem big1:1<big:=by unfold big; decide
def selRd (logs:List (List LE)) (prs:List (Nat×List Nat)):Bool:=prs.all fun p=>(qe6 p.1 logs).all (fun e=>!e.w)&&p.2.all fun j=>(qe6 j logs).all fun e=>!e.w
theorem selRd_ok {logs:List (List LE)}:∀{prs:List (Nat×List Nat)},selRd logs prs=true->qat logs prs=true
 | [],_=>rfl
 | (i,js)::l,h=>by
  unfold selRd at h;rw[List.all_cons,bA,bA]at h;obtain⟨⟨h1,h2⟩,h3⟩:=h;have r:∀{L:List LE},(L.all fun e=>!e.w)=true->∀f∈L,f.w=false:=fun{L} hL f hf=>by simpa using List.all_eq_true.1 hL f hf
  have key:∀js:List Nat,(js.all fun j=>(qe6 j logs).all fun e=>!e.w)=true->qdh (qe6 i logs) logs js=false:=fun js=>by
   induction js with
   | nil=>intro _; rfl
   | cons j js ih=>
    intro hj;rw[List.all_cons,bA]at hj;unfold qdh;rw[clash_rd _ _ (r h1) (r hj.1)];exact ih hj.2
  unfold qat;rw[key js h2];exact selRd_ok h3
theorem qia {prs:List (Nat×List Nat)} {s0 s:St} {logs:List (List LE)} {k:St->Rs} (h:selRd logs prs=true):qfq prs s0 logs s k=k (qbf s0 s logs):=endP_of (selRd_ok h)
theorem bx_put (b e:Nat) (l:List V):Bx (s.put b (bxO e l)) b e l:=by
 show(s.put b (bxO e l)).heap.get b=some (bxO e l);rw[qe9,iP rfl]
theorem qja (len z:Nat) (g:Bool) (k:Nat) (ik:IntKind) {b off n:Nat} (h:n<len):ixA len z g k (.ptr b off) (.int ik (n:Int))=some (.ptr b (off+n*z)):=by
 show(bif Nat.blt n len then some (V.ptr b (off+n*z))else none)=_;rw[blt_true.2 h]; rfl
theorem AgAt.st_one (ho:s.on=false) {b e:Nat} {t:Tr V} (h:AgAt s b e 1 t) (v:V) (hs:v.size=1) (hc:v.cells=Ev.one v) (hv:qaf v=false):∃w,stP 1 (.ptr b 0) v s=some (.tuple [],w)/\AgAt w b e 1 (Ev.one v)/\Grew (fun x=>x=b) s w/\w.next=s.next:=by
 obtain⟨w,h1,h2,h3,h4⟩:=h.stA ho big1 (Ev.one v);refine⟨w,?_,h2,h3,h4⟩;have e1:stP 1 (.ptr b 0) (.agg 1 (Ev.one v)) s=vu (stK s b 0 1 (Ev.one v)):=rfl;have e2:stP 1 (.ptr b 0) v s=vu (bif Nat.beq v.size 1&&!qaf v then stK s b 0 1 v.cells else none):=rfl;rw[e2,hs,hc,hv,<- h1,e1];rfl
theorem AgAt.ldr_one (ho:s.on=false) {b e:Nat} {v:V} (h:AgAt s b e 1 (Ev.one v)):ldr1 (.ptr b 0) s=some (v,s):=AgAt.ld1 ho h big1 (by decide) rfl
end
end Go.Proofs.Ytachpdpmoihjmaa.W
namespace Go.Proofs.Ytachpdpmoihjmaa.W
open Go.Proofs.Ytachpdpmoihjmaa.Ev
theorem qdb:258<big:=by unfold big; decide
theorem big6:6<big:=by unfold big; decide
structure Stp (t:Tr V) (p:UInt8->Bool) (k to:Int):Prop where
 has:∀c:UInt8,t.get c.toNat=some (.bool (p c))
 kind:t.get 256=some (.int .i64 k)
 to_:t.get 257=some (.int .i64 to)
def isF:Option V->Bool|some (.bool false)=>true|_=>false
theorem isF_eq {o:Option V} (h:isF o=true):o=some (.bool false):=by
 unfold isF at h;split at h
 . rfl
 . cases h
noncomputable def TK (k:Int):Tr V:=match qau E0 50 [(1,.int .i64 k)]with|some (.agg _ t)=>t|_=>.nil
theorem build_0:qau E0 50 [(1,.int .i64 0)]=some (.agg 258 (TK 0)):=by kernel_rfl
theorem build_6:qau E0 50 [(1,.int .i64 6)]=some (.agg 258 (TK 6)):=by kernel_rfl
theorem all_0:(List.range 256).all (fun i=>isF ((TK 0).get i))=true:=by kernel_rfl
theorem stp_0:Stp (TK 0) (fun _=>false) 0 0:=⟨fun c=>isF_eq (List.all_eq_true.1 all_0 c.toNat (List.mem_range.2 c.toNat_lt)),by kernel_rfl,by kernel_rfl⟩
theorem stp_take (c:UInt8):Stp ((TK 0).set (.bool true) c.toNat) (fun x=>x==c) 0 0:=by
 have hc:=c.toNat_lt;refine⟨fun x=>?_,?_,?_⟩
 . rw[Tr.get_set]
   by_cases h:x.toNat=c.toNat
   . rw[iP h,UInt8.toNat_inj.1 h]; simp
   . rw[iN h,stp_0.has x,show(x==c)=false from beq_false_of_ne fun e=>h (by rw[e])]
 . rw[Tr.get_set,iN (by omega)]; exact stp_0.kind
 . rw[Tr.get_set,iN (by omega)]; exact stp_0.to_
section
variable {s:St}
theorem nw_lg (ho:s.on=false) (l:List LE) (o:O):nw (s.lg l) o=(nw s o).lg ({b:=s.next,lo:=0,hi:=big,w:=true}::l):=by
 unfold nw;rw[qb6 ho,qm4];rfl
theorem qm2 (ho:s.on=false) (l:List LE) (e z:Nat) (ts:List (Tr V)):qag (s.lg l) e z ts=(qag s e z ts).lg ({b:=s.next,lo:=0,hi:=big,w:=true}::l):=by
 unfold qag;exact nw_lg ho l _
theorem bsP_lg (ho:s.on=false) (z t:Tr V):∃w,bsP 50 258 1 z [(0,.agg 258 t)] (s.lg [])=some (.slice s.next 0 1 1,w.lg [⟨s.next,0,big,true⟩])/\RowAt w s.next 50 258 [t]/\Grew (fun _=>False) s w/\w.next=s.next+1:=by
 refine⟨nw s (.cells 50 258 1 false ((Tr.tab 1 1 fun _=>z).set t 0)),?_,?_,qd3 ho _ _,rfl⟩
 . unfold bsP qic qic
   simp only[V.size,qaf,V.cells,show Nat.beq 258 258=true from rfl,nF,Bool.and_true,show Nat.blt 0 1=true from rfl,cT,Tr.setC_eq,oB,nw_lg ho];rfl
 . refine qgz ho (by omega) rfl (by unfold big; omega) fun i t h=>?_
   rw[Tr.get_set];cases i with
   | zero=>simpa using h
   | succ i=>simp at h
theorem ap_first_lg (ho:s.on=false) (l0:List LE) {b:Nat} {t:Tr V} (h:RowAt s b 50 258 [t]):∃u l,apP 50 258 272 .nilslice (.slice b 0 1 1) (s.lg l0)=some (.oslice s.next 0 1 258,u.lg l)/\RowAt u s.next 50 258 [t]/\Grew (fun _=>False) s u/\u.next=s.next+1:=by
 have hld:=h.ldN ho 1 0 (by simp);simp only[Nat.zero_mul,List.drop_zero]at hld;obtain⟨_,l1,h1⟩:=ldN_lg ho b 258 1 0 hld l0;refine⟨qag s 50 258 [t],{b:=s.next,lo:=0,hi:=big,w:=true}::l1,?_,rowAt_newCells ho (by omega) (by unfold big; simp),qd3 ho _ _,rfl⟩;unfold apP;simp only[qh3,oB,show Nat.blt ((0+1)*(272+258+1)) qan=true from rfl,cT];unfold qfx qc7;simp only[h1,oB,show Nat.beq 1 0=false from rfl,cF];rw[qm2 ho];rfl
theorem ap_more_lg (ho:s.on=false) (l0:List LE) {b r:Nat} {t:Tr V} {l:List (Tr V)} (h:RowAt s b 50 258 [t]) (hr:RowAt s r 50 258 l) (hl:l.length<=3000):∃u l',apP 50 258 272 (.oslice r 0 l.length 258) (.slice b 0 1 1) (s.lg l0)=some (.oslice s.next 0 (l.length+1) 258,u.lg l')/\RowAt u s.next 50 258 (l++[t])/\Grew (fun x=>x=r) s u/\u.next=s.next+1:=by
 obtain⟨c,hc1,hc2⟩:=hr.row;have hfit:=hr.fit;have hld:=h.ldN ho 1 0 (by simp);simp only[Nat.zero_mul,List.drop_zero]at hld;obtain⟨_,l1,h1⟩:=ldN_lg ho b 258 1 0 hld l0;refine⟨nw (s.put r .dead) (.cells 50 258 (l.length+1) false (c.set t l.length)),({b:=s.next,lo:=0,hi:=big,w:=true}::{b:=r,lo:=0,hi:=big,w:=true}::{b:=r,lo:=big-1,hi:=big,w:=false}::l1),?_,?_,?_,rfl⟩
 . unfold apP
   have hm:Nat.blt ((l.length+1)*(272+258+1)) qan=true:=by rw[blt_true]; unfold qan; omega
   simp only[qh3,oB,hm,cT];unfold qfx qc7;simp only[h1,oB,show Nat.beq 258 258=true from rfl,cT];unfold sizeB;rw[show(s.lg l1).heap.get r=_ from hc1]
   have hb:Nat.ble (0+(l.length+1)*258) (258*l.length)=false:=by
    cases hh:Nat.ble (0+(l.length+1)*258) (258*l.length)with
    | false=>rfl
    | true=>rw[ble_true]at hh; omega
   simp only[blt_true.2 hfit,cT,oB,qm4,hb,cF];unfold growV;rw[show(s.lg ({b:=r,lo:=big-1,hi:=big,w:=false}::l1)).heap.get r=_ from hc1];simp only[show Nat.beq 50 50=true from rfl,Bool.not_true,Bool.or_self,cF,show Nat.beq 258 258=true from rfl,show Nat.beq 0 0=true from rfl,Nat.beq_refl,blt_true.2 hfit,Bool.and_self,cT];rw[show List.take 1 [t]=[t]from rfl];unfold addLC addLC;rw[Tr.setC_eq];unfold setO;rw[qm4,put_lg,nw_lg (s:=s.put r .dead) ho];rfl
 . have hnx:(s.put r .dead).next=s.next:=rfl
   have:=qgz (s:=s.put r .dead) (e:=50) (z:=258) (n:=l.length+1) (c:=c.set t l.length) (l:=l++[t]) ho (by omega) (by simp) (by unfold big; omega) fun i u h=>by
    rw[Tr.get_set];by_cases hi:i=l.length
    . subst hi
      rw[iP rfl];simpa using h
    . rw[iN hi]
      have hlt:=(List.getElem?_eq_some_iff.1 h).1;rw[lAq,List.length_singleton]at hlt;rw[List.getElem?_append_left (by omega)]at h;exact hc2 i u h
   exact this
 . exact⟨by show s.next<=s.next+1; omega,(qfs (s:=s.put r .dead) ho _).trans ho.symm,fun x hx hw=>by
    rw[qin,iN (by show x≠s.next; omega),qe9,iN hw]⟩
theorem stP_lg (ho:s.on=false) {n b off:Nat} {v:V} {t:St} (h:stP n (.ptr b off) v s=some (.tuple [],t)):∃l,stP n (.ptr b off) v (s.lg [])=some (.tuple [],t.lg l):=by
 have h':vu (bif Nat.beq v.size n&&!qaf v then stK s b off n v.cells else none)=some (.tuple [],t):=h;show ∃l,vu (bif Nat.beq v.size n&&!qaf v then stK (s.lg []) b off n v.cells else none)=some (.tuple [],t.lg l);cases hc:(Nat.beq v.size n&&!qaf v)with
 | false=>rw[hc]at h'; cases h'
 | true=>
  rw[hc]at h';simp only[cT]at h' ⊢;unfold vu at h' ⊢;simp only[oI,oS,pM,true_and]at h';obtain⟨u,hu,rfl⟩:=h';obtain⟨_,l,hl⟩:=stK_lg ho hu [];exact⟨l,by rw[hl]; rfl⟩
theorem bx_st6 (ho:s.on=false) {b e i:Nat} {l m:List V} {v:V} (h:Bx s b e l) (hl:l.length=6) (hm:m.length=6) (hi:i<6) (hset:(Tr.ofListFrom .nil l 0).set v i=Tr.ofListFrom .nil m 0) (h1:v.size=1) (h2:v.cells=Ev.one v) (h3:qaf v=false) :
 stP 1 (.ptr b i) v s=some (.tuple [],s.put b (bxO e m)):=by
 show vu (bif Nat.beq v.size 1&&!qaf v then stK s b i 1 v.cells else none)=_;rw[h1,h2,h3]
 have hst:stK s b i 1 (Ev.one v)=some (s.put b (bxO e m)):=by
  unfold stK;rw[h,hl];simp only[ble_true.2 (show i+1<=6*1 by omega),blt_true.2 (show 6*1<big by unfold big; decide),Bool.and_self,nF,cT];unfold qfn;rw[show Nat.beq 1 6=false from rfl];have hv0:(Ev.one v).get 0=some v:=rfl;simp only[Bool.false_and,cF,qfa,Tr.setC_eq,hv0,oB,Nat.add_zero,Nat.div_eq_of_lt hi,Nat.mod_eq_of_lt hi];rw[Tr.get_ofList];simp only[List.getElem?_cons_zero,oB,hset,set_one,qb6 ho];unfold bxO;rw[hm]
 rw[hst]; rfl
theorem set6_0 (a b c d e f v:V):(Tr.ofListFrom .nil [a,b,c,d,e,f] 0).set v 0=Tr.ofListFrom .nil [v,b,c,d,e,f] 0:=by kernel_rfl
theorem set6_3 (a b c d e f v:V):(Tr.ofListFrom .nil [a,b,c,d,e,f] 0).set v 3=Tr.ofListFrom .nil [a,b,c,v,e,f] 0:=by kernel_rfl
theorem set6_5 (a b c d e f v:V):(Tr.ofListFrom .nil [a,b,c,d,e,f] 0).set v 5=Tr.ofListFrom .nil [a,b,c,d,e,v] 0:=by kernel_rfl
end
noncomputable def r6 (gr dp:Nat) (lv:V) (s:List UInt8) (i:Nat) (f:Bool):List V:=[lv,.int .i64 (gr:Int),sv s,.int .i64 (i:Int),.int .i64 (dp:Int),.bool f]
def StepsAt (s:St) (N0:Nat) (v:V) (acc:List (Tr V)):Prop:=(acc=[]/\v=.nilslice)\/(acc≠[]/\∃r,v=.oslice r 0 acc.length 258/\RowAt s r 50 258 acc/\N0<=r/\r<s.next)
structure Rdr (gr dp:Nat) (S:St) (b N0:Nat) (s:List UInt8) (i:Nat) (f:Bool) (lv:V) (acc:List (Tr V)):Prop where
 on:S.on=false
 lo:N0<=b
 hi:b<S.next
 bx:Bx S b 44 (r6 gr dp lv s i f)
 steps:StepsAt S N0 lv acc
section
variable {gr dp:Nat} {S:St} {b N0 i:Nat} {s:List UInt8} {f:Bool} {lv:V} {acc:List (Tr V)}
theorem StepsAt.len (h:StepsAt S N0 lv acc) (t:St):lnS lv t=some (.int .i64 (acc.length:Int),t):=by
 rcases h with⟨rfl,rfl⟩|⟨_,r,rfl,_⟩<;>rfl
theorem ql8 {r:Nat} {l:List V} {u:List (Tr V)} (h:Bx S b 44 l) (hr:RowAt S r 50 258 u):r≠b:=fun e=>by
 obtain⟨c,h1,_⟩:=hr.row;rw[e]at h1;unfold Bx at h;rw[h]at h1;simp at h1
theorem StepsAt.grew {W:Nat->Prop} {t:St} (h:StepsAt S N0 lv acc) (hw:∀r,RowAt S r 50 258 acc->N0<=r->r<S.next->¬W r) (g:Grew W S t):StepsAt t N0 lv acc:=by
 rcases h with h|⟨h1,r,h2,h3,h4,h5⟩
 . exact .inl h
 . exact .inr ⟨h1,r,h2,h3.grew h5 (hw r h3 h4 h5) g,h4,Nat.lt_of_lt_of_le h5 g.next⟩
theorem Rdr.putI (h:Rdr gr dp S b N0 s i f lv acc) (j:Nat):∃T,stP 1 (.ptr b 3) (.int .i64 (j:Int)) S=some (.tuple [],T)/\Rdr gr dp T b N0 s j f lv acc/\Grew (fun x=>N0<=x) S T:=by
 have hst:=bx_st6 (v:=.int .i64 (j:Int)) (m:=r6 gr dp lv s j f) h.on h.bx rfl rfl (by omega) (set6_3 _ _ _ _ _ _ _) rfl rfl rfl;have g:Grew (fun x=>x=b) S (S.put b (bxO 44 (r6 gr dp lv s j f))):=qbz b _;exact⟨_,hst,⟨h.on,h.lo,h.hi,bx_put b 44 _,h.steps.grew (fun r hr _ _=>ql8 h.bx hr) g⟩,g.mono fun x _ hx=>by rw[hx]; exact h.lo⟩
theorem Rdr.putF (h:Rdr gr dp S b N0 s i f lv acc) (f':Bool):∃T,stP 1 (.ptr b 5) (.bool f') S=some (.tuple [],T)/\Rdr gr dp T b N0 s i f' lv acc/\Grew (fun x=>N0<=x) S T:=by
 have hst:=bx_st6 (v:=.bool f') (m:=r6 gr dp lv s i f') h.on h.bx rfl rfl (by omega) (set6_5 _ _ _ _ _ _ _) rfl rfl rfl;have g:Grew (fun x=>x=b) S (S.put b (bxO 44 (r6 gr dp lv s i f'))):=qbz b _;exact⟨_,hst,⟨h.on,h.lo,h.hi,bx_put b 44 _,h.steps.grew (fun r hr _ _=>ql8 h.bx hr) g⟩,g.mono fun x _ hx=>by rw[hx]; exact h.lo⟩
theorem Rdr.grew {W:Nat->Prop} {t:St} (h:Rdr gr dp S b N0 s i f lv acc) (hw:∀x,x<S.next->N0<=x->¬W x) (g:Grew W S t):Rdr gr dp t b N0 s i f lv acc:=
 ⟨g.on.trans h.on,h.lo,Nat.lt_of_lt_of_le h.hi g.next,h.bx.grew h.hi (hw b h.hi h.lo) g,h.steps.grew (fun r _ h1 h2=>hw r h2 h1) g⟩
theorem Rdr.l0 (h:Rdr gr dp S b N0 s i f lv acc):ld1 (.ptr b 0) S=some (lv,S):=Bx.ld1 h.on h.bx 0 (by show 0<6; decide) big6
theorem Rdr.l3 (h:Rdr gr dp S b N0 s i f lv acc):ld1 (.ptr b 3) S=some (.int .i64 (i:Int),S):=Bx.ld1 h.on h.bx 3 (by show 3<6; decide) big6
theorem Rdr.o0 (h:Rdr gr dp S b N0 s i f lv acc):ld1 (.ptr b 0) (onS S)=some (lv,rd S b 0 1):=Bx.ld1On h.on h.bx 0 (by show 0<6; decide) big6
theorem Rdr.o2 (h:Rdr gr dp S b N0 s i f lv acc):ld1 (.ptr b 2) (onS S)=some (sv s,rd S b 2 1):=Bx.ld1On h.on h.bx 2 (by show 2<6; decide) big6
theorem Rdr.o3 (h:Rdr gr dp S b N0 s i f lv acc):ld1 (.ptr b 3) (onS S)=some (.int .i64 (i:Int),rd S b 3 1):=Bx.ld1On h.on h.bx 3 (by show 3<6; decide) big6
theorem Rdr.o4 (h:Rdr gr dp S b N0 s i f lv acc):ld1 (.ptr b 4) (onS S)=some (.int .i64 (dp:Int),rd S b 4 1):=Bx.ld1On h.on h.bx 4 (by show 4<6; decide) big6
theorem Rdr.o5 (h:Rdr gr dp S b N0 s i f lv acc):ld1 (.ptr b 5) (onS S)=some (.bool f,rd S b 5 1):=Bx.ld1On h.on h.bx 5 (by show 5<6; decide) big6
end
theorem pairs13 {b p x:Nat} (h1:b≠x) (h2:b≠p) (l9 l13:List LE) :
 qat [[],[],[],[],[],[⟨b,0,1,false⟩],[⟨p,0,258,false⟩],[⟨x,0,big,true⟩],l9,[],[],[],l13] [(5,[6,7])]=true:=by
 have e1:Nat.beq b x=false:=beq_false.2 h1;simp[qat,qdh,qe6,qeu,qh5,meet,Nat.beq];exact e1
theorem ldA_on {S:St} {p:Nat} {t:Tr V} (h:AgAt S p 50 258 t):Ev.ldA 258 (.ptr p 0) (onS S)=some (.agg 258 t,rd S p 0 258):=by
 obtain⟨c,h1,h2⟩:=h;show(ldK (onS S) p 0 258).bind _=_
 have:ldK (onS S) p 0 258=some (t,rd S p 0 258):=by
  unfold ldK;rw[show(onS S).heap.get p=_ from h1];simp only[show Nat.ble (0+258) (258*1)=true from rfl,blt_true.2 (show 258*1<big by unfold big; decide),Bool.and_self,cT];unfold qh6;rw[show Nat.beq 258 258=true from rfl,Nat.zero_mod,show Nat.beq 0 0=true from rfl];simp only[Bool.and_self,cT,Nat.zero_div,h2,oB];rfl
 rw[this,oB]
section
variable {gr dp:Nat} {S:St} {b N0 i:Nat} {s:List UInt8} {f:Bool} {lv:V} {acc:List (Tr V)}
theorem box_ag (ho:S.on=false) (t:Tr V):∃T,boxK 50 (.agg 258 t) S=some (.ptr S.next 0,T)/\AgAt T S.next 50 258 t/\Grew (fun _=>False) S T/\T.next=S.next+1:=by
 refine⟨qag S 50 258 [t],rfl,⟨Tr.ofListFrom .nil [t] 0,?_,by rw[Tr.get_ofList]; rfl⟩,qd3 ho _ _,rfl⟩;unfold qag;rw[qin,iP rfl]; rfl
theorem qg8 (b:Nat):qa2 (.ptr b 0)=some (.ptr b 0):=rfl
theorem qcn (off k o:Nat) (g:Bool):faP off g (k+1) (.ptr b o)=some (.ptr b (o+off)):=faP_ptr off g k b o
theorem F13_z:∃Z:Tr V,∀(self:EV) (N:Nat) (x0 x1:V) (S:St),F13 self N x0 x1 S =
(boxK 50 x1 S).bind fun p0=>
(qa2 x0).bind fun t4=>
(faP 0 true 2 t4).bind fun t5=>
(faP 0 false 1 t5).bind fun t6=>
(ld1 t6 (onS p0.2)).bind fun p7=>
(ldA 258 p0.1 (onS p7.2)).bind fun p8=>
(bsP 50 258 1 Z [(0,p8.1)] (onS p8.2)).bind fun p9=>
(apP 50 258 272 p7.1 p9.1 (onS p9.2)).bind fun p10=>
(qa2 x0).bind fun t11=>
(faP 0 true 2 t11).bind fun t12=>
(faP 0 false 1 t12).bind fun t13=>
(stP 1 t13 p10.1 (onS p10.2)).bind fun p14=>
qfq [(5,[6,7])] p0.2 [[],[],[],[],[],p7.2.log,p8.2.log,p9.2.log,p10.2.log,[],[],[],p14.2.log] p14.2 fun S15=>
(qa2 x0).bind fun t17=>
(faP 0 true 2 t17).bind fun t18=>
(faP 0 false 1 t18).bind fun t19=>
(ld1 t19 S15).bind fun p20=>
(lnS p20.1 p20.2).bind fun p21=>
(qa4 E0 .sub 3 false true p21.1 (.int .i64 1)).bind fun t22=>
some (.ret t22,p21.2):=⟨_,fun self N x0 x1 S=>F13_eq self N x0 x1 S⟩
theorem qen {K:FuncId->Option KF} (h13:K 13=none) (m:Nat) (h:Rdr gr dp S b N0 s i f lv acc) (hl:acc.length<=3000) (t:Tr V) :
 ∃T lv',(ev E0 K (m+1)).f 13 [.ptr b 0,.agg 258 t] S=some (.ret (.int .i64 (acc.length:Int)),T)/\Rdr gr dp T b N0 s i f lv' (acc++[t])/\Grew (fun x=>N0<=x) S T:=by
 obtain⟨Z,hZ⟩:=F13_z;have ho:=h.on;obtain⟨S0,a1,a2,a3,a4⟩:=box_ag ho t;have on0:=a3.on.trans ho;have lob:=h.lo;have hib:=h.hi;have h0:Rdr gr dp S0 b N0 s i f lv acc:=h.grew (fun _ _ _ h=>h) a3;obtain⟨S1,b1,b2,b3,b4⟩:=bsP_lg on0 Z t;have on1:=b3.on.trans on0
 have hap:∃S2 l2,apP 50 258 272 lv (.slice S0.next 0 1 1) (S1.lg [])=some (.oslice S1.next 0 (acc.length+1) 258,S2.lg l2)/\RowAt S2 S1.next 50 258 (acc++[t])/\Grew (fun x=>N0<=x/\x≠b) S1 S2/\S2.next=S1.next+1:=by
  rcases h0.steps with⟨rfl,rfl⟩|⟨hne,r,rfl,hr,hNr,hrn⟩
  . obtain⟨u,l,k1,k2,k3,k4⟩:=ap_first_lg on1 [] b2
    exact⟨u,l,k1,k2,k3.mono fun _ _ h=>h.elim,k4⟩
  . obtain⟨u,l,k1,k2,k3,k4⟩:=ap_more_lg on1 [] b2 (hr.grew hrn (fun h=>h) b3) hl
    exact⟨u,l,k1,k2,k3.mono fun x _ hx=>by rw[hx]; exact⟨hNr,ql8 h0.bx hr⟩,k4⟩
 obtain⟨S2,l2,c1,c2,c3,c4⟩:=hap;have on2:=c3.on.trans on1;have bx2:=(h0.bx.grew (by omega) (fun h=>h) b3).grew (by omega) (fun h=>h.2 rfl) c3;have hst:=bx_st6 (i:=0) (v:=.oslice S1.next 0 (acc.length+1) 258) (m:=r6 gr dp (.oslice S1.next 0 (acc.length+1) 258) s i f) on2 bx2 rfl rfl (by omega) (set6_0 _ _ _ _ _ _ _) rfl rfl rfl;have g3:Grew (fun x=>x=b) S2 (S2.put b (bxO 44 (r6 gr dp (.oslice S1.next 0 (acc.length+1) 258) s i f))):=qbz b _;have bx3:=bx_put (s:=S2) b 44 (r6 gr dp (.oslice S1.next 0 (acc.length+1) 258) s i f);have n3:(S2.put b (bxO 44 (r6 gr dp (.oslice S1.next 0 (acc.length+1) 258) s i f))).next=S2.next:=rfl
 generalize S2.put b (bxO 44 (r6 gr dp (.oslice S1.next 0 (acc.length+1) 258) s i f))=S3 at hst g3 bx3 n3;have on3:=g3.on.trans on2;obtain⟨l13,hlog⟩:=stP_lg on2 hst;have row3:=c2.grew (by omega) (by omega) g3
 have hreg:∀U,U=qbf S0 (S3.lg l13) [[],[],[],[],[],[⟨b,0,1,false⟩],[⟨S.next,0,258,false⟩],[⟨S0.next,0,big,true⟩],l2,[],[],[],l13]->Rdr gr dp U b N0 s i f (.oslice S1.next 0 (acc.length+1) 258) (acc++[t])/\Grew (fun x=>N0<=x) S U:=fun U hU=>by
  obtain⟨u1,u2,u3⟩:=qiw on0 l13 [[],[],[],[],[],[⟨b,0,1,false⟩],[⟨S.next,0,258,false⟩],[⟨S0.next,0,big,true⟩],l2,[],[],[],l13] (s':=S3) on3;rw[<- hU]at u1 u2 u3;have gg:Grew (fun x=>N0<=x) S S3:=((a3.mono fun _ _ h=>h.elim).trans ((b3.mono fun _ _ h=>h.elim).trans (c3.mono fun x _ hx=>hx.1))).trans (g3.mono fun x _ hx=>by rw[hx]; exact lob);refine⟨⟨u3,lob,by rw[u2]; omega,by unfold Bx at bx3 ⊢; rw[u1]; exact bx3,.inr ⟨by simp,S1.next,by rw[lAq]; rfl,row3.same u1,by omega,by rw[u2]; omega⟩⟩,⟨by rw[u2]; exact gg.next,by rw[u3,ho],fun x hx hw=>by rw[u1]; exact gg.keep x hx hw⟩⟩
 have hmain:F13 (ev E0 K m) qa3 (.ptr b 0) (.agg 258 t) S=some (.ret (.int .i64 (acc.length:Int)),qbf S0 (S3.lg l13) [[],[],[],[],[],[⟨b,0,1,false⟩],[⟨S.next,0,258,false⟩],[⟨S0.next,0,big,true⟩],l2,[],[],[],l13]):=by
  have hU:=(hreg _ rfl).1;rw[hZ,a1,oB];dsimp only;simp only[qg8,qcn,Nat.add_zero,oB];rw[h0.o0,oB];dsimp only;rw[qb8,ldA_on a2,oB];dsimp only;rw[qb8,onS_lg,b1,oB];dsimp only;rw[qiq,onS_lg,c1,oB];dsimp only;rw[qiq,onS_lg,hlog,oB];dsimp only
  have hp:∀(x:List (List LE)) (k:St->Rs),x=[[],[],[],[],[],[⟨b,0,1,false⟩],[⟨S.next,0,258,false⟩],[⟨S0.next,0,big,true⟩],l2,[],[],[],l13]->qfq [(5,[6,7])] S0 x (S3.lg l13) k=k (qbf S0 (S3.lg l13) [[],[],[],[],[],[⟨b,0,1,false⟩],[⟨S.next,0,258,false⟩],[⟨S0.next,0,big,true⟩],l2,[],[],[],l13]):=fun x k hx=>by
   rw[hx,endP_of (pairs13 (b:=b) (p:=S.next) (x:=S0.next) (by omega) (by omega) l2 l13)]
  rw[hp [[],[],[],[],[],(rd S0 b 0 1).log,(rd S0 S.next 0 258).log,(S1.lg [⟨S0.next,0,big,true⟩]).log,(S2.lg l2).log,[],[],[],(S3.lg l13).log] _ rfl];generalize qbf S0 (S3.lg l13) [[],[],[],[],[],[⟨b,0,1,false⟩],[⟨S.next,0,258,false⟩],[⟨S0.next,0,big,true⟩],l2,[],[],[],l13]=U at hU;rw[hU.l0,oB];dsimp only;rw[hU.steps.len,oB];dsimp only;rw[lAq,binV_ii,intsV_sub,qap (by rw[List.length_singleton]; omega) (by rw[List.length_singleton]; omega),oB,show(((acc.length+[t].length:Nat):Int))-1=(acc.length:Int) by simp]
 exact⟨_,_,qax (c:=C13) (d:=B13) (by kernel_rfl) (by kernel_rfl) (qa7 C13 _ (by kernel_rfl)) h13 hmain,(hreg _ rfl).1,(hreg _ rfl).2⟩
end
end Go.Proofs.Ytachpdpmoihjmaa.W
