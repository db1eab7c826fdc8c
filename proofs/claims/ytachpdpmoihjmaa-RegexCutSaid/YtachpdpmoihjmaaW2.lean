/-
  WHAT THE FUNCTIONS COME TO: each is read by the evaluator,printed,and told as a function of data,part 2 of 12 (no condition).
-/
import Derived.Test.YtachpdpmoihjmaaW1
import Derived.Test.YtachpdpmoihjmaaProg
import Derived.KernelRfl
namespace Go.Proofs.Ytachpdpmoihjmaa.W
open Go.Proofs.Ytachpdpmoihjmaa.Ev
set_option maxRecDepth 100000
noncomputable section
noncomputable def C26:Code:=Try.f26.body.getD .skip
noncomputable def B26:D:=(qc1 C26 [[],[],[],[],[],[],[],[],[],[],[]]).1
noncomputable def F26 (self:EV) (N:Nat) (x0:V) (S:St):Rs:=qj3 E0 self N Try.f26 B26 [x0] S
theorem F26_eq (self:EV) (N:Nat) (x0:V) (S:St):F26 self N x0 S =
(qa2 x0).bind fun t2=>
(faP 3 false 1 t2).bind fun t3=>
(ld1 t3 (onS S)).bind fun p4=>
(qa2 x0).bind fun t6=>
(faP 2 false 1 t6).bind fun t7=>
(ld1 t7 (onS p4.2)).bind fun p8=>
(qbu p8.1 (onS p8.2)).bind fun p9=>
(qa4 E0 .lss 3 false false p4.1 p9.1).bind fun t10=>
qi6 (qao E0 (B26.r.l).ops) S 10 [[],[],[],p4.2.log,[],[],[],p8.2.log,p9.2.log,[]] (self.f 18 [t10] (onS p9.2)) fun t11 S11=>
qfq [(3,[7,8])] S [[],[],[],p4.2.log,[],[],[],p8.2.log,p9.2.log,[],S11.log] S11 fun S12=>
(qa2 x0).bind fun t14=>
(faP 2 false 1 t14).bind fun t15=>
(ld1 t15 (onS S12)).bind fun p16=>
(qa2 x0).bind fun t18=>
(faP 3 false 1 t18).bind fun t19=>
(ld1 t19 (onS p16.2)).bind fun p20=>
(ixS p16.1 p20.1).bind fun t21=>
qfq [(3,[7])] S12 [[],[],[],p16.2.log,[],[],[],p20.2.log,[],[]] (onS p20.2) fun S23=>
(qa2 x0).bind fun t25=>
(faP 3 false 1 t25).bind fun t26=>
(ld1 t26 S23).bind fun p27=>
(qa4 E0 .add 3 false true p27.1 (.int .i64 1)).bind fun t28=>
(qa2 x0).bind fun t29=>
(faP 3 false 1 t29).bind fun t30=>
(stP 1 t30 t28 p27.2).bind fun p31=>
(qa4 E0 .eql 5 false true t21 (.int .u8 40)).bind fun t33=>
ifK t33 (
qad (self.f 32 [x0] p31.2) fun t36 S36=>
some (.ret t36,S36)) (
(qa4 E0 .eql 5 false true t21 (.int .u8 110)).bind fun t39=>
ifK t39 (
qad (self.f 27 [x0,(.int .u8 10)] p31.2) fun t42 S42=>
some (.ret t42,S42)) (
qad (self.f 31 [(sv [46,42,91,93,94,36,47,92]),t21] p31.2) fun t45 S45=>
(qa4 E0 .geq 3 false true t45 (.int .i64 0)).bind fun t46=>
qad (self.f 18 [t46] S45) fun t47 S47=>
qad (self.f 27 [x0,t21] S47) fun t50 S50=>
some (.ret t50,S50))):=by kernel_rfl
noncomputable def C17:Code:=Try.f17.body.getD .skip
noncomputable def B17:D:=(qc1 C17 [[],[],[],[],[],[],[],[],[],[],[],[],[],[],[],[],[],[]]).1
noncomputable def F17 (self:EV) (N:Nat) (x0:V) (S:St):Rs:=qj3 E0 self N Try.f17 B17 [x0] S
theorem F17_eq (self:EV) (N:Nat) (x0:V) (S:St):F17 self N x0 S =
(qa2 x0).bind fun t3=>
(faP 2 false 1 t3).bind fun t4=>
(ld1 t4 (onS S)).bind fun p5=>
(qa2 x0).bind fun t7=>
(faP 3 false 1 t7).bind fun t8=>
(ld1 t8 (onS p5.2)).bind fun p9=>
(ixS p5.1 p9.1).bind fun t10=>
(qa2 x0).bind fun t12=>
(faP 5 false 1 t12).bind fun t13=>
(ld1 t13 (onS p9.2)).bind fun p14=>
qfq [(3,[7,12]),(7,[12])] S [[],[],[],p5.2.log,[],[],[],p9.2.log,[],[],[],[],p14.2.log,[],[]] (onS p14.2) fun S17=>
(qa2 x0).bind fun t19=>
(faP 3 false 1 t19).bind fun t20=>
(ld1 t20 S17).bind fun p21=>
(qa4 E0 .add 3 false true p21.1 (.int .i64 1)).bind fun t22=>
(qa2 x0).bind fun t23=>
(faP 3 false 1 t23).bind fun t24=>
(stP 1 t24 t22 p21.2).bind fun p25=>
(qa2 x0).bind fun t27=>
(faP 5 false 1 t27).bind fun t28=>
(stP 1 t28 (.bool false) p25.2).bind fun p29=>
(qa4 E0 .eql 5 false true t10 (.int .u8 94)).bind fun t31=>
(qa1 true t31).bind fun g33=>(bif g33 then some p14.1 else some (.tuple [])).bind fun t33=>
(qah t31 (some t33) (some (.bool false))).bind fun t34=>
ifK t34 (
(qau E0 50 [(1,(.int .i64 1))]).bind fun t37=>
qad (self.f 13 [x0,t37] p29.2) fun t38 S38=>
qad (self.f 16 [x0,(sv [42])] S38) fun t41 S41=>
(qa2 x0).bind fun t42=>
(faP 5 false 1 t42).bind fun t43=>
(stP 1 t43 t41 S41).bind fun p44=>
some (.ret (.tuple [(.bool true),(.bool false)]),p44.2)) (
(qa4 E0 .eql 5 false true t10 (.int .u8 36)).bind fun t48=>
(qa1 true t48).bind fun g50=>(bif g50 then some x0 else some (.tuple [])).bind fun t50=>
(qa1 true t48).bind fun g51=>(bif g51 then qa2 t50 else some (.tuple [])).bind fun t51=>
(qa1 true t48).bind fun g52=>(bif g52 then faP 3 false 1 t51 else some (.tuple [])).bind fun t52=>
(qa1 true t48).bind fun g53=>(bif g53 then ld1 t52 (onS p29.2)else some (.tuple [],(onS p29.2))).bind fun p53=>
(qa1 true t48).bind fun g54=>(bif g54 then some x0 else some (.tuple [])).bind fun t54=>
(qa1 true t48).bind fun g55=>(bif g55 then qa2 t54 else some (.tuple [])).bind fun t55=>
(qa1 true t48).bind fun g56=>(bif g56 then faP 2 false 1 t55 else some (.tuple [])).bind fun t56=>
(qa1 true t48).bind fun g57=>(bif g57 then ld1 t56 (onS p53.2)else some (.tuple [],(onS p53.2))).bind fun p57=>
(qa1 true t48).bind fun g58=>(bif g58 then qbu p57.1 (onS p57.2)else some (.tuple [],(onS p57.2))).bind fun p58=>
(qa1 true t48).bind fun g59=>(bif g59 then qa4 E0 .eql 3 false false p53.1 p58.1 else some (.tuple [])).bind fun t59=>
(qa1 true t48).bind fun g60=>(bif g60 then some t59 else some (.tuple [])).bind fun t60=>
(qa1 false t60).bind fun g61=>(bif g61 then some x0 else some (.tuple [])).bind fun t61=>
(qa1 false t60).bind fun g62=>(bif g62 then qa2 t61 else some (.tuple [])).bind fun t62=>
(qa1 false t60).bind fun g63=>(bif g63 then faP 4 false 1 t62 else some (.tuple [])).bind fun t63=>
(qa1 false t60).bind fun g64=>(bif g64 then ld1 t63 (onS p58.2)else some (.tuple [],(onS p58.2))).bind fun p64=>
(qa1 false t60).bind fun g65=>(bif g65 then qa4 E0 .gtr 3 false true p64.1 (.int .i64 0)else some (.tuple [])).bind fun t65=>
(qa1 false t60).bind fun g66=>(bif g66 then some t65 else some (.tuple [])).bind fun t66=>
(qa1 true t66).bind fun g67=>(bif g67 then some x0 else some (.tuple [])).bind fun t67=>
(qa1 true t66).bind fun g68=>qi6 (qao E0 (B17.r.r.r.r.l.l.r.r.l).ops) p29.2 21 [[],[],[],[],[],[],p53.2.log,[],[],[],p57.2.log,p58.2.log,[],[],[],[],[],p64.2.log,[],[],[]] (bif g68 then self.f 16 [t67,(sv [92,41])] (onS p64.2)else some (.ret (.tuple []),(onS p64.2))) fun t68 S68=>
(qa1 false t60).bind fun g69=>(bif g69 then qah t66 (some t68) (some (.bool false))else some (.tuple [])).bind fun t69=>
(qa1 true t48).bind fun g70=>(bif g70 then qah t60 (some (.bool true)) (some t69)else some (.tuple [])).bind fun t70=>
(qah t48 (some t70) (some (.bool false))).bind fun t71=>
qfq [(6,[10,11])] p29.2 [[],[],[],[],[],[],p53.2.log,[],[],[],p57.2.log,p58.2.log,[],[],[],[],[],p64.2.log,[],[],[],S68.log,[],[],[],[]] (onS S68) fun S73=>
ifK t71 (
(qau E0 50 [(1,(.int .i64 2))]).bind fun t75=>
qad (self.f 13 [x0,t75] S73) fun t76 S76=>
some (.ret (.tuple [(.bool true),(.bool false)]),S76)) (
(qkg E0 67 none S73).bind fun p79=>
(vu (qcp E0 67 p79.1 (.int .u8 46) (.fn (.func 24) [x0] []) p79.2)).bind fun p82=>
(vu (qcp E0 67 p79.1 (.int .u8 91) (.fn (.func 25) [x0] []) p82.2)).bind fun p85=>
(vu (qcp E0 67 p79.1 (.int .u8 92) (.fn (.func 26) [x0] []) p85.2)).bind fun p88=>
(qeq E0 67 p79.1 t10 true p88.2).bind fun p91=>
(qaj p91.1 0).bind fun t93=>
(qaj p91.1 1).bind fun t94=>
ifK t94 (
qad (qla E0 self t93 [] p91.2) fun t99 S99=>
some (.ret (.tuple [t99,(.bool true)]),S99)) (
(qa4 E0 .neq 5 false true t10 (.int .u8 42)).bind fun t103=>
(qa1 false t103).bind fun g105=>(bif g105 then some p14.1 else some (.tuple [])).bind fun t105=>
(qah t103 (some (.bool true)) (some t105)).bind fun t106=>
qad (self.f 18 [t106] p91.2) fun t107 S107=>
qad (self.f 27 [x0,t10] S107) fun t110 S110=>
some (.ret (.tuple [t110,(.bool true)]),S110)))):=by kernel_rfl
noncomputable def C12:Code:=Try.f12.body.getD .skip
noncomputable def B12:D:=(qc1 C12 [[],[],[],[0,3],[],[0,3],[],[],[],[],[],[],[],[],[0,0,3],[2],[],[]]).1
noncomputable def RL12:List Nat:=cellsOf Try.f12.results.toList
noncomputable def qfp (self:EV) (N:Nat) (nk:Ac->St->Rs) (ek:Nat->Ac->St->Rs) (a:Ac) (S:St):Rs:=qa6 [0,3] a fun a=>dr E0 self RL12 N (B12.r.r.r).r (mkK E0 self Try.f12 nk ek) a S
theorem R12_6_eq (self:EV) (N:Nat) (nk:Ac->St->Rs) (ek:Nat->Ac->St->Rs) ( v0 v3:V) (S:St):qfp self N nk ek (fr 74 [(0,v0),(3,v3)]) S =
(qa2 v0).bind fun t8=>
(faP 5 false 1 t8).bind fun t9=>
(stP 1 t9 (.bool false) S).bind fun p10=>
some (.ret v3,p10.2):=by kernel_rfl
noncomputable def qe0 (self:EV) (N:Nat) (nk:Ac->St->Rs) (ek:Nat->Ac->St->Rs) (n:Nat) ( v0 v3:V) (S:St):Rs:=qc8 [0,3] (dr E0 self RL12 N (B12.r.r.r.l.l.l)) (mkK E0 self Try.f12 nk ek) n (fr 74 [(0,v0),(3,v3)]) S
theorem L12_13_eq (self:EV) (N:Nat) (nk:Ac->St->Rs) (ek:Nat->Ac->St->Rs) (n:Nat) ( v0 v3:V) (S:St):qe0 self N nk ek (n+1) v0 v3 S =
(qa2 v0).bind fun t15=>
(faP 3 false 1 t15).bind fun t16=>
(ld1 t16 (onS S)).bind fun p17=>
(qa2 v0).bind fun t19=>
(faP 2 false 1 t19).bind fun t20=>
(ld1 t20 (onS p17.2)).bind fun p21=>
(qbu p21.1 (onS p21.2)).bind fun p22=>
(qa4 E0 .lss 3 false false p17.1 p22.1).bind fun t23=>
(qa1 true t23).bind fun g25=>(bif g25 then some v0 else some (.tuple [])).bind fun t25=>
(qa1 true t23).bind fun g26=>(bif g26 then qa2 t25 else some (.tuple [])).bind fun t26=>
(qa1 true t23).bind fun g27=>(bif g27 then faP 4 false 1 t26 else some (.tuple [])).bind fun t27=>
(qa1 true t23).bind fun g28=>(bif g28 then ld1 t27 (onS p22.2)else some (.tuple [],(onS p22.2))).bind fun p28=>
(qa1 true t23).bind fun g29=>(bif g29 then qa4 E0 .eql 3 false true p28.1 (.int .i64 0)else some (.tuple [])).bind fun t29=>
(qa1 true t23).bind fun g30=>(bif g30 then some t29 else some (.tuple [])).bind fun t30=>
(qa1 false t30).bind fun g31=>(bif g31 then some v0 else some (.tuple [])).bind fun t31=>
(qa1 false t30).bind fun g32=>qi6 (qao E0 (B12.r.r.r.l.l.l.l.l).ops) S 18 [[],[],[],p17.2.log,[],[],[],p21.2.log,p22.2.log,[],[],[],[],[],p28.2.log,[],[],[]] (bif g32 then self.f 16 [t31,(sv [92,41])] (onS p28.2)else some (.ret (.tuple []),(onS p28.2))) fun t32 S32=>
(qa1 false t30).bind fun g33=>(bif g33 then unV .not t32 else some (.tuple [])).bind fun t33=>
(qa1 true t23).bind fun g34=>(bif g34 then qah t30 (some (.bool true)) (some t33)else some (.tuple [])).bind fun t34=>
(qah t23 (some t34) (some (.bool false))).bind fun t35=>
qfq [(3,[7,8])] S [[],[],[],p17.2.log,[],[],[],p21.2.log,p22.2.log,[],[],[],[],[],p28.2.log,[],[],[],S32.log,[],[],[]] (onS S32) fun S36=>
ifK t35 (
(qa2 v0).bind fun t38=>
(faP 0 true 2 t38).bind fun t39=>
(faP 0 false 1 t39).bind fun t40=>
(ld1 t40 S36).bind fun p41=>
(lnS p41.1 p41.2).bind fun p42=>
qad (self.f 17 [v0] p42.2) fun t45 S45=>
(qaj t45 0).bind fun t47=>
(qaj t45 1).bind fun t48=>
(qa1 true t48).bind fun g53=>(bif g53 then some v0 else some (.tuple [])).bind fun t53=>
(qa1 true t48).bind fun g54=>qad (bif g54 then self.f 16 [t53,(sv [42])] S45 else some (.ret (.tuple []),S45)) fun t54 S54=>
(qah t48 (some t54) (some (.bool false))).bind fun t55=>
ifK t55 (
(qa2 v0).bind fun t57=>
(faP 3 false 1 t57).bind fun t58=>
(ld1 t58 S54).bind fun p59=>
(qa4 E0 .add 3 false true p59.1 (.int .i64 1)).bind fun t60=>
(qa2 v0).bind fun t61=>
(faP 3 false 1 t61).bind fun t62=>
(stP 1 t62 t60 p59.2).bind fun p63=>
(unV .not t47).bind fun t65=>
(qa1 true t65).bind fun g67=>(bif g67 then some v0 else some (.tuple [])).bind fun t67=>
(qa1 true t65).bind fun g68=>qad (bif g68 then self.f 16 [t67,(sv [42])] p63.2 else some (.ret (.tuple []),p63.2)) fun t68 S68=>
(qa1 true t65).bind fun g69=>(bif g69 then unV .not t68 else some (.tuple [])).bind fun t69=>
(qah t65 (some t69) (some (.bool false))).bind fun t70=>
qad (self.f 18 [t70] S68) fun t71 S71=>
qad (self.f 19 [v0,p42.1] S71) fun t74 S74=>
(qa1 true v3).bind fun g78=>(bif g78 then some (.bool true)else some (.tuple [])).bind fun t78=>
(qah v3 (some t78) (some (.bool false))).bind fun t79=>
qe0 self N nk ek n v0 t79 S74) (
(qa1 true v3).bind fun g83=>(bif g83 then some t47 else some (.tuple [])).bind fun t83=>
(qah v3 (some t83) (some (.bool false))).bind fun t84=>
qe0 self N nk ek n v0 t84 S54)) (
ek 0 (fr 74 [(0,v0),(3,v3)]) S36):=by kernel_rfl
noncomputable def F12 (self:EV) (N:Nat) (x0:V) (S:St):Rs:=qj3 E0 self N Try.f12 B12 [x0] S
theorem F12_eq (self:EV) (N:Nat) (x0:V) (S:St):F12 self N x0 S =
(qa2 x0).bind fun t3=>
(faP 5 false 1 t3).bind fun t4=>
(stP 1 t4 (.bool true) S).bind fun p5=>
qe0 self N (qfp self N (qbg E0 self Try.f12) qav) (exB 0 (qfp self N (qbg E0 self Try.f12) qav) qav) N x0 (.bool true) p5.2:=by kernel_rfl
end
noncomputable section
noncomputable def C6:Code:=Try.f6.body.getD .skip
noncomputable def B6:D:=(qc1 C6 [[],[],[],[],[],[],[],[],[]]).1
noncomputable def F6 (self:EV) (N:Nat) (x0:V) (S:St):Rs:=qj3 E0 self N Try.f6 B6 [x0] S
theorem F6_eq (self:EV) (N:Nat) (x0:V) (S:St):F6 self N x0 S =
(some (nwP 22 1 (Ev.one .nilptr) S)).bind fun p0=>
(some (nwP 23 1 (Ev.one (.int .i64 0)) p0.2)).bind fun p1=>
(qbu x0 p1.2).bind fun p3=>
(qa4 E0 .gtr 3 false true p3.1 (.int .i64 255)).bind fun t4=>
ifK t4 (
(stP 1 p0.1 .nilptr p3.2).bind fun p5=>
(stP 1 p1.1 (.int .i64 3) p5.2).bind fun p6=>
(ldr1 p0.1 p6.2).bind fun p7=>
(ldr1 p1.1 p7.2).bind fun p8=>
some (.ret (.tuple [p7.1,p8.1]),p8.2)) (
(qau E0 44 [(1,x0)]).bind fun t12=>
(boxK 44 t12 p3.2).bind fun p13=>
callPF E0 self Try.f6 (frD 20 [(0,x0),(2,p0.1),(3,p1.1),(4,p13.1),(5,x0),(6,p3.1),(7,t4),(8,(.fn (.func 11) [] [p0.1,p1.1])),(9,x0),(10,t12),(11,p13.1),(12,p13.1)] (adOf (.fn (.func 11) [] [p0.1,p1.1]) []::[])) (self.f 12 [p13.1] p13.2) fun t16 S16=>
(qau E0 50 [(1,(.int .i64 6))]).bind fun t18=>
callPF E0 self Try.f6 (frD 20 [(0,x0),(2,p0.1),(3,p1.1),(4,p13.1),(5,x0),(6,p3.1),(7,t4),(8,(.fn (.func 11) [] [p0.1,p1.1])),(9,x0),(10,t12),(11,p13.1),(12,p13.1),(13,t16),(14,p13.1),(15,t18)] (adOf (.fn (.func 11) [] [p0.1,p1.1]) []::[])) (self.f 13 [p13.1,t18] S16) fun t19 S19=>
(qa2 p13.1).bind fun t21=>
(faP 0 true 2 t21).bind fun t22=>
(stP 1 p0.1 t22 S19).bind fun p23=>
(stP 1 p1.1 (.int .i64 0) p23.2).bind fun p24=>
finR E0 self Try.f6 (frD 20 [(0,x0),(2,p0.1),(3,p1.1),(4,p13.1),(5,x0),(6,p3.1),(7,t4),(8,(.fn (.func 11) [] [p0.1,p1.1])),(9,x0),(10,t12),(11,p13.1),(12,p13.1),(13,t16),(14,p13.1),(15,t18),(16,t19),(17,p13.1),(18,t21),(19,t22)] (adOf (.fn (.func 11) [] [p0.1,p1.1]) []::[])) p24.2):=by kernel_rfl
theorem E11r (self:EV) (fn:Func) (a:Ac) (ds:List AD) (x0 x1:V) (S:St):lvK E0 self fn a (ad 11 [] [x0,x1]::ds) .ret S =
(qa4 E0 .neq 20 false true .niliface .niliface).bind fun t3=>
(ifK t3 (
(ql3 E0 37 true .niliface).bind fun t5=>
(qaj t5 0).bind fun t7=>
(qaj t5 1).bind fun t8=>
(some (nwP 37 0 (Tr.ofListFrom .nil [] 0) S)).bind fun p9=>
(stP 0 p9.1 t7 p9.2).bind fun p10=>
(unV .not t8).bind fun t13=>
(ifK t13 (
callE (qmf .niliface p10.2) fun t15 S15=>
(stP 1 x0 .nilptr S15).bind fun p16=>
(stP 1 x1 (.int .i64 4) p16.2).bind fun p17=>
lvK E0 self fn a ds .ret p17.2) (
(stP 1 x0 .nilptr p10.2).bind fun p18=>
(stP 1 x1 (.int .i64 4) p18.2).bind fun p19=>
lvK E0 self fn a ds .ret p19.2))) (
lvK E0 self fn a ds .ret S)):=by kernel_rfl
theorem E11p (self:EV) (fn:Func) (a:Ac) (ds:List AD) (x0 x1:V) (v:V) (S:St):lvK E0 self fn a (ad 11 [] [x0,x1]::ds) (.pan v) S =
(qa4 E0 .neq 20 false true v .niliface).bind fun t3=>
(ifK t3 (
(ql3 E0 37 true v).bind fun t5=>
(qaj t5 0).bind fun t7=>
(qaj t5 1).bind fun t8=>
(some (nwP 37 0 (Tr.ofListFrom .nil [] 0) S)).bind fun p9=>
(stP 0 p9.1 t7 p9.2).bind fun p10=>
(unV .not t8).bind fun t13=>
(ifK t13 (
callE (qmf v p10.2) fun t15 S15=>
(stP 1 x0 .nilptr S15).bind fun p16=>
(stP 1 x1 (.int .i64 4) p16.2).bind fun p17=>
lvK E0 self fn a ds .ret p17.2) (
(stP 1 x0 .nilptr p10.2).bind fun p18=>
(stP 1 x1 (.int .i64 4) p18.2).bind fun p19=>
lvK E0 self fn a ds .ret p19.2))) (
lvK E0 self fn a ds .ret S)):=by kernel_rfl
end
noncomputable section
noncomputable def C28:Code:=Try.f28.body.getD .skip
noncomputable def B28:D:=(qc1 C28 [[],[],[],[],[],[],[],[],[],[],[],[],[],[],[],[],[0,1],[8],[]]).1
noncomputable def F28 (self:EV) (N:Nat) (x0 x1 x2 x3:V) (S:St):Rs:=qj3 E0 self N Try.f28 B28 [x0,x1,x2,x3] S
theorem F28_eq (self:EV) (N:Nat) (x0 x1 x2 x3:V) (S:St):F28 self N x0 x1 x2 x3 S =
(qa2 x0).bind fun t2=>
(faP 0 false 1 t2).bind fun t3=>
(ld1 t3 S).bind fun p4=>
(ixP 258 p4.1 x1).bind fun t6=>
(ldA 258 t6 p4.2).bind fun p7=>
(some (nwP 50 258 (Tr.ofListFrom .nil [(.bool false),(.bool false),(.bool false),(.bool false),(.bool false),(.bool false),(.bool false),(.bool false),(.bool false),(.bool false),(.bool false),(.bool false),(.bool false),(.bool false),(.bool false),(.bool false),(.bool false),(.bool false),(.bool false),(.bool false),(.bool false),(.bool false),(.bool false),(.bool false),(.bool false),(.bool false),(.bool false),(.bool false),(.bool false),(.bool false),(.bool false),(.bool false),(.bool false),(.bool false),(.bool false),(.bool false),(.bool false),(.bool false),(.bool false),(.bool false),(.bool false),(.bool false),(.bool false),(.bool false),(.bool false),(.bool false),(.bool false),(.bool false),(.bool false),(.bool false),(.bool false),(.bool false),(.bool false),(.bool false),(.bool false),(.bool false),(.bool false),(.bool false),(.bool false),(.bool false),(.bool false),(.bool false),(.bool false),(.bool false),(.bool false),(.bool false),(.bool false),(.bool false),(.bool false),(.bool false),(.bool false),(.bool false),(.bool false),(.bool false),(.bool false),(.bool false),(.bool false),(.bool false),(.bool false),(.bool false),(.bool false),(.bool false),(.bool false),(.bool false),(.bool false),(.bool false),(.bool false),(.bool false),(.bool false),(.bool false),(.bool false),(.bool false),(.bool false),(.bool false),(.bool false),(.bool false),(.bool false),(.bool false),(.bool false),(.bool false),(.bool false),(.bool false),(.bool false),(.bool false),(.bool false),(.bool false),(.bool false),(.bool false),(.bool false),(.bool false),(.bool false),(.bool false),(.bool false),(.bool false),(.bool false),(.bool false),(.bool false),(.bool false),(.bool false),(.bool false),(.bool false),(.bool false),(.bool false),(.bool false),(.bool false),(.bool false),(.bool false),(.bool false),(.bool false),(.bool false),(.bool false),(.bool false),(.bool false),(.bool false),(.bool false),(.bool false),(.bool false),(.bool false),(.bool false),(.bool false),(.bool false),(.bool false),(.bool false),(.bool false),(.bool false),(.bool false),(.bool false),(.bool false),(.bool false),(.bool false),(.bool false),(.bool false),(.bool false),(.bool false),(.bool false),(.bool false),(.bool false),(.bool false),(.bool false),(.bool false),(.bool false),(.bool false),(.bool false),(.bool false),(.bool false),(.bool false),(.bool false),(.bool false),(.bool false),(.bool false),(.bool false),(.bool false),(.bool false),(.bool false),(.bool false),(.bool false),(.bool false),(.bool false),(.bool false),(.bool false),(.bool false),(.bool false),(.bool false),(.bool false),(.bool false),(.bool false),(.bool false),(.bool false),(.bool false),(.bool false),(.bool false),(.bool false),(.bool false),(.bool false),(.bool false),(.bool false),(.bool false),(.bool false),(.bool false),(.bool false),(.bool false),(.bool false),(.bool false),(.bool false),(.bool false),(.bool false),(.bool false),(.bool false),(.bool false),(.bool false),(.bool false),(.bool false),(.bool false),(.bool false),(.bool false),(.bool false),(.bool false),(.bool false),(.bool false),(.bool false),(.bool false),(.bool false),(.bool false),(.bool false),(.bool false),(.bool false),(.bool false),(.bool false),(.bool false),(.bool false),(.bool false),(.bool false),(.bool false),(.bool false),(.bool false),(.bool false),(.bool false),(.bool false),(.bool false),(.bool false),(.bool false),(.bool false),(.bool false),(.bool false),(.bool false),(.bool false),(.bool false),(.bool false),(.bool false),(.bool false),(.bool false),(.bool false),(.bool false),(.bool false),(.bool false),(.bool false),(.int .i64 0),(.int .i64 0)] 0) p7.2)).bind fun p8=>
(stP 258 p8.1 p7.1 p8.2).bind fun p9=>
(faP 256 false 1 p8.1).bind fun t10=>
(ld1 t10 p9.2).bind fun p11=>
(qa4 E0 .eql 3 false true p11.1 (.int .i64 1)).bind fun t12=>
ifK t12 (
(qa4 E0 .gtr 3 false true x2 (.int .i64 0)).bind fun t15=>
ifK t15 (
some (.ret .nilslice,p11.2)) (
(qa4 E0 .add 3 false true x1 (.int .i64 1)).bind fun t18=>
(bsP 3 1 1 (Ev.one (.int .i64 0)) [(0,t18)] p11.2).bind fun p19=>
some (.ret p19.1,p19.2))) (
(qa4 E0 .eql 3 false true p11.1 (.int .i64 2)).bind fun t21=>
ifK t21 (
(qa4 E0 .lss 3 false false x2 x3).bind fun t25=>
ifK t25 (
some (.ret .nilslice,p11.2)) (
(qa4 E0 .add 3 false true x1 (.int .i64 1)).bind fun t28=>
(bsP 3 1 1 (Ev.one (.int .i64 0)) [(0,t28)] p11.2).bind fun p29=>
some (.ret p29.1,p29.2))) (
(qa4 E0 .eql 3 false true p11.1 (.int .i64 3)).bind fun t31=>
ifK t31 (
(qa4 E0 .add 3 false true x1 (.int .i64 1)).bind fun t34=>
(faP 257 false 1 p8.1).bind fun t35=>
(ld1 t35 p11.2).bind fun p36=>
(bsP 3 1 2 (Ev.one (.int .i64 0)) [(0,t34),(1,p36.1)] p36.2).bind fun p37=>
some (.ret p37.1,p37.2)) (
(qa4 E0 .eql 3 false true p11.1 (.int .i64 4)).bind fun t39=>
ifK t39 (
(faP 257 false 1 p8.1).bind fun t41=>
(ld1 t41 p11.2).bind fun p42=>
(bsP 3 1 1 (Ev.one (.int .i64 0)) [(0,p42.1)] p42.2).bind fun p43=>
some (.ret p43.1,p43.2)) (
(qa4 E0 .eql 3 false true p11.1 (.int .i64 0)).bind fun t45=>
ifK t45 (
ifK t45 (
some (.ret .nilslice,p11.2)) (
(qa4 E0 .add 3 false true x1 (.int .i64 1)).bind fun t49=>
(bsP 3 1 1 (Ev.one (.int .i64 0)) [(0,t49)] p11.2).bind fun p50=>
some (.ret p50.1,p50.2))) (
(qa4 E0 .eql 3 false true p11.1 (.int .i64 6)).bind fun t52=>
ifK t52 (
some (.ret .nilslice,p11.2)) (
(qa4 E0 .add 3 false true x1 (.int .i64 1)).bind fun t56=>
(bsP 3 1 1 (Ev.one (.int .i64 0)) [(0,t56)] p11.2).bind fun p57=>
some (.ret p57.1,p57.2))))))):=by kernel_rfl
noncomputable def C21:Code:=Try.f21.body.getD .skip
noncomputable def B21:D:=(qc1 C21 [[],[],[],[],[0,1,3,4,5,35,36,37],[],[],[],[],[]]).1
noncomputable def RL21:List Nat:=cellsOf Try.f21.results.toList
noncomputable def L21_25 (self:EV) (N:Nat) (nk:Ac->St->Rs) (ek:Nat->Ac->St->Rs) (n:Nat) ( v0 v1 v3 v4 v5 v35 v36 v37:V) (S:St):Rs:=qc8 [0,1,3,4,5,35,36,37] (dr E0 self RL21 N (B21.r.r.r.l.l)) (mkK E0 self Try.f21 nk ek) n (fr 49 [(0,v0),(1,v1),(3,v3),(4,v4),(5,v5),(35,v35),(36,v36),(37,v37)]) S
theorem qkt (self:EV) (N:Nat) (nk:Ac->St->Rs) (ek:Nat->Ac->St->Rs) (n:Nat) ( v0 v1 v3 v4 v5 v35 v36 v37:V) (S:St):L21_25 self N nk ek (n+1) v0 v1 v3 v4 v5 v35 v36 v37 S =
(qa4 E0 .lss 3 false false v37 v36).bind fun t26=>
ifK t26 (
(ixP 1 v35 v37).bind fun t27=>
(ld1 t27 S).bind fun p28=>
qad (self.f 21 [v0,v1,p28.1,v3,v4,v5] p28.2) fun t36 S36=>
(qa4 E0 .add 3 false true v37 (.int .i64 1)).bind fun t37=>
L21_25 self N nk ek n v0 v1 v3 v4 v5 v35 v36 t37 S36) (
ek 0 (fr 49 []) S):=by kernel_rfl
noncomputable def F21 (self:EV) (N:Nat) (x0 x1 x2 x3 x4 x5:V) (S:St):Rs:=qj3 E0 self N Try.f21 B21 [x0,x1,x2,x3,x4,x5] S
theorem F21_eq (self:EV) (N:Nat) (x0 x1 x2 x3 x4 x5:V) (S:St):F21 self N x0 x1 x2 x3 x4 x5 S =
(ixP 1 x1 x2).bind fun t2=>
(ld1 t2 S).bind fun p3=>
(qa4 E0 .geq 3 false true p3.1 (.int .i64 0)).bind fun t4=>
(qa1 true t4).bind fun g6=>(bif g6 then some x1 else some (.tuple [])).bind fun t6=>
(qa1 true t4).bind fun g7=>(bif g7 then some x2 else some (.tuple [])).bind fun t7=>
(qa1 true t4).bind fun g8=>(bif g8 then ixP 1 t6 t7 else some (.tuple [])).bind fun t8=>
(qa1 true t4).bind fun g9=>(bif g9 then ld1 t8 p3.2 else some (.tuple [],p3.2)).bind fun p9=>
(qa1 true t4).bind fun g10=>(bif g10 then some x3 else some (.tuple [])).bind fun t10=>
(qa1 true t4).bind fun g11=>(bif g11 then qa4 E0 .leq 3 false false p9.1 t10 else some (.tuple [])).bind fun t11=>
(qah t4 (some t11) (some (.bool false))).bind fun t12=>
ifK t12 (
some (.ret (.tuple []),p9.2)) (
(ixP 1 x1 x2).bind fun t16=>
(stP 1 t16 x3 p9.2).bind fun p17=>
qad (self.f 28 [x0,x2,x4,x5] p17.2) fun t22 S22=>
(lnS t22 S22).bind fun p23=>
L21_25 self N (qbg E0 self Try.f21) (exB 0 (qbg E0 self Try.f21) qav) N x0 x1 x3 x4 x5 t22 p23.1 (.int .i64 0) p23.2):=by kernel_rfl
noncomputable def C20:Code:=Try.f20.body.getD .skip
noncomputable def B20:D:=(qc1 C20 [[],[],[],[3,12,13],[],[3],[],[],[],[0,3],[2],[]]).1
noncomputable def RL20:List Nat:=cellsOf Try.f20.results.toList
noncomputable def R20_8 (self:EV) (N:Nat) (nk:Ac->St->Rs) (ek:Nat->Ac->St->Rs) (a:Ac) (S:St):Rs:=qa6 [3] a fun a=>dr E0 self RL20 N (B20.r.r).r (mkK E0 self Try.f20 nk ek) a S
theorem R20_8_eq (self:EV) (N:Nat) (nk:Ac->St->Rs) (ek:Nat->Ac->St->Rs) ( v3:V) (S:St):R20_8 self N nk ek (fr 21 [(3,v3)]) S =
some (.ret v3,S):=by kernel_rfl
noncomputable def L20_14 (self:EV) (N:Nat) (nk:Ac->St->Rs) (ek:Nat->Ac->St->Rs) (n:Nat) ( v3 v12 v13:V) (S:St):Rs:=qc8 [3,12,13] (dr E0 self RL20 N (B20.r.r.l.r.l.l)) (mkK E0 self Try.f20 nk ek) n (fr 21 [(3,v3),(12,v12),(13,v13)]) S
theorem L20_14_eq (self:EV) (N:Nat) (nk:Ac->St->Rs) (ek:Nat->Ac->St->Rs) (n:Nat) ( v3 v12 v13:V) (S:St):L20_14 self N nk ek (n+1) v3 v12 v13 S =
(qa4 E0 .lss 3 false false v13 v12).bind fun t15=>
ifK t15 (
(ixP 1 v3 v13).bind fun t20=>
(stP 1 t20 (.int .i64 (-1)) S).bind fun p21=>
(qa4 E0 .add 3 false true v13 (.int .i64 1)).bind fun t22=>
L20_14 self N nk ek n v3 v12 t22 p21.2) (
ek 0 (fr 21 [(3,v3)]) S):=by kernel_rfl
noncomputable def F20 (self:EV) (N:Nat) (x0:V) (S:St):Rs:=qj3 E0 self N Try.f20 B20 [x0] S
theorem F20_eq (self:EV) (N:Nat) (x0:V) (S:St):F20 self N x0 S =
(qa2 x0).bind fun t2=>
(faP 0 false 1 t2).bind fun t3=>
(ld1 t3 S).bind fun p4=>
(lnS p4.1 p4.2).bind fun p5=>
(qb5 E0 60 p5.1 p5.1 p5.2).bind fun p6=>
(lnS p6.1 p6.2).bind fun p12=>
L20_14 self N (R20_8 self N (qbg E0 self Try.f20) qav) (exB 0 (R20_8 self N (qbg E0 self Try.f20) qav) qav) N p6.1 p12.1 (.int .i64 0) p12.2:=by kernel_rfl
end
noncomputable section
noncomputable def C14:Code:=Try.f14.body.getD .skip
noncomputable def B14:D:=(qc1 C14 [[],[],[],[0,1,6,7,8,9],[],[6,7],[],[],[0,0,1,6,7,8,9],[0,1,6,7,8,9],[],[],[0,0,1,6,7,8,9],[0,1,6,7,8,9],[],[6,7],[],[],[],[0,1,6,7,9,11,12,65,66,67],[],[0,1,6,7,9,11,12],[],[],[],[],[],[0,0,1,6,7,9,11,12],[0,1,6,7,8,9],[],[6,7],[],[0,0,1,6,7,8,9],[0,1,6,7,8,9],[0,6,7],[6,7],[]]).1
noncomputable def RL14:List Nat:=cellsOf Try.f14.results.toList
noncomputable def R14_5 (self:EV) (N:Nat) (nk:Ac->St->Rs) (ek:Nat->Ac->St->Rs) (a:Ac) (S:St):Rs:=qa6 [6,7] a fun a=>dr E0 self RL14 N (B14.r.r).r (mkK E0 self Try.f14 nk ek) a S
theorem R14_5_eq (self:EV) (N:Nat) (nk:Ac->St->Rs) (ek:Nat->Ac->St->Rs) ( v6 v7:V) (S:St):R14_5 self N nk ek (fr 116 [(6,v6),(7,v7)]) S =
(ldA 2 v6 S).bind fun p6=>
(stP 2 v6 p6.1 p6.2).bind fun p8=>
(ldrA 2 v6 p8.2).bind fun p10=>
some (.ret (.tuple [p10.1,v7]),p10.2):=by kernel_rfl
noncomputable def qb0 (self:EV) (N:Nat) (nk:Ac->St->Rs) (ek:Nat->Ac->St->Rs) (n:Nat):Ac->St->Rs:=fun a S=>qa6 [0,1,6,7,8,9] a fun a=>qc8 [0,1,6,7,8,9] (dr E0 self RL14 N (B14.r.r.l.r.l.l)) (mkK E0 self Try.f14 nk ek) n a S
noncomputable def qkr (self:EV) (N:Nat) (nk:Ac->St->Rs) (ek:Nat->Ac->St->Rs) (n:Nat) ( v0 v1 v6 v7 v8 v9:V) (S:St):Rs:=qc8 [0,1,6,7,8,9] (dr E0 self RL14 N (B14.r.r.l.r.l.l)) (mkK E0 self Try.f14 nk ek) n (fr 116 [(0,v0),(1,v1),(6,v6),(7,v7),(8,v8),(9,v9)]) S
noncomputable def qb1 (self:EV) (N:Nat) (nk:Ac->St->Rs) (ek:Nat->Ac->St->Rs) (a:Ac) (S:St):Rs:=qa6 [0,1,6,7,8,9] a fun a=>dr E0 self RL14 N (B14.r.r.l.r.l.l.r).r (mkK E0 self Try.f14 nk ek) a S
theorem R14_18_eq (self:EV) (N:Nat) (nk:Ac->St->Rs) (ek:Nat->Ac->St->Rs) ( v0 v1 v6 v7 v8 v9:V) (S:St):qb1 self N nk ek (fr 116 [(0,v0),(1,v1),(6,v6),(7,v7),(8,v8),(9,v9)]) S =
(qa4 E0 .add 3 false true v9 (.int .i64 1)).bind fun t20=>
nk (fr 116 [(0,v0),(1,v1),(6,v6),(7,v7),(8,v8),(9,t20)]) S:=by kernel_rfl
noncomputable def qhz (self:EV) (N:Nat) (nk:Ac->St->Rs) (ek:Nat->Ac->St->Rs) (a:Ac) (S:St):Rs:=qa6 [0,1,6,7,9,11,12] a fun a=>dr E0 self RL14 N (B14.r.r.l.r.l.l.r.l.l.r.l.r.l.r.r).r (mkK E0 self Try.f14 nk ek) a S
theorem R14_68_eq (self:EV) (N:Nat) (nk:Ac->St->Rs) (ek:Nat->Ac->St->Rs) ( v0 v1 v6 v7 v9 v11 v12:V) (S:St):qhz self N nk ek (fr 116 [(0,v0),(1,v1),(6,v6),(7,v7),(9,v9),(11,v11),(12,v12)]) S =
(unV .not v12).bind fun t70=>
ifK t70 (
ek 0 (fr 116 [(6,v6),(7,v7)]) S) (
nk (fr 116 [(0,v0),(1,v1),(6,v6),(7,v7),(8,v11),(9,v9)]) S):=by kernel_rfl
noncomputable def qjp (self:EV) (N:Nat) (nk:Ac->St->Rs) (ek:Nat->Ac->St->Rs) (n:Nat) ( v0 v1 v6 v7 v9 v11 v12 v65 v66 v67:V) (S:St):Rs:=qc8 [0,1,6,7,9,11,12,65,66,67] (dr E0 self RL14 N (B14.r.r.l.r.l.l.r.l.l.r.l.r.l.r.r.l.r.l.l)) (mkK E0 self Try.f14 nk ek) n (fr 116 [(0,v0),(1,v1),(6,v6),(7,v7),(9,v9),(11,v11),(12,v12),(65,v65),(66,v66),(67,v67)]) S
theorem L14_76_eq (self:EV) (N:Nat) (nk:Ac->St->Rs) (ek:Nat->Ac->St->Rs) (n:Nat) ( v0 v1 v6 v7 v9 v11 v12 v65 v66 v67:V) (S:St):qjp self N nk ek (n+1) v0 v1 v6 v7 v9 v11 v12 v65 v66 v67 S =
(qa4 E0 .lss 3 false false v67 v66).bind fun t77=>
ifK t77 (
(ixP 1 v65 v67).bind fun t79=>
(ld1 t79 S).bind fun p80=>
(qa4 E0 .geq 3 false true p80.1 (.int .i64 0)).bind fun t84=>
(qa1 true t84).bind fun g86=>(bif g86 then some v0 else some (.tuple [])).bind fun t86=>
(qa1 true t84).bind fun g87=>(bif g87 then qa2 t86 else some (.tuple [])).bind fun t87=>
(qa1 true t84).bind fun g88=>(bif g88 then faP 0 false 1 t87 else some (.tuple [])).bind fun t88=>
(qa1 true t84).bind fun g89=>(bif g89 then ld1 t88 (onS p80.2)else some (.tuple [],(onS p80.2))).bind fun p89=>
(qa1 true t84).bind fun g90=>(bif g90 then some v67 else some (.tuple [])).bind fun t90=>
(qa1 true t84).bind fun g91=>(bif g91 then ixP 258 p89.1 t90 else some (.tuple [])).bind fun t91=>
(qa1 true t84).bind fun g92=>(bif g92 then faP 256 false 1 t91 else some (.tuple [])).bind fun t92=>
(qa1 true t84).bind fun g93=>(bif g93 then ld1 t92 (onS p89.2)else some (.tuple [],(onS p89.2))).bind fun p93=>
(qa1 true t84).bind fun g94=>(bif g94 then qa4 E0 .eql 3 false true p93.1 (.int .i64 0)else some (.tuple [])).bind fun t94=>
(qah t84 (some t94) (some (.bool false))).bind fun t95=>
(qa1 true t95).bind fun g97=>(bif g97 then some v0 else some (.tuple [])).bind fun t97=>
(qa1 true t95).bind fun g98=>(bif g98 then qa2 t97 else some (.tuple [])).bind fun t98=>
(qa1 true t95).bind fun g99=>(bif g99 then faP 0 false 1 t98 else some (.tuple [])).bind fun t99=>
(qa1 true t95).bind fun g100=>(bif g100 then ld1 t99 (onS p93.2)else some (.tuple [],(onS p93.2))).bind fun p100=>
(qa1 true t95).bind fun g101=>(bif g101 then some v67 else some (.tuple [])).bind fun t101=>
(qa1 true t95).bind fun g102=>(bif g102 then some v1 else some (.tuple [])).bind fun t102=>
(qa1 true t95).bind fun g103=>(bif g103 then some v9 else some (.tuple [])).bind fun t103=>
(qa1 true t95).bind fun g104=>(bif g104 then ixS t102 t103 else some (.tuple [])).bind fun t104=>
(qa1 true t95).bind fun g105=>(bif g105 then ixP 258 p100.1 t101 else some (.tuple [])).bind fun t105=>
(qa1 true t95).bind fun g106=>(bif g106 then faP 0 true 256 t105 else some (.tuple [])).bind fun t106=>
(qa1 true t95).bind fun g107=>(bif g107 then faP 0 true 256 t106 else some (.tuple [])).bind fun t107=>
(qa1 true t95).bind fun g108=>(bif g108 then ixA 256 1 false 1 t107 t104 else some (.tuple [])).bind fun t108=>
(qa1 true t95).bind fun g109=>(bif g109 then ld1 t108 (onS p100.2)else some (.tuple [],(onS p100.2))).bind fun p109=>
(qah t95 (some p109.1) (some (.bool false))).bind fun t110=>
ifK t110 (
(qa4 E0 .add 3 false true v67 (.int .i64 1)).bind fun t114=>
(qa4 E0 .add 3 false true v9 (.int .i64 1)).bind fun t117=>
(qbu v1 (qbf p80.2 (onS p109.2) [[],[],[],[],[],[],p89.2.log,[],[],[],p93.2.log,[],[],[],[],[],[],p100.2.log,[],[],[],[],[],[],[],[],p109.2.log,[]])).bind fun p119=>
qad (self.f 21 [v0,v11,t114,p80.1,t117,p119.1] p119.2) fun t120 S120=>
(qa4 E0 .add 3 false true v67 (.int .i64 1)).bind fun t122=>
qjp self N nk ek n v0 v1 v6 v7 v9 v11 (.bool true) v65 v66 t122 S120) (
(qa4 E0 .add 3 false true v67 (.int .i64 1)).bind fun t124=>
qjp self N nk ek n v0 v1 v6 v7 v9 v11 v12 v65 v66 t124 (qbf p80.2 (onS p109.2) [[],[],[],[],[],[],p89.2.log,[],[],[],p93.2.log,[],[],[],[],[],[],p100.2.log,[],[],[],[],[],[],[],[],p109.2.log,[]]))) (
ek 2 (fr 116 [(0,v0),(1,v1),(6,v6),(7,v7),(9,v9),(11,v11),(12,v12)]) S):=by kernel_rfl
noncomputable def R14_136 (self:EV) (N:Nat) (nk:Ac->St->Rs) (ek:Nat->Ac->St->Rs) (a:Ac) (S:St):Rs:=qa6 [0,1,6,7,9,11,12] a fun a=>dr E0 self RL14 N (B14.r.r.l.r.l.l.r.l.l.r.l.r.l.r.r).r (mkK E0 self Try.f14 nk ek) a S
noncomputable def L14_144 (self:EV) (N:Nat) (nk:Ac->St->Rs) (ek:Nat->Ac->St->Rs) (n:Nat) ( v0 v1 v6 v7 v9 v11 v12 v65 v66 v67:V) (S:St):Rs:=qc8 [0,1,6,7,9,11,12,65,66,67] (dr E0 self RL14 N (B14.r.r.l.r.l.l.r.l.l.r.l.r.l.r.r.l.r.l.l)) (mkK E0 self Try.f14 nk ek) n (fr 116 [(0,v0),(1,v1),(6,v6),(7,v7),(9,v9),(11,v11),(12,v12),(65,v65),(66,v66),(67,v67)]) S
noncomputable def R14_231 (self:EV) (N:Nat) (nk:Ac->St->Rs) (ek:Nat->Ac->St->Rs) (a:Ac) (S:St):Rs:=qa6 [0,1,6,7,9,11,12] a fun a=>dr E0 self RL14 N (B14.r.r.l.r.l.l.r.l.l.r.l.r.l.r.r).r (mkK E0 self Try.f14 nk ek) a S
noncomputable def L14_239 (self:EV) (N:Nat) (nk:Ac->St->Rs) (ek:Nat->Ac->St->Rs) (n:Nat) ( v0 v1 v6 v7 v9 v11 v12 v65 v66 v67:V) (S:St):Rs:=qc8 [0,1,6,7,9,11,12,65,66,67] (dr E0 self RL14 N (B14.r.r.l.r.l.l.r.l.l.r.l.r.l.r.r.l.r.l.l)) (mkK E0 self Try.f14 nk ek) n (fr 116 [(0,v0),(1,v1),(6,v6),(7,v7),(9,v9),(11,v11),(12,v12),(65,v65),(66,v66),(67,v67)]) S
noncomputable def R14_299 (self:EV) (N:Nat) (nk:Ac->St->Rs) (ek:Nat->Ac->St->Rs) (a:Ac) (S:St):Rs:=qa6 [0,1,6,7,9,11,12] a fun a=>dr E0 self RL14 N (B14.r.r.l.r.l.l.r.l.l.r.l.r.l.r.r).r (mkK E0 self Try.f14 nk ek) a S
noncomputable def L14_307 (self:EV) (N:Nat) (nk:Ac->St->Rs) (ek:Nat->Ac->St->Rs) (n:Nat) ( v0 v1 v6 v7 v9 v11 v12 v65 v66 v67:V) (S:St):Rs:=qc8 [0,1,6,7,9,11,12,65,66,67] (dr E0 self RL14 N (B14.r.r.l.r.l.l.r.l.l.r.l.r.l.r.r.l.r.l.l)) (mkK E0 self Try.f14 nk ek) n (fr 116 [(0,v0),(1,v1),(6,v6),(7,v7),(9,v9),(11,v11),(12,v12),(65,v65),(66,v66),(67,v67)]) S
theorem L14_13_eq (self:EV) (N:Nat) (nk:Ac->St->Rs) (ek:Nat->Ac->St->Rs) (n:Nat) ( v0 v1 v6 v7 v8 v9:V) (S:St):qkr self N nk ek (n+1) v0 v1 v6 v7 v8 v9 S =
(qbu v1 S).bind fun p16=>
(qa4 E0 .leq 3 false false v9 p16.1).bind fun t17=>
ifK t17 (
(unV .not v7).bind fun t23=>
ifK t23 (
(qbu v1 p16.2).bind fun p29=>
qad (self.f 21 [v0,v8,(.int .i64 0),v9,v9,p29.1] p29.2) fun t30 S30=>
(qa2 v0).bind fun t33=>
(faP 0 false 1 t33).bind fun t34=>
(ld1 t34 S30).bind fun p35=>
(lnS p35.1 p35.2).bind fun p36=>
(qa4 E0 .sub 3 false true p36.1 (.int .i64 1)).bind fun t37=>
(ixP 1 v8 t37).bind fun t38=>
(ld1 t38 p36.2).bind fun p39=>
(qa4 E0 .geq 3 false true p39.1 (.int .i64 0)).bind fun t42=>
(qa1 true t42).bind fun g44=>(bif g44 then some v7 else some (.tuple [])).bind fun t44=>
(qa1 true t42).bind fun g45=>(bif g45 then unV .not t44 else some (.tuple [])).bind fun t45=>
(qa1 true t42).bind fun g46=>(bif g46 then some t45 else some (.tuple [])).bind fun t46=>
(qa1 false t46).bind fun g47=>(bif g47 then some p39.1 else some (.tuple [])).bind fun t47=>
(qa1 false t46).bind fun g48=>(bif g48 then ixA 2 1 false 1 v6 (.int .i64 0)else some (.tuple [])).bind fun t48=>
(qa1 false t46).bind fun g49=>(bif g49 then ld1 t48 p39.2 else some (.tuple [],p39.2)).bind fun p49=>
(qa1 false t46).bind fun g50=>(bif g50 then qa4 E0 .leq 3 false false t47 p49.1 else some (.tuple [])).bind fun t50=>
(qa1 true t42).bind fun g51=>(bif g51 then qah t46 (some (.bool true)) (some t50)else some (.tuple [])).bind fun t51=>
(qah t42 (some t51) (some (.bool false))).bind fun t52=>
ifK t52 (
(qau E0 30 [(0,p39.1),(1,v9)]).bind fun t55=>
(stP 2 v6 t55 p49.2).bind fun p56=>
(qbu v1 p56.2).bind fun p60=>
(qa4 E0 .eql 3 false false v9 p60.1).bind fun t61=>
ifK t61 (
ek 0 (fr 116 [(6,v6),(7,(.bool true))]) p60.2) (
qad (self.f 20 [v0] p60.2) fun t63 S63=>
(unV .not (.bool true)).bind fun t65=>
(lnS v8 S63).bind fun p74=>
qjp self N (qhz self N (fun a s=>qa6 [0,1,6,7,8,9] a fun a=>(fun a s=>qa6 [0,1,6,7,8,9] a fun a=>(qb1 self N (qb0 self N nk ek n) ek) a s) a s) (exB 1 (qb1 self N (qb0 self N nk ek n) ek) ek)) (exB 2 (qhz self N (fun a s=>qa6 [0,1,6,7,8,9] a fun a=>(fun a s=>qa6 [0,1,6,7,8,9] a fun a=>(qb1 self N (qb0 self N nk ek n) ek) a s) a s) (exB 1 (qb1 self N (qb0 self N nk ek n) ek) ek)) (exB 1 (qb1 self N (qb0 self N nk ek n) ek) ek)) N v0 v1 v6 (.bool true) v9 t63 t65 v8 p74.1 (.int .i64 0) p74.2)) (
(qbu v1 p49.2).bind fun p128=>
(qa4 E0 .eql 3 false false v9 p128.1).bind fun t129=>
ifK t129 (
ek 0 (fr 116 [(6,v6),(7,v7)]) p128.2) (
qad (self.f 20 [v0] p128.2) fun t131 S131=>
(unV .not v7).bind fun t133=>
(lnS v8 S131).bind fun p142=>
L14_144 self N (R14_136 self N (fun a s=>qa6 [0,1,6,7,8,9] a fun a=>(fun a s=>qa6 [0,1,6,7,8,9] a fun a=>(qb1 self N (qb0 self N nk ek n) ek) a s) a s) (exB 1 (qb1 self N (qb0 self N nk ek n) ek) ek)) (exB 2 (R14_136 self N (fun a s=>qa6 [0,1,6,7,8,9] a fun a=>(fun a s=>qa6 [0,1,6,7,8,9] a fun a=>(qb1 self N (qb0 self N nk ek n) ek) a s) a s) (exB 1 (qb1 self N (qb0 self N nk ek n) ek) ek)) (exB 1 (qb1 self N (qb0 self N nk ek n) ek) ek)) N v0 v1 v6 v7 v9 t131 t133 v8 p142.1 (.int .i64 0) p142.2))) (
(qa2 v0).bind fun t196=>
(faP 0 false 1 t196).bind fun t197=>
(ld1 t197 p16.2).bind fun p198=>
(lnS p198.1 p198.2).bind fun p199=>
(qa4 E0 .sub 3 false true p199.1 (.int .i64 1)).bind fun t200=>
(ixP 1 v8 t200).bind fun t201=>
(ld1 t201 p199.2).bind fun p202=>
(qa4 E0 .geq 3 false true p202.1 (.int .i64 0)).bind fun t205=>
(qa1 true t205).bind fun g207=>(bif g207 then some v7 else some (.tuple [])).bind fun t207=>
(qa1 true t205).bind fun g208=>(bif g208 then unV .not t207 else some (.tuple [])).bind fun t208=>
(qa1 true t205).bind fun g209=>(bif g209 then some t208 else some (.tuple [])).bind fun t209=>
(qa1 false t209).bind fun g210=>(bif g210 then some p202.1 else some (.tuple [])).bind fun t210=>
(qa1 false t209).bind fun g211=>(bif g211 then ixA 2 1 false 1 v6 (.int .i64 0)else some (.tuple [])).bind fun t211=>
(qa1 false t209).bind fun g212=>(bif g212 then ld1 t211 p202.2 else some (.tuple [],p202.2)).bind fun p212=>
(qa1 false t209).bind fun g213=>(bif g213 then qa4 E0 .leq 3 false false t210 p212.1 else some (.tuple [])).bind fun t213=>
(qa1 true t205).bind fun g214=>(bif g214 then qah t209 (some (.bool true)) (some t213)else some (.tuple [])).bind fun t214=>
(qah t205 (some t214) (some (.bool false))).bind fun t215=>
ifK t215 (
(qau E0 30 [(0,p202.1),(1,v9)]).bind fun t218=>
(stP 2 v6 t218 p212.2).bind fun p219=>
(qbu v1 p219.2).bind fun p223=>
(qa4 E0 .eql 3 false false v9 p223.1).bind fun t224=>
ifK t224 (
ek 0 (fr 116 [(6,v6),(7,(.bool true))]) p223.2) (
qad (self.f 20 [v0] p223.2) fun t226 S226=>
(unV .not (.bool true)).bind fun t228=>
(lnS v8 S226).bind fun p237=>
L14_239 self N (R14_231 self N (fun a s=>qa6 [0,1,6,7,8,9] a fun a=>(fun a s=>qa6 [0,1,6,7,8,9] a fun a=>(qb1 self N (qb0 self N nk ek n) ek) a s) a s) (exB 1 (qb1 self N (qb0 self N nk ek n) ek) ek)) (exB 2 (R14_231 self N (fun a s=>qa6 [0,1,6,7,8,9] a fun a=>(fun a s=>qa6 [0,1,6,7,8,9] a fun a=>(qb1 self N (qb0 self N nk ek n) ek) a s) a s) (exB 1 (qb1 self N (qb0 self N nk ek n) ek) ek)) (exB 1 (qb1 self N (qb0 self N nk ek n) ek) ek)) N v0 v1 v6 (.bool true) v9 t226 t228 v8 p237.1 (.int .i64 0) p237.2)) (
(qbu v1 p212.2).bind fun p291=>
(qa4 E0 .eql 3 false false v9 p291.1).bind fun t292=>
ifK t292 (
ek 0 (fr 116 [(6,v6),(7,v7)]) p291.2) (
qad (self.f 20 [v0] p291.2) fun t294 S294=>
(unV .not v7).bind fun t296=>
(lnS v8 S294).bind fun p305=>
L14_307 self N (R14_299 self N (fun a s=>qa6 [0,1,6,7,8,9] a fun a=>(fun a s=>qa6 [0,1,6,7,8,9] a fun a=>(qb1 self N (qb0 self N nk ek n) ek) a s) a s) (exB 1 (qb1 self N (qb0 self N nk ek n) ek) ek)) (exB 2 (R14_299 self N (fun a s=>qa6 [0,1,6,7,8,9] a fun a=>(fun a s=>qa6 [0,1,6,7,8,9] a fun a=>(qb1 self N (qb0 self N nk ek n) ek) a s) a s) (exB 1 (qb1 self N (qb0 self N nk ek n) ek) ek)) (exB 1 (qb1 self N (qb0 self N nk ek n) ek) ek)) N v0 v1 v6 v7 v9 t294 t296 v8 p305.1 (.int .i64 0) p305.2)))) (
ek 0 (fr 116 [(6,v6),(7,v7)]) p16.2):=by kernel_rfl
theorem N14_13_eq (self:EV) (N:Nat) (nk:Ac->St->Rs) (ek:Nat->Ac->St->Rs) (n:Nat) ( v0 v1 v6 v7 v8 v9:V) (S:St):qb0 self N nk ek n (fr 116 [(0,v0),(1,v1),(6,v6),(7,v7),(8,v8),(9,v9)]) S=qkr self N nk ek n v0 v1 v6 v7 v8 v9 S:=by kernel_rfl
noncomputable def F14 (self:EV) (N:Nat) (x0 x1 x2:V) (S:St):Rs:=qj3 E0 self N Try.f14 B14 [x0,x1,x2] S
theorem F14_eq (self:EV) (N:Nat) (x0 x1 x2:V) (S:St):F14 self N x0 x1 x2 S =
(some (nwP 30 2 (Tr.ofListFrom .nil [(.int .i64 0),(.int .i64 0)] 0) S)).bind fun p0=>
qad (self.f 20 [x0] p0.2) fun t3 S3=>
qkr self N (R14_5 self N (qbg E0 self Try.f14) qav) (exB 0 (R14_5 self N (qbg E0 self Try.f14) qav) qav) N x0 x1 p0.1 (.bool false) t3 x2 S3:=by kernel_rfl
end
end Go.Proofs.Ytachpdpmoihjmaa.W
