/-
  WHAT THE FUNCTIONS COME TO: each is read by the evaluator,printed,and told as a function of data,part 6 of 12 (no condition).
-/
import Derived.Test.YtachpdpmoihjmaaW5
import Derived.Test.YtachpdpmoihjmaaProg
import Derived.KernelRfl
namespace Go.Proofs.Ytachpdpmoihjmaa.W
open Go.Proofs.Ytachpdpmoihjmaa.Ev
set_option maxRecDepth 100000
noncomputable section
noncomputable def C24:Code:=Try.f24.body.getD .skip
noncomputable def B24:D:=(qc1 C24 [[],[],[],[0,3,6],[],[0,3],[],[],[],[0,0,3],[2],[],[]]).1
noncomputable def RL24:List Nat:=cellsOf Try.f24.results.toList
noncomputable def R24_4 (self:EV) (N:Nat) (nk:Ac->St->Rs) (ek:Nat->Ac->St->Rs) (a:Ac) (S:St):Rs:=qa6 [0,3] a fun a=>dr E0 self RL24 N (B24.r.r).r (mkK E0 self Try.f24 nk ek) a S
theorem R24_4_eq (self:EV) (N:Nat) (nk:Ac->St->Rs) (ek:Nat->Ac->St->Rs) ( v0 v3:V) (S:St):R24_4 self N nk ek (fr 17 [(0,v0),(3,v3)]) S =
(ldA 258 v3 S).bind fun p6=>
qad (self.f 13 [v0,p6.1] p6.2) fun t7 S7=>
some (.ret (.bool false),S7):=by kernel_rfl
noncomputable def L24_10 (self:EV) (N:Nat) (nk:Ac->St->Rs) (ek:Nat->Ac->St->Rs) (n:Nat) ( v0 v3 v6:V) (S:St):Rs:=qc8 [0,3,6] (dr E0 self RL24 N (B24.r.r.l.r.l.l)) (mkK E0 self Try.f24 nk ek) n (fr 17 [(0,v0),(3,v3),(6,v6)]) S
theorem L24_10_eq (self:EV) (N:Nat) (nk:Ac->St->Rs) (ek:Nat->Ac->St->Rs) (n:Nat) ( v0 v3 v6:V) (S:St):L24_10 self N nk ek (n+1) v0 v3 v6 S =
(qa4 E0 .lss 3 false true v6 (.int .i64 256)).bind fun t11=>
ifK t11 (
(faP 0 true 256 v3).bind fun t15=>
(faP 0 true 256 t15).bind fun t16=>
(ixA 256 1 false 1 t16 v6).bind fun t17=>
(stP 1 t17 (.bool true) S).bind fun p18=>
(qa4 E0 .add 3 false true v6 (.int .i64 1)).bind fun t19=>
L24_10 self N nk ek n v0 v3 t19 p18.2) (
ek 0 (fr 17 [(0,v0),(3,v3)]) S):=by kernel_rfl
noncomputable def F24 (self:EV) (N:Nat) (x0:V) (S:St):Rs:=qj3 E0 self N Try.f24 B24 [x0] S
theorem F24_eq (self:EV) (N:Nat) (x0:V) (S:St):F24 self N x0 S =
(qau E0 50 [(1,(.int .i64 0))]).bind fun t1=>
(some (nwP 50 258 (Tr.ofListFrom .nil [(.bool false),(.bool false),(.bool false),(.bool false),(.bool false),(.bool false),(.bool false),(.bool false),(.bool false),(.bool false),(.bool false),(.bool false),(.bool false),(.bool false),(.bool false),(.bool false),(.bool false),(.bool false),(.bool false),(.bool false),(.bool false),(.bool false),(.bool false),(.bool false),(.bool false),(.bool false),(.bool false),(.bool false),(.bool false),(.bool false),(.bool false),(.bool false),(.bool false),(.bool false),(.bool false),(.bool false),(.bool false),(.bool false),(.bool false),(.bool false),(.bool false),(.bool false),(.bool false),(.bool false),(.bool false),(.bool false),(.bool false),(.bool false),(.bool false),(.bool false),(.bool false),(.bool false),(.bool false),(.bool false),(.bool false),(.bool false),(.bool false),(.bool false),(.bool false),(.bool false),(.bool false),(.bool false),(.bool false),(.bool false),(.bool false),(.bool false),(.bool false),(.bool false),(.bool false),(.bool false),(.bool false),(.bool false),(.bool false),(.bool false),(.bool false),(.bool false),(.bool false),(.bool false),(.bool false),(.bool false),(.bool false),(.bool false),(.bool false),(.bool false),(.bool false),(.bool false),(.bool false),(.bool false),(.bool false),(.bool false),(.bool false),(.bool false),(.bool false),(.bool false),(.bool false),(.bool false),(.bool false),(.bool false),(.bool false),(.bool false),(.bool false),(.bool false),(.bool false),(.bool false),(.bool false),(.bool false),(.bool false),(.bool false),(.bool false),(.bool false),(.bool false),(.bool false),(.bool false),(.bool false),(.bool false),(.bool false),(.bool false),(.bool false),(.bool false),(.bool false),(.bool false),(.bool false),(.bool false),(.bool false),(.bool false),(.bool false),(.bool false),(.bool false),(.bool false),(.bool false),(.bool false),(.bool false),(.bool false),(.bool false),(.bool false),(.bool false),(.bool false),(.bool false),(.bool false),(.bool false),(.bool false),(.bool false),(.bool false),(.bool false),(.bool false),(.bool false),(.bool false),(.bool false),(.bool false),(.bool false),(.bool false),(.bool false),(.bool false),(.bool false),(.bool false),(.bool false),(.bool false),(.bool false),(.bool false),(.bool false),(.bool false),(.bool false),(.bool false),(.bool false),(.bool false),(.bool false),(.bool false),(.bool false),(.bool false),(.bool false),(.bool false),(.bool false),(.bool false),(.bool false),(.bool false),(.bool false),(.bool false),(.bool false),(.bool false),(.bool false),(.bool false),(.bool false),(.bool false),(.bool false),(.bool false),(.bool false),(.bool false),(.bool false),(.bool false),(.bool false),(.bool false),(.bool false),(.bool false),(.bool false),(.bool false),(.bool false),(.bool false),(.bool false),(.bool false),(.bool false),(.bool false),(.bool false),(.bool false),(.bool false),(.bool false),(.bool false),(.bool false),(.bool false),(.bool false),(.bool false),(.bool false),(.bool false),(.bool false),(.bool false),(.bool false),(.bool false),(.bool false),(.bool false),(.bool false),(.bool false),(.bool false),(.bool false),(.bool false),(.bool false),(.bool false),(.bool false),(.bool false),(.bool false),(.bool false),(.bool false),(.bool false),(.bool false),(.bool false),(.bool false),(.bool false),(.bool false),(.bool false),(.bool false),(.bool false),(.bool false),(.bool false),(.bool false),(.bool false),(.bool false),(.bool false),(.bool false),(.bool false),(.bool false),(.bool false),(.bool false),(.bool false),(.bool false),(.bool false),(.bool false),(.bool false),(.bool false),(.int .i64 0),(.int .i64 0)] 0) S)).bind fun p2=>
(stP 258 p2.1 t1 p2.2).bind fun p3=>
L24_10 self N (R24_4 self N (qbg E0 self Try.f24) qav) (exB 0 (R24_4 self N (qbg E0 self Try.f24) qav) qav) N x0 p2.1 (.int .i64 0) p3.2:=by kernel_rfl
end
end Go.Proofs.Ytachpdpmoihjmaa.W


namespace Go.Proofs.Ytachpdpmoihjmaa.W
open Go.Proofs.Ytachpdpmoihjmaa.Ev
set_option maxRecDepth 100000
noncomputable section
noncomputable def C25:Code:=Try.f25.body.getD .skip
noncomputable def B25:D:=(qc1 C25 [[],[],[],[],[0,0,3,4],[2],[],[],[0,0,3,4,5],[2],[],[],[],[],[0,3,4,6,7],[],[0,3,4],[],[],[],[],[0,0,3,4,6,7,8],[0,3,4,6,7],[],[0,3,4,6,7,8,9],[],[0,3,4,6,7],[],[],[0,0,3,4,6,7],[0,3,4,6,7],[],[0,0,3,4,6,7],[0,3,4,6,7],[0,0,3,4],[2],[],[0,3,4,133],[],[0,3],[],[],[],[0,0,3],[2],[],[]]).1
noncomputable def RL25:List Nat:=cellsOf Try.f25.results.toList
noncomputable def qfw (self:EV) (N:Nat) (nk:Ac->St->Rs) (ek:Nat->Ac->St->Rs) (a:Ac) (S:St):Rs:=qa6 [0,3,4] a fun a=>dr E0 self RL25 N (B25.r.r.r.r.l.r.r.l.r.r.r).r (mkK E0 self Try.f25 nk ek) a S
noncomputable def R25_73 (self:EV) (N:Nat) (nk:Ac->St->Rs) (ek:Nat->Ac->St->Rs) (a:Ac) (S:St):Rs:=qa6 [0,3] a fun a=>dr E0 self RL25 N (B25.r.r.r.r.l.r.r.l.r.r.r.r.l).r (mkK E0 self Try.f25 nk ek) a S
theorem R25_73_eq (self:EV) (N:Nat) (nk:Ac->St->Rs) (ek:Nat->Ac->St->Rs) ( v0 v3:V) (S:St):R25_73 self N nk ek (fr 151 [(0,v0),(3,v3)]) S =
(ldA 258 v3 S).bind fun p75=>
qad (self.f 13 [v0,p75.1] p75.2) fun t76 S76=>
some (.ret (.bool false),S76):=by kernel_rfl
noncomputable def L25_79 (self:EV) (N:Nat) (nk:Ac->St->Rs) (ek:Nat->Ac->St->Rs) (n:Nat) ( v0 v3 v4 v133:V) (S:St):Rs:=qc8 [0,3,4,133] (dr E0 self RL25 N (B25.r.r.r.r.l.r.r.l.r.r.r.r.l.l.r.l.l)) (mkK E0 self Try.f25 nk ek) n (fr 151 [(0,v0),(3,v3),(4,v4),(133,v133)]) S
theorem L25_79_eq (self:EV) (N:Nat) (nk:Ac->St->Rs) (ek:Nat->Ac->St->Rs) (n:Nat) ( v0 v3 v4 v133:V) (S:St):L25_79 self N nk ek (n+1) v0 v3 v4 v133 S =
(qa4 E0 .lss 3 false true v133 (.int .i64 256)).bind fun t80=>
ifK t80 (
(faP 0 true 256 v3).bind fun t85=>
(faP 0 true 256 t85).bind fun t86=>
(ixA 256 1 false 1 t86 v133).bind fun t87=>
(ld1 t87 S).bind fun p88=>
(qa4 E0 .neq 4 false false p88.1 v4).bind fun t90=>
(faP 0 true 256 v3).bind fun t91=>
(faP 0 true 256 t91).bind fun t92=>
(ixA 256 1 false 1 t92 v133).bind fun t93=>
(stP 1 t93 t90 p88.2).bind fun p94=>
(qa4 E0 .add 3 false true v133 (.int .i64 1)).bind fun t95=>
L25_79 self N nk ek n v0 v3 v4 t95 p94.2) (
ek 4 (fr 151 [(0,v0),(3,v3)]) S):=by kernel_rfl
theorem R25_72_eq (self:EV) (N:Nat) (nk:Ac->St->Rs) (ek:Nat->Ac->St->Rs) ( v0 v3 v4:V) (S:St):qfw self N nk ek (fr 151 [(0,v0),(3,v3),(4,v4)]) S =
L25_79 self N (R25_73 self N (fun a s=>qa6 [2] a fun a=>nk a s) ek) (exB 4 (R25_73 self N (fun a s=>qa6 [2] a fun a=>nk a s) ek) ek) N v0 v3 v4 (.int .i64 0) S:=by kernel_rfl
noncomputable def qc2 (self:EV) (N:Nat) (nk:Ac->St->Rs) (ek:Nat->Ac->St->Rs) (n:Nat):Ac->St->Rs:=fun a S=>qa6 [0,3,4,6,7] a fun a=>qc8 [0,3,4,6,7] (dr E0 self RL25 N (B25.r.r.r.r.l.r.r.l.r.r.r.l.r.l.l)) (mkK E0 self Try.f25 nk ek) n a S
noncomputable def qe1 (self:EV) (N:Nat) (nk:Ac->St->Rs) (ek:Nat->Ac->St->Rs) (n:Nat) ( v0 v3 v4 v6 v7:V) (S:St):Rs:=qc8 [0,3,4,6,7] (dr E0 self RL25 N (B25.r.r.r.r.l.r.r.l.r.r.r.l.r.l.l)) (mkK E0 self Try.f25 nk ek) n (fr 151 [(0,v0),(3,v3),(4,v4),(6,v6),(7,v7)]) S
noncomputable def qba (self:EV) (N:Nat) (nk:Ac->St->Rs) (ek:Nat->Ac->St->Rs) (a:Ac) (S:St):Rs:=qa6 [0,3,4,6,7] a fun a=>dr E0 self RL25 N (B25.r.r.r.r.l.r.r.l.r.r.r.l.r.l.l.r).r (mkK E0 self Try.f25 nk ek) a S
theorem R25_103_eq (self:EV) (N:Nat) (nk:Ac->St->Rs) (ek:Nat->Ac->St->Rs) ( v0 v3 v4 v6 v7:V) (S:St):qba self N nk ek (fr 151 [(0,v0),(3,v3),(4,v4),(6,v6),(7,v7)]) S =
(qa4 E0 .add 3 false true v7 (.int .i64 1)).bind fun t105=>
nk (fr 151 [(0,v0),(3,v3),(4,v4),(6,v6),(7,t105)]) S:=by kernel_rfl
noncomputable def ql0 (self:EV) (N:Nat) (nk:Ac->St->Rs) (ek:Nat->Ac->St->Rs) (a:Ac) (S:St):Rs:=qa6 [0,3,4,6,7] a fun a=>dr E0 self RL25 N (B25.r.r.r.r.l.r.r.l.r.r.r.l.r.l.l.r.l.l.r.r.l).r (mkK E0 self Try.f25 nk ek) a S
theorem R25_137_eq (self:EV) (N:Nat) (nk:Ac->St->Rs) (ek:Nat->Ac->St->Rs) ( v0 v3 v4 v6 v7:V) (S:St):ql0 self N nk ek (fr 151 [(0,v0),(3,v3),(4,v4),(6,v6),(7,v7)]) S =
(qa4 E0 .add 3 false true v7 (.int .i64 2)).bind fun t139=>
(qbu v6 S).bind fun p141=>
(qa4 E0 .lss 3 false false t139 p141.1).bind fun t142=>
(qa1 true t142).bind fun g144=>(bif g144 then some v6 else some (.tuple [])).bind fun t144=>
(qa1 true t142).bind fun g145=>(bif g145 then some v7 else some (.tuple [])).bind fun t145=>
(qa1 true t142).bind fun g146=>(bif g146 then qa4 E0 .add 3 false true t145 (.int .i64 1)else some (.tuple [])).bind fun t146=>
(qa1 true t142).bind fun g147=>(bif g147 then ixS t144 t146 else some (.tuple [])).bind fun t147=>
(qa1 true t142).bind fun g148=>(bif g148 then qa4 E0 .eql 5 false true t147 (.int .u8 45)else some (.tuple [])).bind fun t148=>
(qah t142 (some t148) (some (.bool false))).bind fun t149=>
ifK t149 (
(qa4 E0 .add 3 false true v7 (.int .i64 2)).bind fun t151=>
nk (fr 151 [(0,v0),(3,v3),(4,v4),(6,v6),(7,t151)]) p141.2) (
nk (fr 151 [(0,v0),(3,v3),(4,v4),(6,v6),(7,v7)]) p141.2):=by kernel_rfl
noncomputable def L25_158 (self:EV) (N:Nat) (nk:Ac->St->Rs) (ek:Nat->Ac->St->Rs) (n:Nat) ( v0 v3 v4 v6 v7 v8 v9:V) (S:St):Rs:=qc8 [0,3,4,6,7,8,9] (dr E0 self RL25 N (B25.r.r.r.r.l.r.r.l.r.r.r.l.r.l.l.r.l.l.r.r.l.l.r.l.l)) (mkK E0 self Try.f25 nk ek) n (fr 151 [(0,v0),(3,v3),(4,v4),(6,v6),(7,v7),(8,v8),(9,v9)]) S
theorem L25_158_eq (self:EV) (N:Nat) (nk:Ac->St->Rs) (ek:Nat->Ac->St->Rs) (n:Nat) ( v0 v3 v4 v6 v7 v8 v9:V) (S:St):L25_158 self N nk ek (n+1) v0 v3 v4 v6 v7 v8 v9 S =
(cvI .i64 v8 S).bind fun p161=>
(qa4 E0 .leq 3 false false v9 p161.1).bind fun t162=>
ifK t162 (
(faP 0 true 256 v3).bind fun t164=>
(faP 0 true 256 t164).bind fun t165=>
(ixA 256 1 false 1 t165 v9).bind fun t166=>
(stP 1 t166 (.bool true) p161.2).bind fun p167=>
(qa4 E0 .add 3 false true v9 (.int .i64 1)).bind fun t169=>
L25_158 self N nk ek n v0 v3 v4 v6 v7 v8 t169 p167.2) (
ek 2 (fr 151 [(0,v0),(3,v3),(4,v4),(6,v6),(7,v7)]) p161.2):=by kernel_rfl
noncomputable def ql1 (self:EV) (N:Nat) (nk:Ac->St->Rs) (ek:Nat->Ac->St->Rs) (a:Ac) (S:St):Rs:=qa6 [0,3,4,6,7] a fun a=>dr E0 self RL25 N (B25.r.r.r.r.l.r.r.l.r.r.r.l.r.l.l.r.l.l.r.r.l).r (mkK E0 self Try.f25 nk ek) a S
theorem R25_171_eq (self:EV) (N:Nat) (nk:Ac->St->Rs) (ek:Nat->Ac->St->Rs) ( v0 v3 v4 v6 v7:V) (S:St):ql1 self N nk ek (fr 151 [(0,v0),(3,v3),(4,v4),(6,v6),(7,v7)]) S =
(qa4 E0 .add 3 false true v7 (.int .i64 2)).bind fun t173=>
(qbu v6 S).bind fun p175=>
(qa4 E0 .lss 3 false false t173 p175.1).bind fun t176=>
(qa1 true t176).bind fun g178=>(bif g178 then some v6 else some (.tuple [])).bind fun t178=>
(qa1 true t176).bind fun g179=>(bif g179 then some v7 else some (.tuple [])).bind fun t179=>
(qa1 true t176).bind fun g180=>(bif g180 then qa4 E0 .add 3 false true t179 (.int .i64 1)else some (.tuple [])).bind fun t180=>
(qa1 true t176).bind fun g181=>(bif g181 then ixS t178 t180 else some (.tuple [])).bind fun t181=>
(qa1 true t176).bind fun g182=>(bif g182 then qa4 E0 .eql 5 false true t181 (.int .u8 45)else some (.tuple [])).bind fun t182=>
(qah t176 (some t182) (some (.bool false))).bind fun t183=>
ifK t183 (
(qa4 E0 .add 3 false true v7 (.int .i64 2)).bind fun t185=>
nk (fr 151 [(0,v0),(3,v3),(4,v4),(6,v6),(7,t185)]) p175.2) (
nk (fr 151 [(0,v0),(3,v3),(4,v4),(6,v6),(7,v7)]) p175.2):=by kernel_rfl
noncomputable def L25_192 (self:EV) (N:Nat) (nk:Ac->St->Rs) (ek:Nat->Ac->St->Rs) (n:Nat) ( v0 v3 v4 v6 v7 v8 v9:V) (S:St):Rs:=qc8 [0,3,4,6,7,8,9] (dr E0 self RL25 N (B25.r.r.r.r.l.r.r.l.r.r.r.l.r.l.l.r.l.l.r.r.l.l.r.l.l)) (mkK E0 self Try.f25 nk ek) n (fr 151 [(0,v0),(3,v3),(4,v4),(6,v6),(7,v7),(8,v8),(9,v9)]) S
theorem L25_192_eq (self:EV) (N:Nat) (nk:Ac->St->Rs) (ek:Nat->Ac->St->Rs) (n:Nat) ( v0 v3 v4 v6 v7 v8 v9:V) (S:St):L25_192 self N nk ek (n+1) v0 v3 v4 v6 v7 v8 v9 S =
(cvI .i64 v8 S).bind fun p195=>
(qa4 E0 .leq 3 false false v9 p195.1).bind fun t196=>
ifK t196 (
(faP 0 true 256 v3).bind fun t198=>
(faP 0 true 256 t198).bind fun t199=>
(ixA 256 1 false 1 t199 v9).bind fun t200=>
(stP 1 t200 (.bool true) p195.2).bind fun p201=>
(qa4 E0 .add 3 false true v9 (.int .i64 1)).bind fun t203=>
L25_192 self N nk ek n v0 v3 v4 v6 v7 v8 t203 p201.2) (
ek 2 (fr 151 [(0,v0),(3,v3),(4,v4),(6,v6),(7,v7)]) p195.2):=by kernel_rfl
theorem L25_98_eq (self:EV) (N:Nat) (nk:Ac->St->Rs) (ek:Nat->Ac->St->Rs) (n:Nat) ( v0 v3 v4 v6 v7:V) (S:St):qe1 self N nk ek (n+1) v0 v3 v4 v6 v7 S =
(qbu v6 S).bind fun p101=>
(qa4 E0 .lss 3 false false v7 p101.1).bind fun t102=>
ifK t102 (
(ixS v6 v7).bind fun t109=>
(qa4 E0 .add 3 false true v7 (.int .i64 2)).bind fun t112=>
(qbu v6 p101.2).bind fun p114=>
(qa4 E0 .lss 3 false false t112 p114.1).bind fun t115=>
(qa1 true t115).bind fun g117=>(bif g117 then some v6 else some (.tuple [])).bind fun t117=>
(qa1 true t115).bind fun g118=>(bif g118 then some v7 else some (.tuple [])).bind fun t118=>
(qa1 true t115).bind fun g119=>(bif g119 then qa4 E0 .add 3 false true t118 (.int .i64 1)else some (.tuple [])).bind fun t119=>
(qa1 true t115).bind fun g120=>(bif g120 then ixS t117 t119 else some (.tuple [])).bind fun t120=>
(qa1 true t115).bind fun g121=>(bif g121 then qa4 E0 .eql 5 false true t120 (.int .u8 45)else some (.tuple [])).bind fun t121=>
(qah t115 (some t121) (some (.bool false))).bind fun t122=>
ifK t122 (
(ixS v6 v7).bind fun t125=>
(qa4 E0 .add 3 false true v7 (.int .i64 2)).bind fun t128=>
(ixS v6 t128).bind fun t129=>
(qa4 E0 .leq 5 false false t125 t129).bind fun t130=>
qi6 (qao E0 (B25.r.r.r.r.l.r.r.l.r.r.r.l.r.l.l.r.l.l.r.l.r.l.l).ops) p114.2 8 [[],[],[],[],[],[],[],[]] (self.f 18 [t130] (onS p114.2)) fun t131 S131=>
(qa4 E0 .add 3 false true v7 (.int .i64 2)).bind fun t134=>
(ixS v6 t134).bind fun t135=>
(ixS v6 v7).bind fun t155=>
(cvI .i64 t155 (qbf p114.2 S131 [[],[],[],[],[],[],[],[],S131.log])).bind fun p156=>
L25_158 self N (ql0 self N (fun a s=>qa6 [0,3,4,6,7] a fun a=>(qba self N (qc2 self N nk ek n) ek) a s) (exB 1 (qba self N (qc2 self N nk ek n) ek) ek)) (exB 2 (ql0 self N (fun a s=>qa6 [0,3,4,6,7] a fun a=>(qba self N (qc2 self N nk ek n) ek) a s) (exB 1 (qba self N (qc2 self N nk ek n) ek) ek)) (exB 1 (qba self N (qc2 self N nk ek n) ek) ek)) N v0 v3 v4 v6 v7 t135 p156.1 p156.2) (
(ixS v6 v7).bind fun t189=>
(cvI .i64 t189 p114.2).bind fun p190=>
L25_192 self N (ql1 self N (fun a s=>qa6 [0,3,4,6,7] a fun a=>(qba self N (qc2 self N nk ek n) ek) a s) (exB 1 (qba self N (qc2 self N nk ek n) ek) ek)) (exB 2 (ql1 self N (fun a s=>qa6 [0,3,4,6,7] a fun a=>(qba self N (qc2 self N nk ek n) ek) a s) (exB 1 (qba self N (qc2 self N nk ek n) ek) ek)) (exB 1 (qba self N (qc2 self N nk ek n) ek) ek)) N v0 v3 v4 v6 v7 t109 p190.1 p190.2)) (
ek 0 (fr 151 [(0,v0),(3,v3),(4,v4)]) p101.2):=by kernel_rfl
theorem N25_98_eq (self:EV) (N:Nat) (nk:Ac->St->Rs) (ek:Nat->Ac->St->Rs) (n:Nat) ( v0 v3 v4 v6 v7:V) (S:St):qc2 self N nk ek n (fr 151 [(0,v0),(3,v3),(4,v4),(6,v6),(7,v7)]) S=qe1 self N nk ek n v0 v3 v4 v6 v7 S:=by kernel_rfl
noncomputable def R25_235 (self:EV) (N:Nat) (nk:Ac->St->Rs) (ek:Nat->Ac->St->Rs) (a:Ac) (S:St):Rs:=qa6 [0,3,4] a fun a=>dr E0 self RL25 N (B25.r.r.r.r.l.r.r.l.r.r.r).r (mkK E0 self Try.f25 nk ek) a S
noncomputable def L25_261 (self:EV) (N:Nat) (nk:Ac->St->Rs) (ek:Nat->Ac->St->Rs) (n:Nat) ( v0 v3 v4 v6 v7:V) (S:St):Rs:=qc8 [0,3,4,6,7] (dr E0 self RL25 N (B25.r.r.r.r.l.r.r.l.r.r.r.l.r.l.l)) (mkK E0 self Try.f25 nk ek) n (fr 151 [(0,v0),(3,v3),(4,v4),(6,v6),(7,v7)]) S
noncomputable def R25_424 (self:EV) (N:Nat) (nk:Ac->St->Rs) (ek:Nat->Ac->St->Rs) (a:Ac) (S:St):Rs:=qa6 [0,3,4] a fun a=>dr E0 self RL25 N (B25.r.r.r.r.l.r.r.l.r.r.r).r (mkK E0 self Try.f25 nk ek) a S
noncomputable def L25_450 (self:EV) (N:Nat) (nk:Ac->St->Rs) (ek:Nat->Ac->St->Rs) (n:Nat) ( v0 v3 v4 v6 v7:V) (S:St):Rs:=qc8 [0,3,4,6,7] (dr E0 self RL25 N (B25.r.r.r.r.l.r.r.l.r.r.r.l.r.l.l)) (mkK E0 self Try.f25 nk ek) n (fr 151 [(0,v0),(3,v3),(4,v4),(6,v6),(7,v7)]) S
noncomputable def R25_587 (self:EV) (N:Nat) (nk:Ac->St->Rs) (ek:Nat->Ac->St->Rs) (a:Ac) (S:St):Rs:=qa6 [0,3,4] a fun a=>dr E0 self RL25 N (B25.r.r.r.r.l.r.r.l.r.r.r).r (mkK E0 self Try.f25 nk ek) a S
noncomputable def L25_613 (self:EV) (N:Nat) (nk:Ac->St->Rs) (ek:Nat->Ac->St->Rs) (n:Nat) ( v0 v3 v4 v6 v7:V) (S:St):Rs:=qc8 [0,3,4,6,7] (dr E0 self RL25 N (B25.r.r.r.r.l.r.r.l.r.r.r.l.r.l.l)) (mkK E0 self Try.f25 nk ek) n (fr 151 [(0,v0),(3,v3),(4,v4),(6,v6),(7,v7)]) S
noncomputable def F25 (self:EV) (N:Nat) (x0:V) (S:St):Rs:=qj3 E0 self N Try.f25 B25 [x0] S
theorem F25_eq (self:EV) (N:Nat) (x0:V) (S:St):F25 self N x0 S =
(qau E0 50 [(1,(.int .i64 0))]).bind fun t1=>
(some (nwP 50 258 (Tr.ofListFrom .nil [(.bool false),(.bool false),(.bool false),(.bool false),(.bool false),(.bool false),(.bool false),(.bool false),(.bool false),(.bool false),(.bool false),(.bool false),(.bool false),(.bool false),(.bool false),(.bool false),(.bool false),(.bool false),(.bool false),(.bool false),(.bool false),(.bool false),(.bool false),(.bool false),(.bool false),(.bool false),(.bool false),(.bool false),(.bool false),(.bool false),(.bool false),(.bool false),(.bool false),(.bool false),(.bool false),(.bool false),(.bool false),(.bool false),(.bool false),(.bool false),(.bool false),(.bool false),(.bool false),(.bool false),(.bool false),(.bool false),(.bool false),(.bool false),(.bool false),(.bool false),(.bool false),(.bool false),(.bool false),(.bool false),(.bool false),(.bool false),(.bool false),(.bool false),(.bool false),(.bool false),(.bool false),(.bool false),(.bool false),(.bool false),(.bool false),(.bool false),(.bool false),(.bool false),(.bool false),(.bool false),(.bool false),(.bool false),(.bool false),(.bool false),(.bool false),(.bool false),(.bool false),(.bool false),(.bool false),(.bool false),(.bool false),(.bool false),(.bool false),(.bool false),(.bool false),(.bool false),(.bool false),(.bool false),(.bool false),(.bool false),(.bool false),(.bool false),(.bool false),(.bool false),(.bool false),(.bool false),(.bool false),(.bool false),(.bool false),(.bool false),(.bool false),(.bool false),(.bool false),(.bool false),(.bool false),(.bool false),(.bool false),(.bool false),(.bool false),(.bool false),(.bool false),(.bool false),(.bool false),(.bool false),(.bool false),(.bool false),(.bool false),(.bool false),(.bool false),(.bool false),(.bool false),(.bool false),(.bool false),(.bool false),(.bool false),(.bool false),(.bool false),(.bool false),(.bool false),(.bool false),(.bool false),(.bool false),(.bool false),(.bool false),(.bool false),(.bool false),(.bool false),(.bool false),(.bool false),(.bool false),(.bool false),(.bool false),(.bool false),(.bool false),(.bool false),(.bool false),(.bool false),(.bool false),(.bool false),(.bool false),(.bool false),(.bool false),(.bool false),(.bool false),(.bool false),(.bool false),(.bool false),(.bool false),(.bool false),(.bool false),(.bool false),(.bool false),(.bool false),(.bool false),(.bool false),(.bool false),(.bool false),(.bool false),(.bool false),(.bool false),(.bool false),(.bool false),(.bool false),(.bool false),(.bool false),(.bool false),(.bool false),(.bool false),(.bool false),(.bool false),(.bool false),(.bool false),(.bool false),(.bool false),(.bool false),(.bool false),(.bool false),(.bool false),(.bool false),(.bool false),(.bool false),(.bool false),(.bool false),(.bool false),(.bool false),(.bool false),(.bool false),(.bool false),(.bool false),(.bool false),(.bool false),(.bool false),(.bool false),(.bool false),(.bool false),(.bool false),(.bool false),(.bool false),(.bool false),(.bool false),(.bool false),(.bool false),(.bool false),(.bool false),(.bool false),(.bool false),(.bool false),(.bool false),(.bool false),(.bool false),(.bool false),(.bool false),(.bool false),(.bool false),(.bool false),(.bool false),(.bool false),(.bool false),(.bool false),(.bool false),(.bool false),(.bool false),(.bool false),(.bool false),(.bool false),(.bool false),(.bool false),(.bool false),(.bool false),(.bool false),(.bool false),(.bool false),(.bool false),(.bool false),(.bool false),(.bool false),(.bool false),(.bool false),(.bool false),(.bool false),(.bool false),(.bool false),(.bool false),(.bool false),(.bool false),(.bool false),(.int .i64 0),(.int .i64 0)] 0) S)).bind fun p2=>
(stP 258 p2.1 t1 p2.2).bind fun p3=>
qad (self.f 16 [x0,(sv [94])] p3.2) fun t5 S5=>
ifK t5 (
(qa2 x0).bind fun t9=>
(faP 3 false 1 t9).bind fun t10=>
(ld1 t10 S5).bind fun p11=>
(qa4 E0 .add 3 false true p11.1 (.int .i64 1)).bind fun t12=>
(qa2 x0).bind fun t13=>
(faP 3 false 1 t13).bind fun t14=>
(stP 1 t14 t12 p11.2).bind fun p15=>
(qa2 x0).bind fun t18=>
(faP 3 false 1 t18).bind fun t19=>
(ld1 t19 (onS p15.2)).bind fun p20=>
(qa2 x0).bind fun t22=>
(faP 2 false 1 t22).bind fun t23=>
(ld1 t23 (onS p20.2)).bind fun p24=>
(qbu p24.1 (onS p24.2)).bind fun p25=>
(qa4 E0 .lss 3 false false p20.1 p25.1).bind fun t26=>
qfq [(3,[7,8])] p15.2 [[],[],[],p20.2.log,[],[],[],p24.2.log,p25.2.log,[]] (onS p25.2) fun S27=>
ifK t26 (
(qa2 x0).bind fun t29=>
(faP 2 false 1 t29).bind fun t30=>
(ld1 t30 (onS S27)).bind fun p31=>
(qa2 x0).bind fun t33=>
(faP 3 false 1 t33).bind fun t34=>
(ld1 t34 (onS p31.2)).bind fun p35=>
(qa4 E0 .add 3 false true p35.1 (.int .i64 1)).bind fun t36=>
(qbj E0 9 p31.1 (some t36) none none (onS p35.2)).bind fun p37=>
qi6 (qao E0 (B25.r.r.r.r.l.r.l.r.l).ops) S27 10 [[],[],[],p31.2.log,[],[],[],p35.2.log,[],p37.2.log] (self.f 31 [p37.1,(.int .u8 93)] (onS p37.2)) fun t38 S38=>
(qa4 E0 .add 3 false true t38 (.int .i64 1)).bind fun t39=>
qfq [(3,[7])] S27 [[],[],[],p31.2.log,[],[],[],p35.2.log,[],p37.2.log,S38.log,[],[]] (onS S38) fun S41=>
(qa4 E0 .gtr 3 false true t39 (.int .i64 0)).bind fun t43=>
qad (self.f 18 [t43] S41) fun t44 S44=>
(qa2 x0).bind fun t46=>
(faP 2 false 1 t46).bind fun t47=>
(ld1 t47 (onS S44)).bind fun p48=>
(qa2 x0).bind fun t50=>
(faP 3 false 1 t50).bind fun t51=>
(ld1 t51 (onS p48.2)).bind fun p52=>
(qa2 x0).bind fun t54=>
(faP 3 false 1 t54).bind fun t55=>
(ld1 t55 (onS p52.2)).bind fun p56=>
(qa4 E0 .add 3 false false p56.1 t39).bind fun t58=>
(qbj E0 9 p48.1 (some p52.1) (some t58) none (onS p56.2)).bind fun p59=>
qfq [(3,[7,11]),(7,[11])] S44 [[],[],[],p48.2.log,[],[],[],p52.2.log,[],[],[],p56.2.log,[],[],p59.2.log,[]] (onS p59.2) fun S61=>
(qa2 x0).bind fun t63=>
(faP 3 false 1 t63).bind fun t64=>
(ld1 t64 S61).bind fun p65=>
(qa4 E0 .add 3 false true t39 (.int .i64 1)).bind fun t67=>
(qa4 E0 .add 3 false false p65.1 t67).bind fun t68=>
(qa2 x0).bind fun t69=>
(faP 3 false 1 t69).bind fun t70=>
(stP 1 t70 t68 p65.2).bind fun p71=>
qe1 self N (qfw self N (fun a s=>qa6 [2] a fun a=>(fun a s=>qa6 [2] a fun a=>(qbg E0 self Try.f25) a s) a s) qav) (exB 0 (qfw self N (fun a s=>qa6 [2] a fun a=>(fun a s=>qa6 [2] a fun a=>(qbg E0 self Try.f25) a s) a s) qav) qav) N x0 p2.1 t5 p59.1 (.int .i64 0) p71.2) (
(qa4 E0 .gtr 3 false true (.int .i64 (-1)) (.int .i64 0)).bind fun t206=>
qad (self.f 18 [t206] S27) fun t207 S207=>
(qa2 x0).bind fun t209=>
(faP 2 false 1 t209).bind fun t210=>
(ld1 t210 (onS S207)).bind fun p211=>
(qa2 x0).bind fun t213=>
(faP 3 false 1 t213).bind fun t214=>
(ld1 t214 (onS p211.2)).bind fun p215=>
(qa2 x0).bind fun t217=>
(faP 3 false 1 t217).bind fun t218=>
(ld1 t218 (onS p215.2)).bind fun p219=>
(qa4 E0 .add 3 false false p219.1 (.int .i64 (-1))).bind fun t221=>
(qbj E0 9 p211.1 (some p215.1) (some t221) none (onS p219.2)).bind fun p222=>
qfq [(3,[7,11]),(7,[11])] S207 [[],[],[],p211.2.log,[],[],[],p215.2.log,[],[],[],p219.2.log,[],[],p222.2.log,[]] (onS p222.2) fun S224=>
(qa2 x0).bind fun t226=>
(faP 3 false 1 t226).bind fun t227=>
(ld1 t227 S224).bind fun p228=>
(qa4 E0 .add 3 false true (.int .i64 (-1)) (.int .i64 1)).bind fun t230=>
(qa4 E0 .add 3 false false p228.1 t230).bind fun t231=>
(qa2 x0).bind fun t232=>
(faP 3 false 1 t232).bind fun t233=>
(stP 1 t233 t231 p228.2).bind fun p234=>
L25_261 self N (R25_235 self N (fun a s=>qa6 [2] a fun a=>(fun a s=>qa6 [2] a fun a=>(qbg E0 self Try.f25) a s) a s) qav) (exB 0 (R25_235 self N (fun a s=>qa6 [2] a fun a=>(fun a s=>qa6 [2] a fun a=>(qbg E0 self Try.f25) a s) a s) qav) qav) N x0 p2.1 t5 p222.1 (.int .i64 0) p234.2)) (
(qa2 x0).bind fun t370=>
(faP 3 false 1 t370).bind fun t371=>
(ld1 t371 (onS S5)).bind fun p372=>
(qa2 x0).bind fun t374=>
(faP 2 false 1 t374).bind fun t375=>
(ld1 t375 (onS p372.2)).bind fun p376=>
(qbu p376.1 (onS p376.2)).bind fun p377=>
(qa4 E0 .lss 3 false false p372.1 p377.1).bind fun t378=>
qfq [(3,[7,8])] S5 [[],[],[],p372.2.log,[],[],[],p376.2.log,p377.2.log,[]] (onS p377.2) fun S379=>
ifK t378 (
(qa2 x0).bind fun t381=>
(faP 2 false 1 t381).bind fun t382=>
(ld1 t382 (onS S379)).bind fun p383=>
(qa2 x0).bind fun t385=>
(faP 3 false 1 t385).bind fun t386=>
(ld1 t386 (onS p383.2)).bind fun p387=>
(qa4 E0 .add 3 false true p387.1 (.int .i64 1)).bind fun t388=>
(qbj E0 9 p383.1 (some t388) none none (onS p387.2)).bind fun p389=>
qi6 (qao E0 (B25.r.r.r.r.l.r.l.r.l).ops) S379 10 [[],[],[],p383.2.log,[],[],[],p387.2.log,[],p389.2.log] (self.f 31 [p389.1,(.int .u8 93)] (onS p389.2)) fun t390 S390=>
(qa4 E0 .add 3 false true t390 (.int .i64 1)).bind fun t391=>
qfq [(3,[7])] S379 [[],[],[],p383.2.log,[],[],[],p387.2.log,[],p389.2.log,S390.log,[],[]] (onS S390) fun S393=>
(qa4 E0 .gtr 3 false true t391 (.int .i64 0)).bind fun t395=>
qad (self.f 18 [t395] S393) fun t396 S396=>
(qa2 x0).bind fun t398=>
(faP 2 false 1 t398).bind fun t399=>
(ld1 t399 (onS S396)).bind fun p400=>
(qa2 x0).bind fun t402=>
(faP 3 false 1 t402).bind fun t403=>
(ld1 t403 (onS p400.2)).bind fun p404=>
(qa2 x0).bind fun t406=>
(faP 3 false 1 t406).bind fun t407=>
(ld1 t407 (onS p404.2)).bind fun p408=>
(qa4 E0 .add 3 false false p408.1 t391).bind fun t410=>
(qbj E0 9 p400.1 (some p404.1) (some t410) none (onS p408.2)).bind fun p411=>
qfq [(3,[7,11]),(7,[11])] S396 [[],[],[],p400.2.log,[],[],[],p404.2.log,[],[],[],p408.2.log,[],[],p411.2.log,[]] (onS p411.2) fun S413=>
(qa2 x0).bind fun t415=>
(faP 3 false 1 t415).bind fun t416=>
(ld1 t416 S413).bind fun p417=>
(qa4 E0 .add 3 false true t391 (.int .i64 1)).bind fun t419=>
(qa4 E0 .add 3 false false p417.1 t419).bind fun t420=>
(qa2 x0).bind fun t421=>
(faP 3 false 1 t421).bind fun t422=>
(stP 1 t422 t420 p417.2).bind fun p423=>
L25_450 self N (R25_424 self N (fun a s=>qa6 [2] a fun a=>(fun a s=>qa6 [2] a fun a=>(qbg E0 self Try.f25) a s) a s) qav) (exB 0 (R25_424 self N (fun a s=>qa6 [2] a fun a=>(fun a s=>qa6 [2] a fun a=>(qbg E0 self Try.f25) a s) a s) qav) qav) N x0 p2.1 t5 p411.1 (.int .i64 0) p423.2) (
(qa4 E0 .gtr 3 false true (.int .i64 (-1)) (.int .i64 0)).bind fun t558=>
qad (self.f 18 [t558] S379) fun t559 S559=>
(qa2 x0).bind fun t561=>
(faP 2 false 1 t561).bind fun t562=>
(ld1 t562 (onS S559)).bind fun p563=>
(qa2 x0).bind fun t565=>
(faP 3 false 1 t565).bind fun t566=>
(ld1 t566 (onS p563.2)).bind fun p567=>
(qa2 x0).bind fun t569=>
(faP 3 false 1 t569).bind fun t570=>
(ld1 t570 (onS p567.2)).bind fun p571=>
(qa4 E0 .add 3 false false p571.1 (.int .i64 (-1))).bind fun t573=>
(qbj E0 9 p563.1 (some p567.1) (some t573) none (onS p571.2)).bind fun p574=>
qfq [(3,[7,11]),(7,[11])] S559 [[],[],[],p563.2.log,[],[],[],p567.2.log,[],[],[],p571.2.log,[],[],p574.2.log,[]] (onS p574.2) fun S576=>
(qa2 x0).bind fun t578=>
(faP 3 false 1 t578).bind fun t579=>
(ld1 t579 S576).bind fun p580=>
(qa4 E0 .add 3 false true (.int .i64 (-1)) (.int .i64 1)).bind fun t582=>
(qa4 E0 .add 3 false false p580.1 t582).bind fun t583=>
(qa2 x0).bind fun t584=>
(faP 3 false 1 t584).bind fun t585=>
(stP 1 t585 t583 p580.2).bind fun p586=>
L25_613 self N (R25_587 self N (fun a s=>qa6 [2] a fun a=>(fun a s=>qa6 [2] a fun a=>(qbg E0 self Try.f25) a s) a s) qav) (exB 0 (R25_587 self N (fun a s=>qa6 [2] a fun a=>(fun a s=>qa6 [2] a fun a=>(qbg E0 self Try.f25) a s) a s) qav) qav) N x0 p2.1 t5 p574.1 (.int .i64 0) p586.2)):=by kernel_rfl
end
end Go.Proofs.Ytachpdpmoihjmaa.W
namespace Go.Proofs.Ytachpdpmoihjmaa.W
open Go.Proofs.Ytachpdpmoihjmaa.Ev
theorem nev_bool (a b:Bool):qa4 E0 .neq 4 false false (.bool a) (.bool b)=some (.bool (!(a==b))):=by cases a<;>cases b<;>kernel_rfl
theorem qg0 (c v:UInt8) (n:Int) (h:n=(v.toNat:Int)):decide ((c.toNat:Int)=n)=(c==v):=by
 subst h;by_cases e:c=v
 . subst e; simp
 . rw[beq_false_of_ne e,decide_eq_false_iff_not]
   exact fun h=>e (UInt8.toNat_inj.1 (by omega))
theorem plus_sv (a b:List UInt8) (c d:Bool) (h:a.length+b.length<=100000):qa4 E0 .add 9 c d (sv a) (sv b)=some (sv (a++b)):=by
 rw[binV_ss,strOp_add _ _ (by omega)]
theorem Stp.set {t:Tr V} {p:UInt8->Bool} {k to:Int} (h:Stp t p k to) (c:UInt8) (q:Bool):Stp (t.set (.bool q) c.toNat) (fun x=>bif x==c then q else p x) k to:=by
 have hc:=c.toNat_lt;refine⟨fun x=>?_,?_,?_⟩
 . rw[Tr.get_set]
   by_cases e:x.toNat=c.toNat
   . rw[iP e,UInt8.toNat_inj.1 e]; simp
   . rw[iN e,h.has x,show(x==c)=false from beq_false_of_ne fun e'=>e (by rw[e'])]; rfl
 . rw[Tr.get_set,iN (by omega)]; exact h.kind
 . rw[Tr.get_set,iN (by omega)]; exact h.to_
theorem Stp.ext {t:Tr V} {p q:UInt8->Bool} {k to:Int} (h:Stp t p k to) (e:∀c,p c=q c):Stp t q k to:=⟨fun c=>by rw[h.has,e],h.kind,h.to_⟩
theorem nat_u8 {n:Nat} (h:n<256):(UInt8.ofNat n).toNat=n:=by rw[UInt8.toNat_ofNat']; omega
section
variable {S:St}
theorem set_st (ho:S.on=false) {x:Nat} {tr:Tr V} {p:UInt8->Bool} (h:AgAt S x 50 258 tr) (hs:Stp tr p 0 0) (c:UInt8) (q:Bool):∃U tr',stP 1 (.ptr x c.toNat) (.bool q) S=some (.tuple [],U)/\AgAt U x 50 258 tr'/\Stp tr' (fun y=>bif y==c then q else p y) 0 0/\Grew (fun y=>y=x) S U/\U.next=S.next:=by
 have hc:=c.toNat_lt;obtain⟨U,a1,a2,a3,a4⟩:=h.st1 ho qdb (by omega) (i:=c.toNat) (by omega) (.bool q) rfl rfl rfl;exact⟨U,_,a1,a2,hs.set c q,a3,a4⟩
theorem set_ix (x:Nat) (c:UInt8) (k:IntKind):ixA 256 1 false 1 (.ptr x 0) (.int k (c.toNat:Int))=some (.ptr x c.toNat):=by
 rw[qja 256 1 false 1 k c.toNat_lt,Nat.zero_add,Nat.mul_one]
theorem L24_spec (self:EV) (N:Nat) (nk:Ac->St->Rs) (ek:Nat->Ac->St->Rs) (v0:V) (x:Nat) :
 ∀(d n f:Nat) (tr:Tr V) (p:UInt8->Bool) (S:St),S.on=false->AgAt S x 50 258 tr->Stp tr p 0 0->d+n=256->d<f->
 ∃U tr',L24_10 self N nk ek f v0 (.ptr x 0) (.int .i64 (n:Int)) S=ek 0 (fr 17 [(0,v0),(3,.ptr x 0)]) U/\AgAt U x 50 258 tr'/\Stp tr' (fun c=>decide (n<=c.toNat)||p c) 0 0/\Grew (fun y=>y=x) S U
 | d,n,0,tr,p,S,_,_,_,_,hf=>by omega
 | 0,n,f+1,tr,p,S,ho,h,hs,hn,hf=>by
  refine⟨S,tr,?_,h,hs.ext fun c=>?_,Grew.refl _ _⟩
  . rw[L24_10_eq,binV_ii,intsV_lss,show decide ((n:Int)<256)=false by rw[decide_eq_false_iff_not]; omega,oB,ifK_bool,cF]
  . have:=c.toNat_lt
    rw[dF (by omega),Bool.false_or]
 | d+1,n,f+1,tr,p,S,ho,h,hs,hn,hf=>by
  have hb:=nat_u8 (n:=n) (by omega);obtain⟨S1,t1,a1,a2,a3,a4,a5⟩:=set_st ho h hs (UInt8.ofNat n) true;obtain⟨U,t2,b1,b2,b3,b4⟩:=L24_spec self N nk ek v0 x d (n+1) f t1 _ S1 (a4.on.trans ho) a2 a3 (by omega) (by omega);refine⟨U,t2,?_,b2,b3.ext fun c=>?_,a4.trans b4⟩
  . have hix:=set_ix x (UInt8.ofNat n) .i64
    rw[hb]at hix a1;rw[L24_10_eq,binV_ii,intsV_lss,show decide ((n:Int)<256)=true by rw[decide_eq_true_eq]; omega,oB,ifK_bool,cT,qcn,oB,qcn,oB,Nat.zero_add,hix,oB,a1,oB];dsimp only;rw[binV_ii,intsV_add,qa5 (by omega),oB,b1]
  . by_cases e:c.toNat=n
    . have:c=UInt8.ofNat n:=UInt8.toNat_inj.1 (by rw[hb]; exact e)
      rw[show(c==UInt8.ofNat n)=true by rw[this]; simp,cT,dT (show n<=c.toNat by omega)];simp
    . rw[show(c==UInt8.ofNat n)=false from beq_false_of_ne fun e'=>e (by rw[e',hb]),cF]
      by_cases h1:n+1<=c.toNat
      . rw[dT h1,dT (show n<=c.toNat by omega)]
      . rw[dF h1,dF (show ¬n<=c.toNat by omega)]
theorem F24_z:∃Z:Tr V,∀(self:EV) (N:Nat) (x0:V) (S:St),F24 self N x0 S =
(qau E0 50 [(1,(.int .i64 0))]).bind fun t1=>
(some (nwP 50 258 Z S)).bind fun p2=>
(stP 258 p2.1 t1 p2.2).bind fun p3=>
L24_10 self N (R24_4 self N (qbg E0 self Try.f24) qav) (exB 0 (R24_4 self N (qbg E0 self Try.f24) qav) qav) N x0 p2.1 (.int .i64 0) p3.2:=⟨_,fun self N x0 S=>F24_eq self N x0 S⟩
variable {gr dp:Nat} {b N0 i:Nat} {s:List UInt8} {f:Bool} {lv:V} {acc:List (Tr V)}
theorem point_run {K:FuncId->Option KF} (h13:K 13=none) (h24:K 24=none) (m:Nat) (h:Rdr gr dp S b N0 s i f lv acc) (hl:acc.length<=3000) :
 ∃T lv' tr,(ev E0 K (m+2)).f 24 [.ptr b 0] S=some (.ret (.bool false),T)/\Stp tr (fun _=>true) 0 0/\Rdr gr dp T b N0 s i f lv' (acc++[tr])/\Grew (fun x=>N0<=x) S T:=by
 obtain⟨Z,hZ⟩:=F24_z;have ho:=h.on;have hlo:=h.lo;have hhi:=h.hi;obtain⟨a1,a2,a3⟩:=qe2 ho 50 258 Z;have on1:(nwP 50 258 Z S).2.on=false:=qfs ho _;obtain⟨S2,b1,b2,b3,b4⟩:=a1.stA on1 qdb (TK 0);have on2:=b3.on.trans on1;have g2:Grew (fun _=>False) S S2:=a2.own (lR _) b3;obtain⟨S3,tr,c1,c2,c3,c4⟩:=L24_spec (ev E0 K (m+1)) qa3 (R24_4 (ev E0 K (m+1)) qa3 (qbg E0 (ev E0 K (m+1)) Try.f24) qav) (exB 0 (R24_4 (ev E0 K (m+1)) qa3 (qbg E0 (ev E0 K (m+1)) Try.f24) qav) qav) (.ptr b 0) S.next 256 0 qa3 (TK 0) (fun _=>false) S2 on2 b2 stp_0 rfl (by unfold qa3; omega)
 have on3:=c4.on.trans on2;have g3:Grew (fun _=>False) S S3:=g2.own (lR _) c4;have h3:Rdr gr dp S3 b N0 s i f lv acc:=h.grew (fun _ _ _ h=>h) g3;obtain⟨T,lv',d1,d2,d3⟩:=qen h13 m h3 hl tr;refine⟨T,lv',tr,qax (c:=C24) (d:=B24) (by kernel_rfl) (by kernel_rfl) (qa7 C24 _ (by kernel_rfl)) h24 (?_:F24 (ev E0 K (m+1)) qa3 (.ptr b 0) S=_),c3.ext (fun c=>by simp),d2,(g3.mono fun _ _ h=>h.elim).trans d3⟩;rw[show((0:Nat):Int)=0 from rfl]at c1;rw[hZ,build_0,oB,oB];rw[qde,b1,oB];dsimp only;rw[c1,exB_same,R24_4_eq,c2.ldA on3 qdb,oB];dsimp only;rw[d1,callP_ret]
end
section
variable {S:St}
theorem L79q_spec (self:EV) (N:Nat) (nk:Ac->St->Rs) (ek:Nat->Ac->St->Rs) (v0:V) (x:Nat) (nt:Bool) :
 ∀(d n f:Nat) (tr:Tr V) (p:UInt8->Bool) (S:St),S.on=false->AgAt S x 50 258 tr->Stp tr p 0 0->d+n=256->d<f->
 ∃U tr',L25_79 self N nk ek f v0 (.ptr x 0) (.bool nt) (.int .i64 (n:Int)) S=ek 4 (fr 151 [(0,v0),(3,.ptr x 0)]) U/\AgAt U x 50 258 tr'/\Stp tr' (fun c=>bif decide (n<=c.toNat)then !(p c==nt)else p c) 0 0/\Grew (fun y=>y=x) S U
 | d,n,0,tr,p,S,_,_,_,_,hf=>by omega
 | 0,n,f+1,tr,p,S,ho,h,hs,hn,hf=>by
  refine⟨S,tr,?_,h,hs.ext fun c=>?_,Grew.refl _ _⟩
  . rw[L25_79_eq,binV_ii,intsV_lss,show decide ((n:Int)<256)=false by rw[decide_eq_false_iff_not]; omega,oB,ifK_bool,cF]
  . have:=c.toNat_lt
    rw[dF (by omega),cF]
 | d+1,n,f+1,tr,p,S,ho,h,hs,hn,hf=>by
  have hb:=nat_u8 (n:=n) (by omega);have hget:=hs.has (UInt8.ofNat n);rw[hb]at hget;obtain⟨S1,t1,a1,a2,a3,a4,a5⟩:=set_st ho h hs (UInt8.ofNat n) (!(p (UInt8.ofNat n)==nt));obtain⟨U,t2,b1,b2,b3,b4⟩:=L79q_spec self N nk ek v0 x nt d (n+1) f t1 _ S1 (a4.on.trans ho) a2 a3 (by omega) (by omega);refine⟨U,t2,?_,b2,b3.ext fun c=>?_,a4.trans b4⟩
  . have hix:=set_ix x (UInt8.ofNat n) .i64
    rw[hb]at hix a1;rw[L25_79_eq,binV_ii,intsV_lss,show decide ((n:Int)<256)=true by rw[decide_eq_true_eq]; omega,oB,ifK_bool,cT,qcn,oB,qcn,oB,Nat.zero_add,hix,oB,h.ld1 ho qdb (by omega) hget,oB];dsimp only;rw[nev_bool,oB,oB,qcn,oB,Nat.zero_add,hix,oB,a1,oB];dsimp only;rw[binV_ii,intsV_add,qa5 (by omega),oB,b1]
  . by_cases e:c.toNat=n
    . have:c=UInt8.ofNat n:=UInt8.toNat_inj.1 (by rw[hb]; exact e)
      rw[dF (show ¬n+1<=c.toNat by omega),cF,show(c==UInt8.ofNat n)=true by rw[this]; simp,cT,dT (show n<=c.toNat by omega),cT,this]
    . rw[show(c==UInt8.ofNat n)=false from beq_false_of_ne fun e'=>e (by rw[e',hb]),cF]
      by_cases h1:n+1<=c.toNat
      . rw[dT h1,dT (show n<=c.toNat by omega)]
      . rw[dF h1,dF (show ¬n<=c.toNat by omega)]
theorem projQ (f:Ac->St->Rs) (v0 v3 v4 v6 v7:V) (S:St):(fun a s=>qa6 [0,3,4,6,7] a fun a=>f a s) (fr 151 [(0,v0),(3,v3),(4,v4),(6,v6),(7,v7)]) S=f (fr 151 [(0,v0),(3,v3),(4,v4),(6,v6),(7,v7)]) S:=by kernel_rfl
end
noncomputable def qhh (self:EV) (N:Nat) (x0 v3 t5:V) (S15:St):Rs:=
(qa2 x0).bind fun t18=>
(faP 3 false 1 t18).bind fun t19=>
(ld1 t19 (onS S15)).bind fun p20=>
(qa2 x0).bind fun t22=>
(faP 2 false 1 t22).bind fun t23=>
(ld1 t23 (onS p20.2)).bind fun p24=>
(qbu p24.1 (onS p24.2)).bind fun p25=>
(qa4 E0 .lss 3 false false p20.1 p25.1).bind fun t26=>
qfq [(3,[7,8])] S15 [[],[],[],p20.2.log,[],[],[],p24.2.log,p25.2.log,[]] (onS p25.2) fun S27=>
ifK t26 (
(qa2 x0).bind fun t29=>
(faP 2 false 1 t29).bind fun t30=>
(ld1 t30 (onS S27)).bind fun p31=>
(qa2 x0).bind fun t33=>
(faP 3 false 1 t33).bind fun t34=>
(ld1 t34 (onS p31.2)).bind fun p35=>
(qa4 E0 .add 3 false true p35.1 (.int .i64 1)).bind fun t36=>
(qbj E0 9 p31.1 (some t36) none none (onS p35.2)).bind fun p37=>
qi6 (qao E0 (B25.r.r.r.r.l.r.l.r.l).ops) S27 10 [[],[],[],p31.2.log,[],[],[],p35.2.log,[],p37.2.log] (self.f 31 [p37.1,(.int .u8 93)] (onS p37.2)) fun t38 S38=>
(qa4 E0 .add 3 false true t38 (.int .i64 1)).bind fun t39=>
qfq [(3,[7])] S27 [[],[],[],p31.2.log,[],[],[],p35.2.log,[],p37.2.log,S38.log,[],[]] (onS S38) fun S41=>
(qa4 E0 .gtr 3 false true t39 (.int .i64 0)).bind fun t43=>
qad (self.f 18 [t43] S41) fun t44 S44=>
(qa2 x0).bind fun t46=>
(faP 2 false 1 t46).bind fun t47=>
(ld1 t47 (onS S44)).bind fun p48=>
(qa2 x0).bind fun t50=>
(faP 3 false 1 t50).bind fun t51=>
(ld1 t51 (onS p48.2)).bind fun p52=>
(qa2 x0).bind fun t54=>
(faP 3 false 1 t54).bind fun t55=>
(ld1 t55 (onS p52.2)).bind fun p56=>
(qa4 E0 .add 3 false false p56.1 t39).bind fun t58=>
(qbj E0 9 p48.1 (some p52.1) (some t58) none (onS p56.2)).bind fun p59=>
qfq [(3,[7,11]),(7,[11])] S44 [[],[],[],p48.2.log,[],[],[],p52.2.log,[],[],[],p56.2.log,[],[],p59.2.log,[]] (onS p59.2) fun S61=>
(qa2 x0).bind fun t63=>
(faP 3 false 1 t63).bind fun t64=>
(ld1 t64 S61).bind fun p65=>
(qa4 E0 .add 3 false true t39 (.int .i64 1)).bind fun t67=>
(qa4 E0 .add 3 false false p65.1 t67).bind fun t68=>
(qa2 x0).bind fun t69=>
(faP 3 false 1 t69).bind fun t70=>
(stP 1 t70 t68 p65.2).bind fun p71=>
qe1 self N (qfw self N (fun a s=>qa6 [2] a fun a=>(fun a s=>qa6 [2] a fun a=>(qbg E0 self Try.f25) a s) a s) qav) (exB 0 (qfw self N (fun a s=>qa6 [2] a fun a=>(fun a s=>qa6 [2] a fun a=>(qbg E0 self Try.f25) a s) a s) qav) qav) N x0 v3 t5 p59.1 (.int .i64 0) p71.2) (
(qa4 E0 .gtr 3 false true (.int .i64 (-1)) (.int .i64 0)).bind fun t206=>
qad (self.f 18 [t206] S27) fun t207 S207=>
(qa2 x0).bind fun t209=>
(faP 2 false 1 t209).bind fun t210=>
(ld1 t210 (onS S207)).bind fun p211=>
(qa2 x0).bind fun t213=>
(faP 3 false 1 t213).bind fun t214=>
(ld1 t214 (onS p211.2)).bind fun p215=>
(qa2 x0).bind fun t217=>
(faP 3 false 1 t217).bind fun t218=>
(ld1 t218 (onS p215.2)).bind fun p219=>
(qa4 E0 .add 3 false false p219.1 (.int .i64 (-1))).bind fun t221=>
(qbj E0 9 p211.1 (some p215.1) (some t221) none (onS p219.2)).bind fun p222=>
qfq [(3,[7,11]),(7,[11])] S207 [[],[],[],p211.2.log,[],[],[],p215.2.log,[],[],[],p219.2.log,[],[],p222.2.log,[]] (onS p222.2) fun S224=>
(qa2 x0).bind fun t226=>
(faP 3 false 1 t226).bind fun t227=>
(ld1 t227 S224).bind fun p228=>
(qa4 E0 .add 3 false true (.int .i64 (-1)) (.int .i64 1)).bind fun t230=>
(qa4 E0 .add 3 false false p228.1 t230).bind fun t231=>
(qa2 x0).bind fun t232=>
(faP 3 false 1 t232).bind fun t233=>
(stP 1 t233 t231 p228.2).bind fun p234=>
L25_261 self N (R25_235 self N (fun a s=>qa6 [2] a fun a=>(fun a s=>qa6 [2] a fun a=>(qbg E0 self Try.f25) a s) a s) qav) (exB 0 (R25_235 self N (fun a s=>qa6 [2] a fun a=>(fun a s=>qa6 [2] a fun a=>(qbg E0 self Try.f25) a s) a s) qav) qav) N x0 v3 t5 p222.1 (.int .i64 0) p234.2)
theorem F25_z:∃Z:Tr V,∀(self:EV) (N:Nat) (x0:V) (S:St),F25 self N x0 S =
(qau E0 50 [(1,(.int .i64 0))]).bind fun t1=>
(some (nwP 50 258 Z S)).bind fun p2=>
(stP 258 p2.1 t1 p2.2).bind fun p3=>
qad (self.f 16 [x0,(sv [94])] p3.2) fun t5 S5=>
ifK t5 (
(qa2 x0).bind fun t9=>
(faP 3 false 1 t9).bind fun t10=>
(ld1 t10 S5).bind fun p11=>
(qa4 E0 .add 3 false true p11.1 (.int .i64 1)).bind fun t12=>
(qa2 x0).bind fun t13=>
(faP 3 false 1 t13).bind fun t14=>
(stP 1 t14 t12 p11.2).bind fun p15=>
qhh self N x0 p2.1 t5 p15.2) (
qhh self N x0 p2.1 t5 S5):=⟨_,fun self N x0 S=>F25_eq self N x0 S⟩
section
variable {gr dp:Nat} {S:St} {b N0 i:Nat} {s:List UInt8} {f:Bool} {lv:V} {acc:List (Tr V)}
theorem Rdr.putI' (h:Rdr gr dp S b N0 s i f lv acc) (j:Nat):∃T,stP 1 (.ptr b 3) (.int .i64 (j:Int)) S=some (.tuple [],T)/\Rdr gr dp T b N0 s j f lv acc/\Grew (fun x=>x=b) S T:=by
 have hst:=bx_st6 (v:=.int .i64 (j:Int)) (m:=r6 gr dp lv s j f) h.on h.bx rfl rfl (by omega) (set6_3 _ _ _ _ _ _ _) rfl rfl rfl;have g:Grew (fun x=>x=b) S (S.put b (bxO 44 (r6 gr dp lv s j f))):=qbz b _;exact⟨_,hst,⟨h.on,h.lo,h.hi,bx_put b 44 _,h.steps.grew (fun r hr _ _=>ql8 h.bx hr) g⟩,g⟩
theorem Rdr.off (h:Rdr gr dp S b N0 s i f lv acc) {x:Nat} (hxb:x≠b) (hxr:∀r n z c,lv=.oslice r n z c->r≠x) {T:St} (g:Grew (fun y=>y=x) S T):Rdr gr dp T b N0 s i f lv acc:=by
 refine⟨g.on.trans h.on,h.lo,Nat.lt_of_lt_of_le h.hi g.next,h.bx.grew h.hi (fun e=>hxb e.symm) g,?_⟩;rcases h.steps with h1|⟨h1,r,h2,h3,h4,h5⟩
 . exact .inl h1
 . exact .inr ⟨h1,r,h2,h3.grew h5 (hxr r _ _ _ h2) g,h4,Nat.lt_of_lt_of_le h5 g.next⟩
end
end Go.Proofs.Ytachpdpmoihjmaa.W
