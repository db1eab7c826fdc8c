/-
  WHAT THE FUNCTIONS COME TO: each is read by the evaluator, printed, and told as a function of data, part 3 of 7 (no condition).
-/
import Derived.Test.YtachpdpmoihjmaaW2
import Derived.Test.YtachpdpmoihjmaaProg
import Derived.KernelRfl
import Derived.OpenShut
import Derived.ProofKit
import Derived.WalkKit
namespace Go.Proofs.Ytachpdpmoihjmaa.W
open Go.Proofs.Ytachpdpmoihjmaa.Ev
set_option maxRecDepth 100000
noncomputable section
noncomputable def C25 : Code := Try.f25.body.getD .skip
noncomputable def B25 : D := (annot C25 [[], [], [], [], [0, 0, 3, 4], [2], [], [], [0, 0, 3, 4, 5], [2], [], [], [], [], [0, 3, 4, 6, 7], [], [0, 3, 4], [], [], [], [], [0, 0, 3, 4, 6, 7, 8], [0, 3, 4, 6, 7], [], [0, 3, 4, 6, 7, 8, 9], [], [0, 3, 4, 6, 7], [], [], [0, 0, 3, 4, 6, 7], [0, 3, 4, 6, 7], [], [0, 0, 3, 4, 6, 7], [0, 3, 4, 6, 7], [0, 0, 3, 4], [2], [], [0, 3, 4, 133], [], [0, 3], [], [], [], [0, 0, 3], [2], [], []]).1
noncomputable def RL25 : List Nat := cellsOf Try.f25.results.toList
noncomputable def R25_72 (self : EV) (N : Nat) (nk : Ac → St → Rs) (ek : Nat → Ac → St → Rs) (a : Ac) (S : St) : Rs := projK [0, 3, 4] a fun a => dr E0 self RL25 N (B25.r.r.r.r.l.r.r.l.r.r.r).r (mkK E0 self Try.f25 nk ek) a S
noncomputable def R25_73 (self : EV) (N : Nat) (nk : Ac → St → Rs) (ek : Nat → Ac → St → Rs) (a : Ac) (S : St) : Rs := projK [0, 3] a fun a => dr E0 self RL25 N (B25.r.r.r.r.l.r.r.l.r.r.r.r.l).r (mkK E0 self Try.f25 nk ek) a S
theorem R25_73_eq (self : EV) (N : Nat) (nk : Ac → St → Rs) (ek : Nat → Ac → St → Rs) ( v0 v3 : V) (S : St) : R25_73 self N nk ek (fr 151 [(0, v0), (3, v3)]) S =
(ldA 258 v3 S).bind fun p75 =>
callP (self.f 13 [v0, p75.1] p75.2) fun t76 S76 =>
some (.ret (.bool false), S76) := by kernel_rfl
noncomputable def L25_79 (self : EV) (N : Nat) (nk : Ac → St → Rs) (ek : Nat → Ac → St → Rs) (n : Nat) ( v0 v3 v4 v133 : V) (S : St) : Rs := loopK [0, 3, 4, 133] (dr E0 self RL25 N (B25.r.r.r.r.l.r.r.l.r.r.r.r.l.l.r.l.l)) (mkK E0 self Try.f25 nk ek) n (fr 151 [(0, v0), (3, v3), (4, v4), (133, v133)]) S
theorem L25_79_eq (self : EV) (N : Nat) (nk : Ac → St → Rs) (ek : Nat → Ac → St → Rs) (n : Nat) ( v0 v3 v4 v133 : V) (S : St) : L25_79 self N nk ek (n + 1) v0 v3 v4 v133 S =
(binV E0 .lss 3 false true v133 (.int .i64 256)).bind fun t80 =>
ifK t80 (
(faP 0 true 256 v3).bind fun t85 =>
(faP 0 true 256 t85).bind fun t86 =>
(ixA 256 1 false 1 t86 v133).bind fun t87 =>
(ld1 t87 S).bind fun p88 =>
(binV E0 .neq 4 false false p88.1 v4).bind fun t90 =>
(faP 0 true 256 v3).bind fun t91 =>
(faP 0 true 256 t91).bind fun t92 =>
(ixA 256 1 false 1 t92 v133).bind fun t93 =>
(stP 1 t93 t90 p88.2).bind fun p94 =>
(binV E0 .add 3 false true v133 (.int .i64 1)).bind fun t95 =>
L25_79 self N nk ek n v0 v3 v4 t95 p94.2) (
ek 4 (fr 151 [(0, v0), (3, v3)]) S) := by kernel_rfl
theorem R25_72_eq (self : EV) (N : Nat) (nk : Ac → St → Rs) (ek : Nat → Ac → St → Rs) ( v0 v3 v4 : V) (S : St) : R25_72 self N nk ek (fr 151 [(0, v0), (3, v3), (4, v4)]) S =
L25_79 self N (R25_73 self N (fun a s => projK [2] a fun a => nk a s) ek) (exB 4 (R25_73 self N (fun a s => projK [2] a fun a => nk a s) ek) ek) N v0 v3 v4 (.int .i64 0) S := by kernel_rfl
noncomputable def N25_98 (self : EV) (N : Nat) (nk : Ac → St → Rs) (ek : Nat → Ac → St → Rs) (n : Nat) : Ac → St → Rs := fun a S => projK [0, 3, 4, 6, 7] a fun a => loopK [0, 3, 4, 6, 7] (dr E0 self RL25 N (B25.r.r.r.r.l.r.r.l.r.r.r.l.r.l.l)) (mkK E0 self Try.f25 nk ek) n a S
noncomputable def L25_98 (self : EV) (N : Nat) (nk : Ac → St → Rs) (ek : Nat → Ac → St → Rs) (n : Nat) ( v0 v3 v4 v6 v7 : V) (S : St) : Rs := loopK [0, 3, 4, 6, 7] (dr E0 self RL25 N (B25.r.r.r.r.l.r.r.l.r.r.r.l.r.l.l)) (mkK E0 self Try.f25 nk ek) n (fr 151 [(0, v0), (3, v3), (4, v4), (6, v6), (7, v7)]) S
noncomputable def R25_103 (self : EV) (N : Nat) (nk : Ac → St → Rs) (ek : Nat → Ac → St → Rs) (a : Ac) (S : St) : Rs := projK [0, 3, 4, 6, 7] a fun a => dr E0 self RL25 N (B25.r.r.r.r.l.r.r.l.r.r.r.l.r.l.l.r).r (mkK E0 self Try.f25 nk ek) a S
theorem R25_103_eq (self : EV) (N : Nat) (nk : Ac → St → Rs) (ek : Nat → Ac → St → Rs) ( v0 v3 v4 v6 v7 : V) (S : St) : R25_103 self N nk ek (fr 151 [(0, v0), (3, v3), (4, v4), (6, v6), (7, v7)]) S =
(binV E0 .add 3 false true v7 (.int .i64 1)).bind fun t105 =>
nk (fr 151 [(0, v0), (3, v3), (4, v4), (6, v6), (7, t105)]) S := by kernel_rfl
noncomputable def R25_137 (self : EV) (N : Nat) (nk : Ac → St → Rs) (ek : Nat → Ac → St → Rs) (a : Ac) (S : St) : Rs := projK [0, 3, 4, 6, 7] a fun a => dr E0 self RL25 N (B25.r.r.r.r.l.r.r.l.r.r.r.l.r.l.l.r.l.l.r.r.l).r (mkK E0 self Try.f25 nk ek) a S
noncomputable def L25_158 (self : EV) (N : Nat) (nk : Ac → St → Rs) (ek : Nat → Ac → St → Rs) (n : Nat) ( v0 v3 v4 v6 v7 v8 v9 : V) (S : St) : Rs := loopK [0, 3, 4, 6, 7, 8, 9] (dr E0 self RL25 N (B25.r.r.r.r.l.r.r.l.r.r.r.l.r.l.l.r.l.l.r.r.l.l.r.l.l)) (mkK E0 self Try.f25 nk ek) n (fr 151 [(0, v0), (3, v3), (4, v4), (6, v6), (7, v7), (8, v8), (9, v9)]) S
noncomputable def R25_171 (self : EV) (N : Nat) (nk : Ac → St → Rs) (ek : Nat → Ac → St → Rs) (a : Ac) (S : St) : Rs := projK [0, 3, 4, 6, 7] a fun a => dr E0 self RL25 N (B25.r.r.r.r.l.r.r.l.r.r.r.l.r.l.l.r.l.l.r.r.l).r (mkK E0 self Try.f25 nk ek) a S
theorem R25_171_eq (self : EV) (N : Nat) (nk : Ac → St → Rs) (ek : Nat → Ac → St → Rs) ( v0 v3 v4 v6 v7 : V) (S : St) : R25_171 self N nk ek (fr 151 [(0, v0), (3, v3), (4, v4), (6, v6), (7, v7)]) S =
(binV E0 .add 3 false true v7 (.int .i64 2)).bind fun t173 =>
(lnStr v6 S).bind fun p175 =>
(binV E0 .lss 3 false false t173 p175.1).bind fun t176 =>
(guardV true t176).bind fun g178 => (bif g178 then some v6 else some (.tuple [])).bind fun t178 =>
(guardV true t176).bind fun g179 => (bif g179 then some v7 else some (.tuple [])).bind fun t179 =>
(guardV true t176).bind fun g180 => (bif g180 then binV E0 .add 3 false true t179 (.int .i64 1) else some (.tuple [])).bind fun t180 =>
(guardV true t176).bind fun g181 => (bif g181 then ixS t178 t180 else some (.tuple [])).bind fun t181 =>
(guardV true t176).bind fun g182 => (bif g182 then binV E0 .eql 5 false true t181 (.int .u8 45) else some (.tuple [])).bind fun t182 =>
(pickV t176 (some t182) (some (.bool false))).bind fun t183 =>
ifK t183 (
(binV E0 .add 3 false true v7 (.int .i64 2)).bind fun t185 =>
nk (fr 151 [(0, v0), (3, v3), (4, v4), (6, v6), (7, t185)]) p175.2) (
nk (fr 151 [(0, v0), (3, v3), (4, v4), (6, v6), (7, v7)]) p175.2) := by kernel_rfl
noncomputable def L25_192 (self : EV) (N : Nat) (nk : Ac → St → Rs) (ek : Nat → Ac → St → Rs) (n : Nat) ( v0 v3 v4 v6 v7 v8 v9 : V) (S : St) : Rs := loopK [0, 3, 4, 6, 7, 8, 9] (dr E0 self RL25 N (B25.r.r.r.r.l.r.r.l.r.r.r.l.r.l.l.r.l.l.r.r.l.l.r.l.l)) (mkK E0 self Try.f25 nk ek) n (fr 151 [(0, v0), (3, v3), (4, v4), (6, v6), (7, v7), (8, v8), (9, v9)]) S
theorem L25_192_eq (self : EV) (N : Nat) (nk : Ac → St → Rs) (ek : Nat → Ac → St → Rs) (n : Nat) ( v0 v3 v4 v6 v7 v8 v9 : V) (S : St) : L25_192 self N nk ek (n + 1) v0 v3 v4 v6 v7 v8 v9 S =
(cvI .i64 v8 S).bind fun p195 =>
(binV E0 .leq 3 false false v9 p195.1).bind fun t196 =>
ifK t196 (
(faP 0 true 256 v3).bind fun t198 =>
(faP 0 true 256 t198).bind fun t199 =>
(ixA 256 1 false 1 t199 v9).bind fun t200 =>
(stP 1 t200 (.bool true) p195.2).bind fun p201 =>
(binV E0 .add 3 false true v9 (.int .i64 1)).bind fun t203 =>
L25_192 self N nk ek n v0 v3 v4 v6 v7 v8 t203 p201.2) (
ek 2 (fr 151 [(0, v0), (3, v3), (4, v4), (6, v6), (7, v7)]) p195.2) := by kernel_rfl
theorem L25_98_eq (self : EV) (N : Nat) (nk : Ac → St → Rs) (ek : Nat → Ac → St → Rs) (n : Nat) ( v0 v3 v4 v6 v7 : V) (S : St) : L25_98 self N nk ek (n + 1) v0 v3 v4 v6 v7 S =
(lnStr v6 S).bind fun p101 =>
(binV E0 .lss 3 false false v7 p101.1).bind fun t102 =>
ifK t102 (
(ixS v6 v7).bind fun t109 =>
(binV E0 .add 3 false true v7 (.int .i64 2)).bind fun t112 =>
(lnStr v6 p101.2).bind fun p114 =>
(binV E0 .lss 3 false false t112 p114.1).bind fun t115 =>
(guardV true t115).bind fun g117 => (bif g117 then some v6 else some (.tuple [])).bind fun t117 =>
(guardV true t115).bind fun g118 => (bif g118 then some v7 else some (.tuple [])).bind fun t118 =>
(guardV true t115).bind fun g119 => (bif g119 then binV E0 .add 3 false true t118 (.int .i64 1) else some (.tuple [])).bind fun t119 =>
(guardV true t115).bind fun g120 => (bif g120 then ixS t117 t119 else some (.tuple [])).bind fun t120 =>
(guardV true t115).bind fun g121 => (bif g121 then binV E0 .eql 5 false true t120 (.int .u8 45) else some (.tuple [])).bind fun t121 =>
(pickV t115 (some t121) (some (.bool false))).bind fun t122 =>
ifK t122 (
(ixS v6 v7).bind fun t125 =>
(binV E0 .add 3 false true v7 (.int .i64 2)).bind fun t128 =>
(ixS v6 t128).bind fun t129 =>
(binV E0 .leq 5 false false t125 t129).bind fun t130 =>
callD (planOf E0 (B25.r.r.r.r.l.r.r.l.r.r.r.l.r.l.l.r.l.l.r.l.r.l.l).ops) p114.2 8 [[], [], [], [], [], [], [], []] (self.f 18 [t130] (onS p114.2)) fun t131 S131 =>
(binV E0 .add 3 false true v7 (.int .i64 2)).bind fun t134 =>
(ixS v6 t134).bind fun t135 =>
(ixS v6 v7).bind fun t155 =>
(cvI .i64 t155 (relog p114.2 S131 [[], [], [], [], [], [], [], [], S131.log])).bind fun p156 =>
L25_158 self N (R25_137 self N (fun a s => projK [0, 3, 4, 6, 7] a fun a => (R25_103 self N (N25_98 self N nk ek n) ek) a s) (exB 1 (R25_103 self N (N25_98 self N nk ek n) ek) ek)) (exB 2 (R25_137 self N (fun a s => projK [0, 3, 4, 6, 7] a fun a => (R25_103 self N (N25_98 self N nk ek n) ek) a s) (exB 1 (R25_103 self N (N25_98 self N nk ek n) ek) ek)) (exB 1 (R25_103 self N (N25_98 self N nk ek n) ek) ek)) N v0 v3 v4 v6 v7 t135 p156.1 p156.2) (
(ixS v6 v7).bind fun t189 =>
(cvI .i64 t189 p114.2).bind fun p190 =>
L25_192 self N (R25_171 self N (fun a s => projK [0, 3, 4, 6, 7] a fun a => (R25_103 self N (N25_98 self N nk ek n) ek) a s) (exB 1 (R25_103 self N (N25_98 self N nk ek n) ek) ek)) (exB 2 (R25_171 self N (fun a s => projK [0, 3, 4, 6, 7] a fun a => (R25_103 self N (N25_98 self N nk ek n) ek) a s) (exB 1 (R25_103 self N (N25_98 self N nk ek n) ek) ek)) (exB 1 (R25_103 self N (N25_98 self N nk ek n) ek) ek)) N v0 v3 v4 v6 v7 t109 p190.1 p190.2)) (
ek 0 (fr 151 [(0, v0), (3, v3), (4, v4)]) p101.2) := by kernel_rfl
theorem N25_98_eq (self : EV) (N : Nat) (nk : Ac → St → Rs) (ek : Nat → Ac → St → Rs) (n : Nat) ( v0 v3 v4 v6 v7 : V) (S : St) : N25_98 self N nk ek n (fr 151 [(0, v0), (3, v3), (4, v4), (6, v6), (7, v7)]) S = L25_98 self N nk ek n v0 v3 v4 v6 v7 S := by kernel_rfl
noncomputable def R25_235 (self : EV) (N : Nat) (nk : Ac → St → Rs) (ek : Nat → Ac → St → Rs) (a : Ac) (S : St) : Rs := projK [0, 3, 4] a fun a => dr E0 self RL25 N (B25.r.r.r.r.l.r.r.l.r.r.r).r (mkK E0 self Try.f25 nk ek) a S
noncomputable def L25_261 (self : EV) (N : Nat) (nk : Ac → St → Rs) (ek : Nat → Ac → St → Rs) (n : Nat) ( v0 v3 v4 v6 v7 : V) (S : St) : Rs := loopK [0, 3, 4, 6, 7] (dr E0 self RL25 N (B25.r.r.r.r.l.r.r.l.r.r.r.l.r.l.l)) (mkK E0 self Try.f25 nk ek) n (fr 151 [(0, v0), (3, v3), (4, v4), (6, v6), (7, v7)]) S
noncomputable def R25_424 (self : EV) (N : Nat) (nk : Ac → St → Rs) (ek : Nat → Ac → St → Rs) (a : Ac) (S : St) : Rs := projK [0, 3, 4] a fun a => dr E0 self RL25 N (B25.r.r.r.r.l.r.r.l.r.r.r).r (mkK E0 self Try.f25 nk ek) a S
noncomputable def L25_450 (self : EV) (N : Nat) (nk : Ac → St → Rs) (ek : Nat → Ac → St → Rs) (n : Nat) ( v0 v3 v4 v6 v7 : V) (S : St) : Rs := loopK [0, 3, 4, 6, 7] (dr E0 self RL25 N (B25.r.r.r.r.l.r.r.l.r.r.r.l.r.l.l)) (mkK E0 self Try.f25 nk ek) n (fr 151 [(0, v0), (3, v3), (4, v4), (6, v6), (7, v7)]) S
noncomputable def R25_587 (self : EV) (N : Nat) (nk : Ac → St → Rs) (ek : Nat → Ac → St → Rs) (a : Ac) (S : St) : Rs := projK [0, 3, 4] a fun a => dr E0 self RL25 N (B25.r.r.r.r.l.r.r.l.r.r.r).r (mkK E0 self Try.f25 nk ek) a S
noncomputable def L25_613 (self : EV) (N : Nat) (nk : Ac → St → Rs) (ek : Nat → Ac → St → Rs) (n : Nat) ( v0 v3 v4 v6 v7 : V) (S : St) : Rs := loopK [0, 3, 4, 6, 7] (dr E0 self RL25 N (B25.r.r.r.r.l.r.r.l.r.r.r.l.r.l.l)) (mkK E0 self Try.f25 nk ek) n (fr 151 [(0, v0), (3, v3), (4, v4), (6, v6), (7, v7)]) S
noncomputable def F25 (self : EV) (N : Nat) (x0 : V) (S : St) : Rs := runF E0 self N Try.f25 B25 [x0] S
theorem F25_eq (self : EV) (N : Nat) (x0 : V) (S : St) : F25 self N x0 S =
(buildV E0 50 [(1, (.int .i64 0))]).bind fun t1 =>
(some (nwP 50 258 (Tr.ofListFrom .nil [(.bool false), (.bool false), (.bool false), (.bool false), (.bool false), (.bool false), (.bool false), (.bool false), (.bool false), (.bool false), (.bool false), (.bool false), (.bool false), (.bool false), (.bool false), (.bool false), (.bool false), (.bool false), (.bool false), (.bool false), (.bool false), (.bool false), (.bool false), (.bool false), (.bool false), (.bool false), (.bool false), (.bool false), (.bool false), (.bool false), (.bool false), (.bool false), (.bool false), (.bool false), (.bool false), (.bool false), (.bool false), (.bool false), (.bool false), (.bool false), (.bool false), (.bool false), (.bool false), (.bool false), (.bool false), (.bool false), (.bool false), (.bool false), (.bool false), (.bool false), (.bool false), (.bool false), (.bool false), (.bool false), (.bool false), (.bool false), (.bool false), (.bool false), (.bool false), (.bool false), (.bool false), (.bool false), (.bool false), (.bool false), (.bool false), (.bool false), (.bool false), (.bool false), (.bool false), (.bool false), (.bool false), (.bool false), (.bool false), (.bool false), (.bool false), (.bool false), (.bool false), (.bool false), (.bool false), (.bool false), (.bool false), (.bool false), (.bool false), (.bool false), (.bool false), (.bool false), (.bool false), (.bool false), (.bool false), (.bool false), (.bool false), (.bool false), (.bool false), (.bool false), (.bool false), (.bool false), (.bool false), (.bool false), (.bool false), (.bool false), (.bool false), (.bool false), (.bool false), (.bool false), (.bool false), (.bool false), (.bool false), (.bool false), (.bool false), (.bool false), (.bool false), (.bool false), (.bool false), (.bool false), (.bool false), (.bool false), (.bool false), (.bool false), (.bool false), (.bool false), (.bool false), (.bool false), (.bool false), (.bool false), (.bool false), (.bool false), (.bool false), (.bool false), (.bool false), (.bool false), (.bool false), (.bool false), (.bool false), (.bool false), (.bool false), (.bool false), (.bool false), (.bool false), (.bool false), (.bool false), (.bool false), (.bool false), (.bool false), (.bool false), (.bool false), (.bool false), (.bool false), (.bool false), (.bool false), (.bool false), (.bool false), (.bool false), (.bool false), (.bool false), (.bool false), (.bool false), (.bool false), (.bool false), (.bool false), (.bool false), (.bool false), (.bool false), (.bool false), (.bool false), (.bool false), (.bool false), (.bool false), (.bool false), (.bool false), (.bool false), (.bool false), (.bool false), (.bool false), (.bool false), (.bool false), (.bool false), (.bool false), (.bool false), (.bool false), (.bool false), (.bool false), (.bool false), (.bool false), (.bool false), (.bool false), (.bool false), (.bool false), (.bool false), (.bool false), (.bool false), (.bool false), (.bool false), (.bool false), (.bool false), (.bool false), (.bool false), (.bool false), (.bool false), (.bool false), (.bool false), (.bool false), (.bool false), (.bool false), (.bool false), (.bool false), (.bool false), (.bool false), (.bool false), (.bool false), (.bool false), (.bool false), (.bool false), (.bool false), (.bool false), (.bool false), (.bool false), (.bool false), (.bool false), (.bool false), (.bool false), (.bool false), (.bool false), (.bool false), (.bool false), (.bool false), (.bool false), (.bool false), (.bool false), (.bool false), (.bool false), (.bool false), (.bool false), (.bool false), (.bool false), (.bool false), (.bool false), (.bool false), (.bool false), (.bool false), (.bool false), (.bool false), (.bool false), (.bool false), (.bool false), (.bool false), (.bool false), (.bool false), (.bool false), (.bool false), (.bool false), (.bool false), (.bool false), (.bool false), (.bool false), (.bool false), (.bool false), (.int .i64 0), (.int .i64 0)] 0) S)).bind fun p2 =>
(stP 258 p2.1 t1 p2.2).bind fun p3 =>
callP (self.f 16 [x0, (sv [94])] p3.2) fun t5 S5 =>
ifK t5 (
(nilCheckV x0).bind fun t9 =>
(faP 3 false 1 t9).bind fun t10 =>
(ld1 t10 S5).bind fun p11 =>
(binV E0 .add 3 false true p11.1 (.int .i64 1)).bind fun t12 =>
(nilCheckV x0).bind fun t13 =>
(faP 3 false 1 t13).bind fun t14 =>
(stP 1 t14 t12 p11.2).bind fun p15 =>
(nilCheckV x0).bind fun t18 =>
(faP 3 false 1 t18).bind fun t19 =>
(ld1 t19 (onS p15.2)).bind fun p20 =>
(nilCheckV x0).bind fun t22 =>
(faP 2 false 1 t22).bind fun t23 =>
(ld1 t23 (onS p20.2)).bind fun p24 =>
(lnStr p24.1 (onS p24.2)).bind fun p25 =>
(binV E0 .lss 3 false false p20.1 p25.1).bind fun t26 =>
endP [(3, [7, 8])] p15.2 [[], [], [], p20.2.log, [], [], [], p24.2.log, p25.2.log, []] (onS p25.2) fun S27 =>
ifK t26 (
(nilCheckV x0).bind fun t29 =>
(faP 2 false 1 t29).bind fun t30 =>
(ld1 t30 (onS S27)).bind fun p31 =>
(nilCheckV x0).bind fun t33 =>
(faP 3 false 1 t33).bind fun t34 =>
(ld1 t34 (onS p31.2)).bind fun p35 =>
(binV E0 .add 3 false true p35.1 (.int .i64 1)).bind fun t36 =>
(sliceV E0 9 p31.1 (some t36) none none (onS p35.2)).bind fun p37 =>
callD (planOf E0 (B25.r.r.r.r.l.r.l.r.l).ops) S27 10 [[], [], [], p31.2.log, [], [], [], p35.2.log, [], p37.2.log] (self.f 31 [p37.1, (.int .u8 93)] (onS p37.2)) fun t38 S38 =>
(binV E0 .add 3 false true t38 (.int .i64 1)).bind fun t39 =>
endP [(3, [7])] S27 [[], [], [], p31.2.log, [], [], [], p35.2.log, [], p37.2.log, S38.log, [], []] (onS S38) fun S41 =>
(binV E0 .gtr 3 false true t39 (.int .i64 0)).bind fun t43 =>
callP (self.f 18 [t43] S41) fun t44 S44 =>
(nilCheckV x0).bind fun t46 =>
(faP 2 false 1 t46).bind fun t47 =>
(ld1 t47 (onS S44)).bind fun p48 =>
(nilCheckV x0).bind fun t50 =>
(faP 3 false 1 t50).bind fun t51 =>
(ld1 t51 (onS p48.2)).bind fun p52 =>
(nilCheckV x0).bind fun t54 =>
(faP 3 false 1 t54).bind fun t55 =>
(ld1 t55 (onS p52.2)).bind fun p56 =>
(binV E0 .add 3 false false p56.1 t39).bind fun t58 =>
(sliceV E0 9 p48.1 (some p52.1) (some t58) none (onS p56.2)).bind fun p59 =>
endP [(3, [7, 11]), (7, [11])] S44 [[], [], [], p48.2.log, [], [], [], p52.2.log, [], [], [], p56.2.log, [], [], p59.2.log, []] (onS p59.2) fun S61 =>
(nilCheckV x0).bind fun t63 =>
(faP 3 false 1 t63).bind fun t64 =>
(ld1 t64 S61).bind fun p65 =>
(binV E0 .add 3 false true t39 (.int .i64 1)).bind fun t67 =>
(binV E0 .add 3 false false p65.1 t67).bind fun t68 =>
(nilCheckV x0).bind fun t69 =>
(faP 3 false 1 t69).bind fun t70 =>
(stP 1 t70 t68 p65.2).bind fun p71 =>
L25_98 self N (R25_72 self N (fun a s => projK [2] a fun a => (fun a s => projK [2] a fun a => (finN E0 self Try.f25) a s) a s) noEx) (exB 0 (R25_72 self N (fun a s => projK [2] a fun a => (fun a s => projK [2] a fun a => (finN E0 self Try.f25) a s) a s) noEx) noEx) N x0 p2.1 t5 p59.1 (.int .i64 0) p71.2) (
(binV E0 .gtr 3 false true (.int .i64 (-1)) (.int .i64 0)).bind fun t206 =>
callP (self.f 18 [t206] S27) fun t207 S207 =>
(nilCheckV x0).bind fun t209 =>
(faP 2 false 1 t209).bind fun t210 =>
(ld1 t210 (onS S207)).bind fun p211 =>
(nilCheckV x0).bind fun t213 =>
(faP 3 false 1 t213).bind fun t214 =>
(ld1 t214 (onS p211.2)).bind fun p215 =>
(nilCheckV x0).bind fun t217 =>
(faP 3 false 1 t217).bind fun t218 =>
(ld1 t218 (onS p215.2)).bind fun p219 =>
(binV E0 .add 3 false false p219.1 (.int .i64 (-1))).bind fun t221 =>
(sliceV E0 9 p211.1 (some p215.1) (some t221) none (onS p219.2)).bind fun p222 =>
endP [(3, [7, 11]), (7, [11])] S207 [[], [], [], p211.2.log, [], [], [], p215.2.log, [], [], [], p219.2.log, [], [], p222.2.log, []] (onS p222.2) fun S224 =>
(nilCheckV x0).bind fun t226 =>
(faP 3 false 1 t226).bind fun t227 =>
(ld1 t227 S224).bind fun p228 =>
(binV E0 .add 3 false true (.int .i64 (-1)) (.int .i64 1)).bind fun t230 =>
(binV E0 .add 3 false false p228.1 t230).bind fun t231 =>
(nilCheckV x0).bind fun t232 =>
(faP 3 false 1 t232).bind fun t233 =>
(stP 1 t233 t231 p228.2).bind fun p234 =>
L25_261 self N (R25_235 self N (fun a s => projK [2] a fun a => (fun a s => projK [2] a fun a => (finN E0 self Try.f25) a s) a s) noEx) (exB 0 (R25_235 self N (fun a s => projK [2] a fun a => (fun a s => projK [2] a fun a => (finN E0 self Try.f25) a s) a s) noEx) noEx) N x0 p2.1 t5 p222.1 (.int .i64 0) p234.2)) (
(nilCheckV x0).bind fun t370 =>
(faP 3 false 1 t370).bind fun t371 =>
(ld1 t371 (onS S5)).bind fun p372 =>
(nilCheckV x0).bind fun t374 =>
(faP 2 false 1 t374).bind fun t375 =>
(ld1 t375 (onS p372.2)).bind fun p376 =>
(lnStr p376.1 (onS p376.2)).bind fun p377 =>
(binV E0 .lss 3 false false p372.1 p377.1).bind fun t378 =>
endP [(3, [7, 8])] S5 [[], [], [], p372.2.log, [], [], [], p376.2.log, p377.2.log, []] (onS p377.2) fun S379 =>
ifK t378 (
(nilCheckV x0).bind fun t381 =>
(faP 2 false 1 t381).bind fun t382 =>
(ld1 t382 (onS S379)).bind fun p383 =>
(nilCheckV x0).bind fun t385 =>
(faP 3 false 1 t385).bind fun t386 =>
(ld1 t386 (onS p383.2)).bind fun p387 =>
(binV E0 .add 3 false true p387.1 (.int .i64 1)).bind fun t388 =>
(sliceV E0 9 p383.1 (some t388) none none (onS p387.2)).bind fun p389 =>
callD (planOf E0 (B25.r.r.r.r.l.r.l.r.l).ops) S379 10 [[], [], [], p383.2.log, [], [], [], p387.2.log, [], p389.2.log] (self.f 31 [p389.1, (.int .u8 93)] (onS p389.2)) fun t390 S390 =>
(binV E0 .add 3 false true t390 (.int .i64 1)).bind fun t391 =>
endP [(3, [7])] S379 [[], [], [], p383.2.log, [], [], [], p387.2.log, [], p389.2.log, S390.log, [], []] (onS S390) fun S393 =>
(binV E0 .gtr 3 false true t391 (.int .i64 0)).bind fun t395 =>
callP (self.f 18 [t395] S393) fun t396 S396 =>
(nilCheckV x0).bind fun t398 =>
(faP 2 false 1 t398).bind fun t399 =>
(ld1 t399 (onS S396)).bind fun p400 =>
(nilCheckV x0).bind fun t402 =>
(faP 3 false 1 t402).bind fun t403 =>
(ld1 t403 (onS p400.2)).bind fun p404 =>
(nilCheckV x0).bind fun t406 =>
(faP 3 false 1 t406).bind fun t407 =>
(ld1 t407 (onS p404.2)).bind fun p408 =>
(binV E0 .add 3 false false p408.1 t391).bind fun t410 =>
(sliceV E0 9 p400.1 (some p404.1) (some t410) none (onS p408.2)).bind fun p411 =>
endP [(3, [7, 11]), (7, [11])] S396 [[], [], [], p400.2.log, [], [], [], p404.2.log, [], [], [], p408.2.log, [], [], p411.2.log, []] (onS p411.2) fun S413 =>
(nilCheckV x0).bind fun t415 =>
(faP 3 false 1 t415).bind fun t416 =>
(ld1 t416 S413).bind fun p417 =>
(binV E0 .add 3 false true t391 (.int .i64 1)).bind fun t419 =>
(binV E0 .add 3 false false p417.1 t419).bind fun t420 =>
(nilCheckV x0).bind fun t421 =>
(faP 3 false 1 t421).bind fun t422 =>
(stP 1 t422 t420 p417.2).bind fun p423 =>
L25_450 self N (R25_424 self N (fun a s => projK [2] a fun a => (fun a s => projK [2] a fun a => (finN E0 self Try.f25) a s) a s) noEx) (exB 0 (R25_424 self N (fun a s => projK [2] a fun a => (fun a s => projK [2] a fun a => (finN E0 self Try.f25) a s) a s) noEx) noEx) N x0 p2.1 t5 p411.1 (.int .i64 0) p423.2) (
(binV E0 .gtr 3 false true (.int .i64 (-1)) (.int .i64 0)).bind fun t558 =>
callP (self.f 18 [t558] S379) fun t559 S559 =>
(nilCheckV x0).bind fun t561 =>
(faP 2 false 1 t561).bind fun t562 =>
(ld1 t562 (onS S559)).bind fun p563 =>
(nilCheckV x0).bind fun t565 =>
(faP 3 false 1 t565).bind fun t566 =>
(ld1 t566 (onS p563.2)).bind fun p567 =>
(nilCheckV x0).bind fun t569 =>
(faP 3 false 1 t569).bind fun t570 =>
(ld1 t570 (onS p567.2)).bind fun p571 =>
(binV E0 .add 3 false false p571.1 (.int .i64 (-1))).bind fun t573 =>
(sliceV E0 9 p563.1 (some p567.1) (some t573) none (onS p571.2)).bind fun p574 =>
endP [(3, [7, 11]), (7, [11])] S559 [[], [], [], p563.2.log, [], [], [], p567.2.log, [], [], [], p571.2.log, [], [], p574.2.log, []] (onS p574.2) fun S576 =>
(nilCheckV x0).bind fun t578 =>
(faP 3 false 1 t578).bind fun t579 =>
(ld1 t579 S576).bind fun p580 =>
(binV E0 .add 3 false true (.int .i64 (-1)) (.int .i64 1)).bind fun t582 =>
(binV E0 .add 3 false false p580.1 t582).bind fun t583 =>
(nilCheckV x0).bind fun t584 =>
(faP 3 false 1 t584).bind fun t585 =>
(stP 1 t585 t583 p580.2).bind fun p586 =>
L25_613 self N (R25_587 self N (fun a s => projK [2] a fun a => (fun a s => projK [2] a fun a => (finN E0 self Try.f25) a s) a s) noEx) (exB 0 (R25_587 self N (fun a s => projK [2] a fun a => (fun a s => projK [2] a fun a => (finN E0 self Try.f25) a s) a s) noEx) noEx) N x0 p2.1 t5 p574.1 (.int .i64 0) p586.2)) := by kernel_rfl
end
end Go.Proofs.Ytachpdpmoihjmaa.W
namespace Go.Proofs.Ytachpdpmoihjmaa.W
open Go.Proofs.Ytachpdpmoihjmaa.Ev Go.RowKit
theorem E0_ok : EnvOk Try.prog E0 := envOf_ok (by kernel_rfl) (by kernel_rfl) (by kernel_rfl) (fun p hp => by
 simp only [List.mem_cons, List.not_mem_nil, or_false] at hp
 rcases hp with rfl
 exact ⟨fun _ args w => by kernel_rfl, fun h => absurd h (by decide), fun h => absurd h (by decide), fun h => absurd h (by decide), fun h => absurd h (by decide)⟩
 ) (by kernel_rfl) (by kernel_rfl) (by kernel_rfl)
theorem drop_at {α : Type} {l r : List α} {i : Nat} {y : α} (h : l.drop i = y :: r) : ∃ hlt : i < l.length, l[i] = y ∧ l.drop (i + 1) = r ∧ y ∈ l := by
 have hlt : i < l.length := by
  rcases Nat.lt_or_ge i l.length with h' | h'
  · exact h'
  · rw [List.drop_eq_nil_of_le h'] at h; cases h
 rw [List.drop_eq_getElem_cons hlt] at h
 simp only [List.cons.injEq] at h
 exact ⟨hlt, h.1, h.2, h.1 ▸ List.getElem_mem hlt⟩
theorem drop_end {α : Type} {l : List α} {i : Nat} (h : l.drop i = []) : l.length ≤ i := List.drop_eq_nil_iff.1 h
theorem dec_lt {a b : Nat} (h : a < b) : decide ((a : Int) < (b : Int)) = true := by simp; omega
theorem dec_ge {a b : Nat} (h : b ≤ a) : decide ((a : Int) < (b : Int)) = false := by simp; omega
theorem wrap_succ {i : Nat} (h : i < 9223372036854775807) : IntKind.i64.wrap ((i : Int) + 1) = ((i + 1 : Nat) : Int) := by
 rw [wrap_i64 (by omega) (by omega)]; omega
section
variable {s : St}
def AgAt (s : St) (b e z : Nat) (t : Tr V) : Prop := ∃ c, s.heap.get b = some (.cells e z 1 false c) ∧ c.get 0 = some t
theorem AgAt.grew {W : Nat → Prop} {u : St} {b e z : Nat} {t : Tr V} (h : AgAt s b e z t) (hb : b < s.next) (hw : ¬ W b) (g : Grew W s u) : AgAt u b e z t := by
 obtain ⟨c, h1, h2⟩ := h
 exact ⟨c, by rw [g.keep b hb hw]; exact h1, h2⟩
theorem ag_new (ho : s.on = false) (e z : Nat) (t : Tr V) : AgAt (nwP e z t s).2 s.next e z t ∧ Grew (fun _ => False) s (nwP e z t s).2 ∧ (nwP e z t s).2.next = s.next + 1 := by
 refine ⟨⟨Tr.ofListFrom .nil [t] 0, ?_, by rw [Tr.get_ofList]; rfl⟩, grew_nw ho _ _, rfl⟩
 show (newCells s e z [t]).heap.get s.next = _
 unfold newCells
 rw [nw_get, if_pos rfl]; rfl
theorem AgAt.ldk (ho : s.on = false) {b e z : Nat} {t : Tr V} (h : AgAt s b e z t) (hz : z < big) : ldK s b 0 z = some (t, s) := by
 obtain ⟨c, h1, h2⟩ := h
 unfold ldK
 rw [h1]
 simp only [ble_true.2 (show 0 + z ≤ z * 1 by omega), blt_true.2 (show z * 1 < big by omega), Bool.and_self, cond_true]
 unfold elemIn
 rw [show Nat.beq z z = true from beq_true.2 rfl, Nat.zero_mod, show Nat.beq 0 0 = true from rfl]
 simp only [Bool.and_self, cond_true, Nat.zero_div, h2, oB, note_off ho]
theorem AgAt.ldA (ho : s.on = false) {b e z : Nat} {t : Tr V} (h : AgAt s b e z t) (hz : z < big) : Go.Proofs.Ytachpdpmoihjmaa.Ev.ldA z (.ptr b 0) s = some (.agg z t, s) := by
 show ((ldK s b 0 z).bind fun p => some (V.agg z p.1, p.2)) = _
 rw [h.ldk ho hz]; rfl
theorem AgAt.ldrA (ho : s.on = false) {b e z : Nat} {t : Tr V} (h : AgAt s b e z t) (hz : z < big) : Go.Proofs.Ytachpdpmoihjmaa.Ev.ldrA z (.ptr b 0) s = some (.agg z t, s) := by
 show ((ldK s b 0 z).bind fun p => some (V.agg z p.1, p.2)) = _
 rw [h.ldk ho hz]; rfl
theorem AgAt.stA (ho : s.on = false) {b e z : Nat} {t : Tr V} (h : AgAt s b e z t) (hz : z < big) (u : Tr V) : ∃ w, stP z (.ptr b 0) (.agg z u) s = some (.tuple [], w) ∧ AgAt w b e z u ∧ Grew (fun x => x = b) s w ∧ w.next = s.next := by
 obtain ⟨c, h1, h2⟩ := h
 refine ⟨s.put b (.cells e z 1 false (c.set u 0)), ?_, ⟨c.set u 0, by rw [put_get, if_pos rfl], by rw [Tr.get_set, if_pos rfl]⟩, grew_put b _, rfl⟩
 show vu (bif Nat.beq z z && !false then stK s b 0 z u else none) = _
 rw [show Nat.beq z z = true from beq_true.2 rfl]
 simp only [Bool.not_false, Bool.and_self, cond_true]
 have : stK s b 0 z u = some (s.put b (.cells e z 1 false (c.set u 0))) := by
  unfold stK
  rw [h1]
  simp only [ble_true.2 (show 0 + z ≤ z * 1 by omega), blt_true.2 (show z * 1 < big by omega), Bool.and_self, Bool.not_false, cond_true]
  unfold elemTo
  rw [show Nat.beq z z = true from beq_true.2 rfl, Nat.zero_mod, show Nat.beq 0 0 = true from rfl]
  simp only [Bool.and_self, cond_true, Nat.zero_div, Tr.setC_eq, oB, note_off ho]
 rw [this]; rfl
theorem AgAt.ld1 (ho : s.on = false) {b e z i : Nat} {t : Tr V} {v : V} (h : AgAt s b e z t) (hz : z < big) (hi : i < z) (hv : t.get i = some v) : Go.Proofs.Ytachpdpmoihjmaa.Ev.ld1 (.ptr b i) s = some (v, s) := by
 obtain ⟨c, h1, h2⟩ := h
 show ld s b i = _
 exact ld_of ho h1 (by omega) (by omega) (by rw [cellOf_zero hi, h2]; exact hv)
theorem AgAt.st1 (ho : s.on = false) {b e z i : Nat} {t : Tr V} (h : AgAt s b e z t) (hz : z < big) (h1z : 1 < z) (hi : i < z) (v : V) (hs : v.size = 1) (hc : v.cells = one v) (hv : isTuple v = false) : ∃ w, stP 1 (.ptr b i) v s = some (.tuple [], w) ∧ AgAt w b e z (t.set v i) ∧ Grew (fun x => x = b) s w ∧ w.next = s.next := by
 obtain ⟨c, h1, h2⟩ := h
 refine ⟨s.put b (.cells e z 1 false (c.set (t.set v i) 0)), ?_, ⟨c.set (t.set v i) 0, by rw [put_get, if_pos rfl], by rw [Tr.get_set, if_pos rfl]⟩, grew_put b _, rfl⟩
 show vu (bif Nat.beq v.size 1 && !isTuple v then stK s b i 1 v.cells else none) = _
 rw [hs, hv, hc]
 simp only [show Nat.beq 1 1 = true from rfl, Bool.not_false, Bool.and_self, cond_true]
 have : stK s b i 1 (one v) = some (s.put b (.cells e z 1 false (c.set (t.set v i) 0))) := by
  unfold stK
  rw [h1]
  simp only [ble_true.2 (show i + 1 ≤ z * 1 by omega), blt_true.2 (show z * 1 < big by omega), Bool.and_self, Bool.not_false, cond_true]
  unfold elemTo
  rw [show Nat.beq 1 z = false from beq_false.2 (by omega)]
  simp only [Bool.false_and, cond_false, cellsTo, show (one v).get 0 = some v from rfl, oB, Nat.add_zero, Nat.div_eq_of_lt hi, Nat.mod_eq_of_lt hi, h2, Tr.setC_eq, note_off ho]
 rw [this]; rfl
end
def ixB (l : List UInt8) (c : UInt8) : Int := match l.findIdx? (fun x => x == c) with | some i => (i : Int) | none => -1
theorem extV_one (l n c : Nat) (S : St) : extV 1 [.str l n, .int .u8 (.ofNat c)] S = bif Nat.blt c 256 then match indexByte c l 0 n with
 | some i => some (.val (.int .i64 (.ofNat i)) S)
 | none => some (.val (.int .i64 (-1)) S)
 else none := rfl
theorem callK_ext {E : Env} {self : EV} {f k : Nat} (h : E.ext.get f = some k) (x y args : List V) (S : St) : callK E self (.fn (.func f) x y) args S = (extV k (x ++ args ++ y) S).bind fun
 | .val v s => some (.ret v, s)
 | _ => none := by
 show (match E.ext.get f with | some k => _ | none => _) = _
 rw [h]
 rfl
theorem ext76 : E0.ext.get 34 = some 1 := by kernel_rfl
theorem ext_ixB (s : List UInt8) (c : UInt8) (S : St) : extV 1 [sv s, .int .u8 (c.toNat : Int)] S = some (.val (.int .i64 (ixB s c)) S) := by
 have h1 : extV 1 [sv s, .int .u8 (c.toNat : Int)] S = bif Nat.blt c.toNat 256 then match indexByte c.toNat s.length 0 (pack s) with
  | some i => some (.val (.int .i64 (.ofNat i)) S)
  | none => some (.val (.int .i64 (-1)) S)
  else none := extV_one _ _ _ _
 rw [h1, blt_true.2 c.toNat_lt, indexByte_spec, ixB]
 cases s.findIdx? (fun x => x == c) with
 | none => rfl
 | some i => rfl
theorem call76 (self : EV) (s : List UInt8) (c : UInt8) (S : St) : callK E0 self (.fn (.func 34) [] []) [sv s, .int .u8 (c.toNat : Int)] S = some (.ret (.int .i64 (ixB s c)), S) := by
 have h := callK_ext (E := E0) (self := self) ext76 [] [] [sv s, .int .u8 (c.toNat : Int)] S
 have h2 := ext_ixB s c S
 rw [List.nil_append, List.append_nil, h2] at h
 exact h
theorem F73_of (self : EV) (N : Nat) (s : V) (c : UInt8) (S : St) (v : V) (h : callK E0 self (.fn (.func 34) [] []) [s, .int .u8 (c.toNat : Int)] S = some (.ret v, S)) : F33 self N s (.int .u8 (c.toNat : Int)) S = some (.ret v, S) := by
 rw [F33_eq, h, callP_ret]
theorem F73_spec (self : EV) (N : Nat) (s : List UInt8) (c : UInt8) (S : St) : F33 self N (sv s) (.int .u8 (c.toNat : Int)) S = some (.ret (.int .i64 (ixB s c)), S) :=
 F73_of self N (sv s) c S (.int .i64 (ixB s c)) (call76 self s c S)
def frz (W : World) : Rho := ⟨fun _ => none, fun k => W.heap[k]?⟩
theorem glob0 : ∀ g, E0.glob.get g = none := fun _ => rfl
noncomputable def kfTrue : KF := specKF (fun _ : Unit => []) (fun _ => En.ret (.bool true))
theorem kfTrue_run (S : St) : kfTrue.run [] S = some (.ret (.bool true), S) := specKF_run (enc := fun _ : Unit => []) (out := fun _ => En.ret (.bool true)) (fun _ _ _ => rfl) () S
theorem relF (W : World) : Rel E0 (base0 W) (frz W) s0 W :=
 ⟨⟨rfl, rfl, rfl, Nat.le_refl _, fun _ _ => rfl⟩, fun _ _ => rfl, Nat.le_refl _, fun b o h => by simp [s0, Tr.get_nil] at h, fun b b' o o' cb sh sz sh' sz' h => by simp [s0, Tr.get_nil] at h, fun g b h => (by rw [glob0] at h; cases h), fun k o h => h, fun b o cb sh sz h => (by simp [s0, Tr.get_nil] at h), fun k o h _ => trivial⟩
section
variable {s : St}
theorem big1 : 1 < big := by unfold big; decide
def selRd (logs : List (List LE)) (prs : List (Nat × List Nat)) : Bool := prs.all fun p => (logOf p.1 logs).all (fun e => !e.w) && p.2.all fun j => (logOf j logs).all fun e => !e.w
theorem selRd_ok {logs : List (List LE)} : ∀ {prs : List (Nat × List Nat)}, selRd logs prs = true → pairsOk logs prs = true
 | [], _ => rfl
 | (i, js) :: l, h => by
  unfold selRd at h
  rw [List.all_cons, Bool.and_eq_true, Bool.and_eq_true] at h
  obtain ⟨⟨h1, h2⟩, h3⟩ := h
  have r : ∀ {L : List LE}, (L.all fun e => !e.w) = true → ∀ f ∈ L, f.w = false := fun {L} hL f hf => by simpa using List.all_eq_true.1 hL f hf
  have key : ∀ js : List Nat, (js.all fun j => (logOf j logs).all fun e => !e.w) = true → clashAny (logOf i logs) logs js = false := fun js => by
   induction js with
   | nil => intro _; rfl
   | cons j js ih =>
    intro hj
    rw [List.all_cons, Bool.and_eq_true] at hj
    unfold clashAny
    rw [clash_rd _ _ (r h1) (r hj.1)]
    exact ih hj.2
  unfold pairsOk
  rw [key js h2]
  exact selRd_ok h3
theorem endP_sel {prs : List (Nat × List Nat)} {s0 s : St} {logs : List (List LE)} {k : St → Rs} (h : selRd logs prs = true) : endP prs s0 logs s k = k (relog s0 s logs) := endP_of (selRd_ok h)
theorem bx_put (b e : Nat) (l : List V) : Bx (s.put b (bxO e l)) b e l := by
 show (s.put b (bxO e l)).heap.get b = some (bxO e l)
 rw [put_get, if_pos rfl]
theorem ixA_ptr (len z : Nat) (g : Bool) (k : Nat) (ik : IntKind) {b off n : Nat} (h : n < len) : ixA len z g k (.ptr b off) (.int ik (n : Int)) = some (.ptr b (off + n * z)) := by
 show (bif Nat.blt n len then some (V.ptr b (off + n * z)) else none) = _
 rw [blt_true.2 h]; rfl
theorem AgAt.st_one (ho : s.on = false) {b e : Nat} {t : Tr V} (h : AgAt s b e 1 t) (v : V) (hs : v.size = 1) (hc : v.cells = one v) (hv : isTuple v = false) : ∃ w, stP 1 (.ptr b 0) v s = some (.tuple [], w) ∧ AgAt w b e 1 (one v) ∧ Grew (fun x => x = b) s w ∧ w.next = s.next := by
 obtain ⟨w, h1, h2, h3, h4⟩ := h.stA ho big1 (one v)
 refine ⟨w, ?_, h2, h3, h4⟩
 have e1 : stP 1 (.ptr b 0) (.agg 1 (one v)) s = vu (stK s b 0 1 (one v)) := rfl
 have e2 : stP 1 (.ptr b 0) v s = vu (bif Nat.beq v.size 1 && !isTuple v then stK s b 0 1 v.cells else none) := rfl
 rw [e2, hs, hc, hv, ← h1, e1]
 rfl
theorem AgAt.ldr_one (ho : s.on = false) {b e : Nat} {v : V} (h : AgAt s b e 1 (one v)) : ldr1 (.ptr b 0) s = some (v, s) := AgAt.ld1 ho h big1 (by decide) rfl
end
end Go.Proofs.Ytachpdpmoihjmaa.W
namespace Go.Proofs.Ytachpdpmoihjmaa.W
open Go.Proofs.Ytachpdpmoihjmaa.Ev
theorem big258 : 258 < big := by unfold big; decide
theorem big6 : 6 < big := by unfold big; decide
structure Stp (t : Tr V) (p : UInt8 → Bool) (k to : Int) : Prop where
 has : ∀ c : UInt8, t.get c.toNat = some (.bool (p c))
 kind : t.get 256 = some (.int .i64 k)
 to_ : t.get 257 = some (.int .i64 to)
def isF : Option V → Bool | some (.bool false) => true | _ => false
theorem isF_eq {o : Option V} (h : isF o = true) : o = some (.bool false) := by
 unfold isF at h
 split at h
 · rfl
 · cases h
noncomputable def TK (k : Int) : Tr V := match buildV E0 50 [(1, .int .i64 k)] with | some (.agg _ t) => t | _ => .nil
theorem build_0 : buildV E0 50 [(1, .int .i64 0)] = some (.agg 258 (TK 0)) := by kernel_rfl
theorem build_6 : buildV E0 50 [(1, .int .i64 6)] = some (.agg 258 (TK 6)) := by kernel_rfl
theorem all_0 : (List.range 256).all (fun i => isF ((TK 0).get i)) = true := by kernel_rfl
theorem stp_0 : Stp (TK 0) (fun _ => false) 0 0 := ⟨fun c => isF_eq (List.all_eq_true.1 all_0 c.toNat (List.mem_range.2 c.toNat_lt)), by kernel_rfl, by kernel_rfl⟩
theorem kind_6 : (TK 6).get 256 = some (.int .i64 6) := by kernel_rfl
section
variable {s : St}
theorem nw_lg (ho : s.on = false) (l : List LE) (o : O) : nw (s.lg l) o = (nw s o).lg ({ b := s.next, lo := 0, hi := big, w := true } :: l) := by
 unfold nw
 rw [note_off ho, note_lg]
 rfl
theorem newCells_lg (ho : s.on = false) (l : List LE) (e z : Nat) (ts : List (Tr V)) : newCells (s.lg l) e z ts = (newCells s e z ts).lg ({ b := s.next, lo := 0, hi := big, w := true } :: l) := by
 unfold newCells
 exact nw_lg ho l _
theorem bsP_lg (ho : s.on = false) (z t : Tr V) : ∃ w, bsP 50 258 1 z [(0, .agg 258 t)] (s.lg []) = some (.slice s.next 0 1 1, w.lg [⟨s.next, 0, big, true⟩]) ∧ RowAt w s.next 50 258 [t] ∧ Grew (fun _ => False) s w ∧ w.next = s.next + 1 := by
 refine ⟨nw s (.cells 50 258 1 false ((Tr.tab 1 1 fun _ => z).set t 0)), ?_, ?_, grew_nw ho _ _, rfl⟩
 · unfold bsP fillE fillE
   simp only [V.size, isTuple, V.cells, show Nat.beq 258 258 = true from rfl, Bool.not_false, Bool.and_true, show Nat.blt 0 1 = true from rfl, cond_true, Tr.setC_eq, oB, nw_lg ho]
   rfl
 · refine rowAt_nw ho (by omega) rfl (by unfold big; omega) fun i t h => ?_
   rw [Tr.get_set]
   cases i with
   | zero => simpa using h
   | succ i => simp at h
theorem ap_first_lg (ho : s.on = false) (l0 : List LE) {b : Nat} {t : Tr V} (h : RowAt s b 50 258 [t]) : ∃ u l, apP 50 258 272 .nilslice (.slice b 0 1 1) (s.lg l0) = some (.oslice s.next 0 1 258, u.lg l) ∧ RowAt u s.next 50 258 [t] ∧ Grew (fun _ => False) s u ∧ u.next = s.next + 1 := by
 have hld := h.ldN ho 1 0 (by simp)
 simp only [Nat.zero_mul, List.drop_zero] at hld
 obtain ⟨_, l1, h1⟩ := ldN_lg ho b 258 1 0 hld l0
 refine ⟨newCells s 50 258 [t], { b := s.next, lo := 0, hi := big, w := true } :: l1, ?_, rowAt_newCells ho (by omega) (by unfold big; simp), grew_nw ho _ _, rfl⟩
 unfold apP
 simp only [lenV, oB, show Nat.blt ((0 + 1) * (272 + 258 + 1)) maxCells = true from rfl, cond_true]
 unfold appendV firstV
 simp only [h1, oB, show Nat.beq 1 0 = false from rfl, cond_false]
 rw [newCells_lg ho]
 rfl
theorem ap_more_lg (ho : s.on = false) (l0 : List LE) {b r : Nat} {t : Tr V} {l : List (Tr V)} (h : RowAt s b 50 258 [t]) (hr : RowAt s r 50 258 l) (hl : l.length ≤ 3000) : ∃ u l', apP 50 258 272 (.oslice r 0 l.length 258) (.slice b 0 1 1) (s.lg l0) = some (.oslice s.next 0 (l.length + 1) 258, u.lg l') ∧ RowAt u s.next 50 258 (l ++ [t]) ∧ Grew (fun x => x = r) s u ∧ u.next = s.next + 1 := by
 obtain ⟨c, hc1, hc2⟩ := hr.row
 have hfit := hr.fit
 have hld := h.ldN ho 1 0 (by simp)
 simp only [Nat.zero_mul, List.drop_zero] at hld
 obtain ⟨_, l1, h1⟩ := ldN_lg ho b 258 1 0 hld l0
 refine ⟨nw (s.put r .dead) (.cells 50 258 (l.length + 1) false (c.set t l.length)), ({ b := s.next, lo := 0, hi := big, w := true } :: { b := r, lo := 0, hi := big, w := true } :: { b := r, lo := big - 1, hi := big, w := false } :: l1), ?_, ?_, ?_, rfl⟩
 · unfold apP
   have hm : Nat.blt ((l.length + 1) * (272 + 258 + 1)) maxCells = true := by rw [blt_true]; unfold maxCells; omega
   simp only [lenV, oB, hm, cond_true]
   unfold appendV firstV
   simp only [h1, oB, show Nat.beq 258 258 = true from rfl, cond_true]
   unfold sizeB
   rw [show (s.lg l1).heap.get r = _ from hc1]
   have hb : Nat.ble (0 + (l.length + 1) * 258) (258 * l.length) = false := by
    cases hh : Nat.ble (0 + (l.length + 1) * 258) (258 * l.length) with
    | false => rfl
    | true => rw [ble_true] at hh; omega
   simp only [blt_true.2 hfit, cond_true, oB, note_lg, hb, cond_false]
   unfold growV
   rw [show (s.lg ({ b := r, lo := big - 1, hi := big, w := false } :: l1)).heap.get r = _ from hc1]
   simp only [show Nat.beq 50 50 = true from rfl, Bool.not_true, Bool.or_self, cond_false, show Nat.beq 258 258 = true from rfl, show Nat.beq 0 0 = true from rfl, Nat.beq_refl, blt_true.2 hfit, Bool.and_self, cond_true]
   rw [show List.take 1 [t] = [t] from rfl]
   unfold addLC addLC
   rw [Tr.setC_eq]
   unfold setO
   rw [note_lg, put_lg, nw_lg (s := s.put r .dead) ho]
   rfl
 · have hnx : (s.put r .dead).next = s.next := rfl
   have := rowAt_nw (s := s.put r .dead) (e := 50) (z := 258) (n := l.length + 1) (c := c.set t l.length) (l := l ++ [t]) ho (by omega) (by simp) (by unfold big; omega) fun i u h => by
    rw [Tr.get_set]
    by_cases hi : i = l.length
    · subst hi
      rw [if_pos rfl]
      simpa using h
    · rw [if_neg hi]
      have hlt := (List.getElem?_eq_some_iff.1 h).1
      rw [List.length_append, List.length_singleton] at hlt
      rw [List.getElem?_append_left (by omega)] at h
      exact hc2 i u h
   exact this
 · exact ⟨by show s.next ≤ s.next + 1; omega, (nw_on (s := s.put r .dead) ho _).trans ho.symm, fun x hx hw => by
    rw [nw_get, if_neg (by show x ≠ s.next; omega), put_get, if_neg hw]⟩
theorem stP_lg (ho : s.on = false) {n b off : Nat} {v : V} {t : St} (h : stP n (.ptr b off) v s = some (.tuple [], t)) : ∃ l, stP n (.ptr b off) v (s.lg []) = some (.tuple [], t.lg l) := by
 have h' : vu (bif Nat.beq v.size n && !isTuple v then stK s b off n v.cells else none) = some (.tuple [], t) := h
 show ∃ l, vu (bif Nat.beq v.size n && !isTuple v then stK (s.lg []) b off n v.cells else none) = some (.tuple [], t.lg l)
 cases hc : (Nat.beq v.size n && !isTuple v) with
 | false => rw [hc] at h'; cases h'
 | true =>
  rw [hc] at h'
  simp only [cond_true] at h' ⊢
  unfold vu at h' ⊢
  simp only [oI, oS, pM, true_and] at h'
  obtain ⟨u, hu, rfl⟩ := h'
  obtain ⟨_, l, hl⟩ := stK_lg ho hu []
  exact ⟨l, by rw [hl]; rfl⟩
theorem bx_st6 (ho : s.on = false) {b e i : Nat} {l m : List V} {v : V} (h : Bx s b e l) (hl : l.length = 6) (hm : m.length = 6) (hi : i < 6) (hset : (Tr.ofListFrom .nil l 0).set v i = Tr.ofListFrom .nil m 0) (h1 : v.size = 1) (h2 : v.cells = one v) (h3 : isTuple v = false) :
 stP 1 (.ptr b i) v s = some (.tuple [], s.put b (bxO e m)) := by
 show vu (bif Nat.beq v.size 1 && !isTuple v then stK s b i 1 v.cells else none) = _
 rw [h1, h2, h3]
 have hst : stK s b i 1 (one v) = some (s.put b (bxO e m)) := by
  unfold stK
  rw [h, hl]
  simp only [ble_true.2 (show i + 1 ≤ 6 * 1 by omega), blt_true.2 (show 6 * 1 < big by unfold big; decide), Bool.and_self, Bool.not_false, cond_true]
  unfold elemTo
  rw [show Nat.beq 1 6 = false from rfl]
  have hv0 : (one v).get 0 = some v := rfl
  simp only [Bool.false_and, cond_false, cellsTo, Tr.setC_eq, hv0, oB, Nat.add_zero, Nat.div_eq_of_lt hi, Nat.mod_eq_of_lt hi]
  rw [Tr.get_ofList]
  simp only [List.getElem?_cons_zero, oB, hset, set_one, note_off ho]
  unfold bxO
  rw [hm]
 rw [hst]; rfl
theorem set6_0 (a b c d e f v : V) : (Tr.ofListFrom .nil [a, b, c, d, e, f] 0).set v 0 = Tr.ofListFrom .nil [v, b, c, d, e, f] 0 := by kernel_rfl
theorem set6_3 (a b c d e f v : V) : (Tr.ofListFrom .nil [a, b, c, d, e, f] 0).set v 3 = Tr.ofListFrom .nil [a, b, c, v, e, f] 0 := by kernel_rfl
theorem set6_5 (a b c d e f v : V) : (Tr.ofListFrom .nil [a, b, c, d, e, f] 0).set v 5 = Tr.ofListFrom .nil [a, b, c, d, e, v] 0 := by kernel_rfl
end
noncomputable def r6 (lv : V) (s : List UInt8) (i : Nat) (f : Bool) : List V := [lv, .int .i64 0, sv s, .int .i64 (i : Int), .int .i64 0, .bool f]
def StepsAt (s : St) (N0 : Nat) (v : V) (acc : List (Tr V)) : Prop := (acc = [] ∧ v = .nilslice) ∨ (acc ≠ [] ∧ ∃ r, v = .oslice r 0 acc.length 258 ∧ RowAt s r 50 258 acc ∧ N0 ≤ r ∧ r < s.next)
structure Rdr (S : St) (b N0 : Nat) (s : List UInt8) (i : Nat) (f : Bool) (lv : V) (acc : List (Tr V)) : Prop where
 on : S.on = false
 lo : N0 ≤ b
 hi : b < S.next
 bx : Bx S b 44 (r6 lv s i f)
 steps : StepsAt S N0 lv acc
section
variable {S : St} {b N0 i : Nat} {s : List UInt8} {f : Bool} {lv : V} {acc : List (Tr V)}
theorem StepsAt.one (h : StepsAt S N0 lv acc) : lv.size = 1 ∧ lv.cells = Go.Proofs.Ytachpdpmoihjmaa.Ev.one lv ∧ isTuple lv = false := by
 rcases h with ⟨_, rfl⟩ | ⟨_, r, rfl, _⟩ <;> exact ⟨rfl, rfl, rfl⟩
theorem StepsAt.len (h : StepsAt S N0 lv acc) (t : St) : lnS lv t = some (.int .i64 (acc.length : Int), t) := by
 rcases h with ⟨rfl, rfl⟩ | ⟨_, r, rfl, _⟩ <;> rfl
theorem bx_row {r : Nat} {l : List V} {u : List (Tr V)} (h : Bx S b 44 l) (hr : RowAt S r 50 258 u) : r ≠ b := fun e => by
 obtain ⟨c, h1, _⟩ := hr.row
 rw [e] at h1
 unfold Bx at h
 rw [h] at h1
 simp at h1
theorem StepsAt.grew {W : Nat → Prop} {t : St} (h : StepsAt S N0 lv acc) (hw : ∀ r, RowAt S r 50 258 acc → N0 ≤ r → r < S.next → ¬ W r) (g : Grew W S t) : StepsAt t N0 lv acc := by
 rcases h with h | ⟨h1, r, h2, h3, h4, h5⟩
 · exact .inl h
 · exact .inr ⟨h1, r, h2, h3.grew h5 (hw r h3 h4 h5) g, h4, Nat.lt_of_lt_of_le h5 g.next⟩
theorem Rdr.putI (h : Rdr S b N0 s i f lv acc) (j : Nat) : ∃ T, stP 1 (.ptr b 3) (.int .i64 (j : Int)) S = some (.tuple [], T) ∧ Rdr T b N0 s j f lv acc ∧ Grew (fun x => N0 ≤ x) S T := by
 have hst := bx_st6 (v := .int .i64 (j : Int)) (m := r6 lv s j f) h.on h.bx rfl rfl (by omega) (set6_3 _ _ _ _ _ _ _) rfl rfl rfl
 have g : Grew (fun x => x = b) S (S.put b (bxO 44 (r6 lv s j f))) := grew_put b _
 exact ⟨_, hst, ⟨h.on, h.lo, h.hi, bx_put b 44 _, h.steps.grew (fun r hr _ _ => bx_row h.bx hr) g⟩, g.mono fun x _ hx => by rw [hx]; exact h.lo⟩
theorem Rdr.putF (h : Rdr S b N0 s i f lv acc) (f' : Bool) : ∃ T, stP 1 (.ptr b 5) (.bool f') S = some (.tuple [], T) ∧ Rdr T b N0 s i f' lv acc ∧ Grew (fun x => N0 ≤ x) S T := by
 have hst := bx_st6 (v := .bool f') (m := r6 lv s i f') h.on h.bx rfl rfl (by omega) (set6_5 _ _ _ _ _ _ _) rfl rfl rfl
 have g : Grew (fun x => x = b) S (S.put b (bxO 44 (r6 lv s i f'))) := grew_put b _
 exact ⟨_, hst, ⟨h.on, h.lo, h.hi, bx_put b 44 _, h.steps.grew (fun r hr _ _ => bx_row h.bx hr) g⟩, g.mono fun x _ hx => by rw [hx]; exact h.lo⟩
theorem Rdr.grew {W : Nat → Prop} {t : St} (h : Rdr S b N0 s i f lv acc) (hw : ∀ x, x < S.next → N0 ≤ x → ¬ W x) (g : Grew W S t) : Rdr t b N0 s i f lv acc :=
 ⟨g.on.trans h.on, h.lo, Nat.lt_of_lt_of_le h.hi g.next, h.bx.grew h.hi (hw b h.hi h.lo) g, h.steps.grew (fun r _ h1 h2 => hw r h2 h1) g⟩
theorem Rdr.l0 (h : Rdr S b N0 s i f lv acc) : ld1 (.ptr b 0) S = some (lv, S) := Bx.ld1 h.on h.bx 0 (by show 0 < 6; decide) big6
theorem Rdr.l3 (h : Rdr S b N0 s i f lv acc) : ld1 (.ptr b 3) S = some (.int .i64 (i : Int), S) := Bx.ld1 h.on h.bx 3 (by show 3 < 6; decide) big6
theorem Rdr.o0 (h : Rdr S b N0 s i f lv acc) : ld1 (.ptr b 0) (onS S) = some (lv, rd S b 0 1) := Bx.ld1On h.on h.bx 0 (by show 0 < 6; decide) big6
theorem Rdr.o2 (h : Rdr S b N0 s i f lv acc) : ld1 (.ptr b 2) (onS S) = some (sv s, rd S b 2 1) := Bx.ld1On h.on h.bx 2 (by show 2 < 6; decide) big6
theorem Rdr.o3 (h : Rdr S b N0 s i f lv acc) : ld1 (.ptr b 3) (onS S) = some (.int .i64 (i : Int), rd S b 3 1) := Bx.ld1On h.on h.bx 3 (by show 3 < 6; decide) big6
theorem Rdr.o4 (h : Rdr S b N0 s i f lv acc) : ld1 (.ptr b 4) (onS S) = some (.int .i64 0, rd S b 4 1) := Bx.ld1On h.on h.bx 4 (by show 4 < 6; decide) big6
theorem Rdr.o5 (h : Rdr S b N0 s i f lv acc) : ld1 (.ptr b 5) (onS S) = some (.bool f, rd S b 5 1) := Bx.ld1On h.on h.bx 5 (by show 5 < 6; decide) big6
end
theorem pairs13 {b p x : Nat} (h1 : b ≠ x) (h2 : b ≠ p) (l9 l13 : List LE) :
 pairsOk [[], [], [], [], [], [⟨b, 0, 1, false⟩], [⟨p, 0, 258, false⟩], [⟨x, 0, big, true⟩], l9, [], [], [], l13] [(5, [6, 7])] = true := by
 have e1 : Nat.beq b x = false := beq_false.2 h1
 simp [pairsOk, clashAny, logOf, clash, clash1, meet, Nat.beq]
 exact e1
theorem ldA_on {S : St} {p : Nat} {t : Tr V} (h : AgAt S p 50 258 t) : Go.Proofs.Ytachpdpmoihjmaa.Ev.ldA 258 (.ptr p 0) (onS S) = some (.agg 258 t, rd S p 0 258) := by
 obtain ⟨c, h1, h2⟩ := h
 show (ldK (onS S) p 0 258).bind _ = _
 have : ldK (onS S) p 0 258 = some (t, rd S p 0 258) := by
  unfold ldK
  rw [show (onS S).heap.get p = _ from h1]
  simp only [show Nat.ble (0 + 258) (258 * 1) = true from rfl, blt_true.2 (show 258 * 1 < big by unfold big; decide), Bool.and_self, cond_true]
  unfold elemIn
  rw [show Nat.beq 258 258 = true from rfl, Nat.zero_mod, show Nat.beq 0 0 = true from rfl]
  simp only [Bool.and_self, cond_true, Nat.zero_div, h2, oB]
  rfl
 rw [this, oB]
end Go.Proofs.Ytachpdpmoihjmaa.W
namespace Go.Proofs.Ytachpdpmoihjmaa.W
open Go.Proofs.Ytachpdpmoihjmaa.Ev
section
variable {S : St} {b N0 i : Nat} {s : List UInt8} {f : Bool} {lv : V} {acc : List (Tr V)}
theorem box_ag (ho : S.on = false) (t : Tr V) : ∃ T, boxK 50 (.agg 258 t) S = some (.ptr S.next 0, T) ∧ AgAt T S.next 50 258 t ∧ Grew (fun _ => False) S T ∧ T.next = S.next + 1 := by
 refine ⟨newCells S 50 258 [t], rfl, ⟨Tr.ofListFrom .nil [t] 0, ?_, by rw [Tr.get_ofList]; rfl⟩, grew_nw ho _ _, rfl⟩
 unfold newCells
 rw [nw_get, if_pos rfl]; rfl
theorem nilP (b : Nat) : nilCheckV (.ptr b 0) = some (.ptr b 0) := rfl
theorem faPg (off k o : Nat) (g : Bool) : faP off g (k + 1) (.ptr b o) = some (.ptr b (o + off)) := faP_ptr off g k b o
theorem F13_z : ∃ Z : Tr V, ∀ (self : EV) (N : Nat) (x0 x1 : V) (S : St), F13 self N x0 x1 S =
(boxK 50 x1 S).bind fun p0 =>
(nilCheckV x0).bind fun t4 =>
(faP 0 true 2 t4).bind fun t5 =>
(faP 0 false 1 t5).bind fun t6 =>
(ld1 t6 (onS p0.2)).bind fun p7 =>
(ldA 258 p0.1 (onS p7.2)).bind fun p8 =>
(bsP 50 258 1 Z [(0, p8.1)] (onS p8.2)).bind fun p9 =>
(apP 50 258 272 p7.1 p9.1 (onS p9.2)).bind fun p10 =>
(nilCheckV x0).bind fun t11 =>
(faP 0 true 2 t11).bind fun t12 =>
(faP 0 false 1 t12).bind fun t13 =>
(stP 1 t13 p10.1 (onS p10.2)).bind fun p14 =>
endP [(5, [6, 7])] p0.2 [[], [], [], [], [], p7.2.log, p8.2.log, p9.2.log, p10.2.log, [], [], [], p14.2.log] p14.2 fun S15 =>
(nilCheckV x0).bind fun t17 =>
(faP 0 true 2 t17).bind fun t18 =>
(faP 0 false 1 t18).bind fun t19 =>
(ld1 t19 S15).bind fun p20 =>
(lnS p20.1 p20.2).bind fun p21 =>
(binV E0 .sub 3 false true p21.1 (.int .i64 1)).bind fun t22 =>
some (.ret t22, p21.2) := ⟨_, fun self N x0 x1 S => F13_eq self N x0 x1 S⟩
theorem add_run {K : FuncId → Option KF} (h13 : K 13 = none) (m : Nat) (h : Rdr S b N0 s i f lv acc) (hl : acc.length ≤ 3000) (t : Tr V) :
 ∃ T lv', (ev E0 K (m + 1)).f 13 [.ptr b 0, .agg 258 t] S = some (.ret (.int .i64 (acc.length : Int)), T) ∧ Rdr T b N0 s i f lv' (acc ++ [t]) ∧ Grew (fun x => N0 ≤ x) S T := by
 obtain ⟨Z, hZ⟩ := F13_z
 have ho := h.on
 obtain ⟨S0, a1, a2, a3, a4⟩ := box_ag ho t
 have on0 := a3.on.trans ho
 have lob := h.lo
 have hib := h.hi
 have h0 : Rdr S0 b N0 s i f lv acc := h.grew (fun _ _ _ h => h) a3
 obtain ⟨S1, b1, b2, b3, b4⟩ := bsP_lg on0 Z t
 have on1 := b3.on.trans on0
 have hap : ∃ S2 l2, apP 50 258 272 lv (.slice S0.next 0 1 1) (S1.lg []) = some (.oslice S1.next 0 (acc.length + 1) 258, S2.lg l2) ∧ RowAt S2 S1.next 50 258 (acc ++ [t]) ∧ Grew (fun x => N0 ≤ x ∧ x ≠ b) S1 S2 ∧ S2.next = S1.next + 1 := by
  rcases h0.steps with ⟨rfl, rfl⟩ | ⟨hne, r, rfl, hr, hNr, hrn⟩
  · obtain ⟨u, l, k1, k2, k3, k4⟩ := ap_first_lg on1 [] b2
    exact ⟨u, l, k1, k2, k3.mono fun _ _ h => h.elim, k4⟩
  · obtain ⟨u, l, k1, k2, k3, k4⟩ := ap_more_lg on1 [] b2 (hr.grew hrn (fun h => h) b3) hl
    exact ⟨u, l, k1, k2, k3.mono fun x _ hx => by rw [hx]; exact ⟨hNr, bx_row h0.bx hr⟩, k4⟩
 obtain ⟨S2, l2, c1, c2, c3, c4⟩ := hap
 have on2 := c3.on.trans on1
 have bx2 := (h0.bx.grew (by omega) (fun h => h) b3).grew (by omega) (fun h => h.2 rfl) c3
 have hst := bx_st6 (i := 0) (v := .oslice S1.next 0 (acc.length + 1) 258) (m := r6 (.oslice S1.next 0 (acc.length + 1) 258) s i f) on2 bx2 rfl rfl (by omega) (set6_0 _ _ _ _ _ _ _) rfl rfl rfl
 have g3 : Grew (fun x => x = b) S2 (S2.put b (bxO 44 (r6 (.oslice S1.next 0 (acc.length + 1) 258) s i f))) := grew_put b _
 have bx3 := bx_put (s := S2) b 44 (r6 (.oslice S1.next 0 (acc.length + 1) 258) s i f)
 have n3 : (S2.put b (bxO 44 (r6 (.oslice S1.next 0 (acc.length + 1) 258) s i f))).next = S2.next := rfl
 generalize S2.put b (bxO 44 (r6 (.oslice S1.next 0 (acc.length + 1) 258) s i f)) = S3 at hst g3 bx3 n3
 have on3 := g3.on.trans on2
 obtain ⟨l13, hlog⟩ := stP_lg on2 hst
 have row3 := c2.grew (by omega) (by omega) g3
 have hreg : ∀ U, U = relog S0 (S3.lg l13) [[], [], [], [], [], [⟨b, 0, 1, false⟩], [⟨S.next, 0, 258, false⟩], [⟨S0.next, 0, big, true⟩], l2, [], [], [], l13] → Rdr U b N0 s i f (.oslice S1.next 0 (acc.length + 1) 258) (acc ++ [t]) ∧ Grew (fun x => N0 ≤ x) S U := fun U hU => by
  obtain ⟨u1, u2, u3⟩ := relog_lg on0 l13 [[], [], [], [], [], [⟨b, 0, 1, false⟩], [⟨S.next, 0, 258, false⟩], [⟨S0.next, 0, big, true⟩], l2, [], [], [], l13] (s' := S3) on3
  rw [← hU] at u1 u2 u3
  have gg : Grew (fun x => N0 ≤ x) S S3 := ((a3.mono fun _ _ h => h.elim).trans ((b3.mono fun _ _ h => h.elim).trans (c3.mono fun x _ hx => hx.1))).trans (g3.mono fun x _ hx => by rw [hx]; exact lob)
  refine ⟨⟨u3, lob, by rw [u2]; omega, by unfold Bx at bx3 ⊢; rw [u1]; exact bx3, .inr ⟨by simp, S1.next, by rw [List.length_append]; rfl, row3.same u1, by omega, by rw [u2]; omega⟩⟩, ⟨by rw [u2]; exact gg.next, by rw [u3, ho], fun x hx hw => by rw [u1]; exact gg.keep x hx hw⟩⟩
 have hmain : F13 (ev E0 K m) rounds (.ptr b 0) (.agg 258 t) S = some (.ret (.int .i64 (acc.length : Int)), relog S0 (S3.lg l13) [[], [], [], [], [], [⟨b, 0, 1, false⟩], [⟨S.next, 0, 258, false⟩], [⟨S0.next, 0, big, true⟩], l2, [], [], [], l13]) := by
  have hU := (hreg _ rfl).1
  rw [hZ, a1, oB]
  dsimp only
  simp only [nilP, faPg, Nat.add_zero, oB]
  rw [h0.o0, oB]
  dsimp only
  rw [onS_rd, ldA_on a2, oB]
  dsimp only
  rw [onS_rd, onS_lg, b1, oB]
  dsimp only
  rw [onS_of_lg, onS_lg, c1, oB]
  dsimp only
  rw [onS_of_lg, onS_lg, hlog, oB]
  dsimp only
  have hp : ∀ (x : List (List LE)) (k : St → Rs), x = [[], [], [], [], [], [⟨b, 0, 1, false⟩], [⟨S.next, 0, 258, false⟩], [⟨S0.next, 0, big, true⟩], l2, [], [], [], l13] → endP [(5, [6, 7])] S0 x (S3.lg l13) k = k (relog S0 (S3.lg l13) [[], [], [], [], [], [⟨b, 0, 1, false⟩], [⟨S.next, 0, 258, false⟩], [⟨S0.next, 0, big, true⟩], l2, [], [], [], l13]) := fun x k hx => by
   rw [hx, endP_of (pairs13 (b := b) (p := S.next) (x := S0.next) (by omega) (by omega) l2 l13)]
  rw [hp [[], [], [], [], [], (rd S0 b 0 1).log, (rd S0 S.next 0 258).log, (S1.lg [⟨S0.next, 0, big, true⟩]).log, (S2.lg l2).log, [], [], [], (S3.lg l13).log] _ rfl]
  generalize relog S0 (S3.lg l13) [[], [], [], [], [], [⟨b, 0, 1, false⟩], [⟨S.next, 0, 258, false⟩], [⟨S0.next, 0, big, true⟩], l2, [], [], [], l13] = U at hU
  rw [hU.l0, oB]
  dsimp only
  rw [hU.steps.len, oB]
  dsimp only
  rw [List.length_append, binV_ii, intsV_sub, wrap_i64 (by rw [List.length_singleton]; omega) (by rw [List.length_singleton]; omega), oB, show (((acc.length + [t].length : Nat) : Int)) - 1 = (acc.length : Int) by simp]
 exact ⟨_, _, ev_read (c := C13) (d := B13) (by kernel_rfl) (by kernel_rfl) (annot_isOf C13 _ (by kernel_rfl)) h13 hmain, (hreg _ rfl).1, (hreg _ rfl).2⟩
end
end Go.Proofs.Ytachpdpmoihjmaa.W
