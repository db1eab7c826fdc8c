/-
  WHAT THE FUNCTIONS COME TO: each is read by the evaluator, printed, and told as a function of data, part 2 of 5 (no condition).
-/
import Derived.Test.YtginkdeicmdmaaaW1
import Derived.Test.YtginkdeicmdmaaaProg
import Derived.KernelRfl
import Derived.Test.YtginkdeicmdmaaaShelf
namespace Go.Proofs.Ytginkdeicmdmaaa.W
open Go.Proofs.Ytginkdeicmdmaaa.Ev
set_option maxRecDepth 100000
noncomputable section
noncomputable def C6 : Code := Try.f6.body.getD .skip
noncomputable def B6 : D := (annot C6 [[], [], [], [], [3, 4, 5], [], [3, 4], [], [], [0, 3, 4], [2], [], [], [], [], [], [], [3, 6, 7, 8], [], [3], [], [], [], [], [], [], [3, 6, 7, 8, 9, 10], [], [3, 6, 7, 8], [], [], [], [3, 6, 7, 8, 9, 10], [], [], [], [], [0, 3, 6, 7, 8], [3, 6, 7, 8], [0, 3, 6, 7, 8], [3, 6, 7, 8], [0, 3], [2], [], [], [3, 12, 13, 14], [], [12, 13], [], [], [], [3, 12, 13, 14, 15], [], [3, 12, 13, 14], [], [], [], [0, 3, 12, 13, 14], [3, 12, 13, 14], [0, 12, 13], [2], []]).1
noncomputable def RL6 : List Nat := cellsOf Try.f6.results.toList
noncomputable def R6_5 (self : EV) (N : Nat) (nk : Ac → St → Rs) (ek : Nat → Ac → St → Rs) (a : Ac) (S : St) : Rs := projK [3, 4] a fun a => dr E0 self RL6 N (B6.r.r.r).r (mkK E0 self Try.f6 nk ek) a S
noncomputable def R6_16 (self : EV) (N : Nat) (nk : Ac → St → Rs) (ek : Nat → Ac → St → Rs) (a : Ac) (S : St) : Rs := projK [3] a fun a => dr E0 self RL6 N (B6.r.r.r.r.l.r.r.r).r (mkK E0 self Try.f6 nk ek) a S
noncomputable def R6_19 (self : EV) (N : Nat) (nk : Ac → St → Rs) (ek : Nat → Ac → St → Rs) (a : Ac) (S : St) : Rs := projK [12, 13] a fun a => dr E0 self RL6 N (B6.r.r.r.r.l.r.r.r.r.l.r).r (mkK E0 self Try.f6 nk ek) a S
theorem R6_19_eq (self : EV) (N : Nat) (nk : Ac → St → Rs) (ek : Nat → Ac → St → Rs) ( v12 v13 : V) (S : St) : R6_19 self N nk ek (fr 170 [(12, v12), (13, v13)]) S =
(binV E0 .eql 3 false false v12 v13).bind fun t22 =>
(guardV true t22).bind fun g24 => callP (bif g24 then self.f 14 [] S else some (.ret (.tuple []), S)) fun t24 S24 =>
(pickV t22 (some t24) (some (.bool false))).bind fun t25 =>
some (.ret t25, S24) := by kernel_rfl
noncomputable def N6_28 (self : EV) (N : Nat) (nk : Ac → St → Rs) (ek : Nat → Ac → St → Rs) (n : Nat) : Ac → St → Rs := fun a S => projK [3, 12, 13, 14] a fun a => loopK [3, 12, 13, 14] (dr E0 self RL6 N (B6.r.r.r.r.l.r.r.r.r.l.r.l.r.l.l)) (mkK E0 self Try.f6 nk ek) n a S
noncomputable def L6_28 (self : EV) (N : Nat) (nk : Ac → St → Rs) (ek : Nat → Ac → St → Rs) (n : Nat) ( v3 v12 v13 v14 : V) (S : St) : Rs := loopK [3, 12, 13, 14] (dr E0 self RL6 N (B6.r.r.r.r.l.r.r.r.r.l.r.l.r.l.l)) (mkK E0 self Try.f6 nk ek) n (fr 170 [(3, v3), (12, v12), (13, v13), (14, v14)]) S
noncomputable def R6_33 (self : EV) (N : Nat) (nk : Ac → St → Rs) (ek : Nat → Ac → St → Rs) (a : Ac) (S : St) : Rs := projK [3, 12, 13, 14] a fun a => dr E0 self RL6 N (B6.r.r.r.r.l.r.r.r.r.l.r.l.r.l.l.r).r (mkK E0 self Try.f6 nk ek) a S
theorem R6_33_eq (self : EV) (N : Nat) (nk : Ac → St → Rs) (ek : Nat → Ac → St → Rs) ( v3 v12 v13 v14 : V) (S : St) : R6_33 self N nk ek (fr 170 [(3, v3), (12, v12), (13, v13), (14, v14)]) S =
(binV E0 .add 3 false true v14 (.int .i64 1)).bind fun t35 =>
nk (fr 170 [(3, v3), (12, v12), (13, v13), (14, t35)]) S := by kernel_rfl
noncomputable def L6_49 (self : EV) (N : Nat) (nk : Ac → St → Rs) (ek : Nat → Ac → St → Rs) (n : Nat) ( v3 v12 v13 v14 v15 : V) (S : St) : Rs := loopK [3, 12, 13, 14, 15] (dr E0 self RL6 N (B6.r.r.r.r.l.r.r.r.r.l.r.l.r.l.l.r.l.l.r.r.l.l)) (mkK E0 self Try.f6 nk ek) n (fr 170 [(3, v3), (12, v12), (13, v13), (14, v14), (15, v15)]) S
theorem L6_49_eq (self : EV) (N : Nat) (nk : Ac → St → Rs) (ek : Nat → Ac → St → Rs) (n : Nat) ( v3 v12 v13 v14 v15 : V) (S : St) : L6_49 self N nk ek (n + 1) v3 v12 v13 v14 v15 S =
(ixP 4 v3 v14).bind fun t53 =>
(faP 1 false 1 t53).bind fun t54 =>
(ld1 t54 S).bind fun p55 =>
(lnS p55.1 p55.2).bind fun p56 =>
(binV E0 .lss 3 false false v15 p56.1).bind fun t57 =>
ifK t57 (
(ixP 4 v3 v14).bind fun t60 =>
(faP 1 false 1 t60).bind fun t61 =>
(ld1 t61 (onS p56.2)).bind fun p62 =>
(ixP 1 p62.1 v15).bind fun t64 =>
(ld1 t64 (onS p62.2)).bind fun p65 =>
(ixP 4 v3 v14).bind fun t68 =>
(faP 0 false 1 t68).bind fun t69 =>
(ld1 t69 (onS p65.2)).bind fun p70 =>
(binV E0 .neq 9 false false p65.1 p70.1).bind fun t71 =>
endP [(4, [12]), (7, [12])] p56.2 [[], [], [], [], p62.2.log, [], [], p65.2.log, [], [], [], [], p70.2.log, []] (onS p70.2) fun S72 =>
ifK t71 (
(binV E0 .add 3 false true v13 (.int .i64 1)).bind fun t74 =>
(binV E0 .add 3 false true v15 (.int .i64 1)).bind fun t77 =>
L6_49 self N nk ek n v3 v12 t74 v14 t77 S72) (
(binV E0 .add 3 false true v15 (.int .i64 1)).bind fun t80 =>
L6_49 self N nk ek n v3 v12 v13 v14 t80 S72)) (
ek 8 (fr 170 [(3, v3), (12, v12), (13, v13), (14, v14)]) p56.2) := by kernel_rfl
theorem L6_28_eq (self : EV) (N : Nat) (nk : Ac → St → Rs) (ek : Nat → Ac → St → Rs) (n : Nat) ( v3 v12 v13 v14 : V) (S : St) : L6_28 self N nk ek (n + 1) v3 v12 v13 v14 S =
(lnS v3 S).bind fun p31 =>
(binV E0 .lss 3 false false v14 p31.1).bind fun t32 =>
ifK t32 (
(ixP 4 v3 v14).bind fun t41 =>
(faP 0 false 1 t41).bind fun t42 =>
(ld1 t42 p31.2).bind fun p43 =>
callP (self.f 23 [v3, p43.1] p43.2) fun t44 S44 =>
(lnS t44 S44).bind fun p45 =>
(binV E0 .add 3 false false v12 p45.1).bind fun t46 =>
L6_49 self N (R6_33 self N (N6_28 self N nk ek n) ek) (exB 8 (R6_33 self N (N6_28 self N nk ek n) ek) (exB 7 (R6_33 self N (N6_28 self N nk ek n) ek) ek)) N v3 t46 v13 v14 (.int .i64 0) p45.2) (
ek 6 (fr 170 [(12, v12), (13, v13)]) p31.2) := by kernel_rfl
theorem N6_28_eq (self : EV) (N : Nat) (nk : Ac → St → Rs) (ek : Nat → Ac → St → Rs) (n : Nat) ( v3 v12 v13 v14 : V) (S : St) : N6_28 self N nk ek n (fr 170 [(3, v3), (12, v12), (13, v13), (14, v14)]) S = L6_28 self N nk ek n v3 v12 v13 v14 S := by kernel_rfl
theorem R6_16_eq (self : EV) (N : Nat) (nk : Ac → St → Rs) (ek : Nat → Ac → St → Rs) ( v3 : V) (S : St) : R6_16 self N nk ek (fr 170 [(3, v3)]) S =
L6_28 self N (R6_19 self N (fun a s => projK [2] a fun a => nk a s) ek) (exB 6 (R6_19 self N (fun a s => projK [2] a fun a => nk a s) ek) ek) N v3 (.int .i64 0) (.int .i64 0) (.int .i64 0) S := by kernel_rfl
noncomputable def N6_83 (self : EV) (N : Nat) (nk : Ac → St → Rs) (ek : Nat → Ac → St → Rs) (n : Nat) : Ac → St → Rs := fun a S => projK [3, 6, 7, 8] a fun a => loopK [3, 6, 7, 8] (dr E0 self RL6 N (B6.r.r.r.r.l.r.r.r.l.r.l.l)) (mkK E0 self Try.f6 nk ek) n a S
noncomputable def L6_83 (self : EV) (N : Nat) (nk : Ac → St → Rs) (ek : Nat → Ac → St → Rs) (n : Nat) ( v3 v6 v7 v8 : V) (S : St) : Rs := loopK [3, 6, 7, 8] (dr E0 self RL6 N (B6.r.r.r.r.l.r.r.r.l.r.l.l)) (mkK E0 self Try.f6 nk ek) n (fr 170 [(3, v3), (6, v6), (7, v7), (8, v8)]) S
noncomputable def R6_88 (self : EV) (N : Nat) (nk : Ac → St → Rs) (ek : Nat → Ac → St → Rs) (a : Ac) (S : St) : Rs := projK [3, 6, 7, 8] a fun a => dr E0 self RL6 N (B6.r.r.r.r.l.r.r.r.l.r.l.l.r).r (mkK E0 self Try.f6 nk ek) a S
theorem R6_88_eq (self : EV) (N : Nat) (nk : Ac → St → Rs) (ek : Nat → Ac → St → Rs) ( v3 v6 v7 v8 : V) (S : St) : R6_88 self N nk ek (fr 170 [(3, v3), (6, v6), (7, v7), (8, v8)]) S =
(binV E0 .add 3 false true v8 (.int .i64 1)).bind fun t90 =>
nk (fr 170 [(3, v3), (6, v6), (7, v7), (8, t90)]) S := by kernel_rfl
noncomputable def R6_125 (self : EV) (N : Nat) (nk : Ac → St → Rs) (ek : Nat → Ac → St → Rs) (a : Ac) (S : St) : Rs := projK [3, 6, 7, 8] a fun a => dr E0 self RL6 N (B6.r.r.r.r.l.r.r.r.l.r.l.l.r.l.l.r.r).r (mkK E0 self Try.f6 nk ek) a S
theorem R6_125_eq (self : EV) (N : Nat) (nk : Ac → St → Rs) (ek : Nat → Ac → St → Rs) ( v3 v6 v7 v8 : V) (S : St) : R6_125 self N nk ek (fr 170 [(3, v3), (6, v6), (7, v7), (8, v8)]) S =
(ixP 1 v6 v8).bind fun t129 =>
(ld1 t129 S).bind fun p130 =>
(bsP 9 1 1 (Go.Proofs.Ytginkdeicmdmaaa.Ev.one (sv [])) [(0, p130.1)] p130.2).bind fun p131 =>
(apP 9 1 16 v7 p131.1 p131.2).bind fun p132 =>
nk (fr 170 [(3, v3), (6, v6), (7, p132.1), (8, v8)]) p132.2 := by kernel_rfl
noncomputable def L6_135 (self : EV) (N : Nat) (nk : Ac → St → Rs) (ek : Nat → Ac → St → Rs) (n : Nat) ( v3 v6 v7 v8 v9 v10 : V) (S : St) : Rs := loopK [3, 6, 7, 8, 9, 10] (dr E0 self RL6 N (B6.r.r.r.r.l.r.r.r.l.r.l.l.r.l.l.r.r.l.r.l.l)) (mkK E0 self Try.f6 nk ek) n (fr 170 [(3, v3), (6, v6), (7, v7), (8, v8), (9, v9), (10, v10)]) S
theorem L6_135_eq (self : EV) (N : Nat) (nk : Ac → St → Rs) (ek : Nat → Ac → St → Rs) (n : Nat) ( v3 v6 v7 v8 v9 v10 : V) (S : St) : L6_135 self N nk ek (n + 1) v3 v6 v7 v8 v9 v10 S =
(ixP 4 v3 v9).bind fun t139 =>
(faP 1 false 1 t139).bind fun t140 =>
(ld1 t140 S).bind fun p141 =>
(lnS p141.1 p141.2).bind fun p142 =>
(binV E0 .lss 3 false false v10 p142.1).bind fun t143 =>
ifK t143 (
(ixP 4 v3 v9).bind fun t146 =>
(faP 1 false 1 t146).bind fun t147 =>
(ld1 t147 p142.2).bind fun p148 =>
(ixP 1 p148.1 v10).bind fun t150 =>
(ld1 t150 p148.2).bind fun p151 =>
(ixP 1 v6 v8).bind fun t156 =>
(ld1 t156 p151.2).bind fun p157 =>
(binV E0 .eql 9 false false p151.1 p157.1).bind fun t158 =>
ifK t158 (
(binV E0 .add 3 false true v10 (.int .i64 1)).bind fun t160 =>
L6_135 self N nk ek n v3 v6 v7 v8 v9 t160 p157.2) (
callD (planOf E0 (B6.r.r.r.r.l.r.r.r.l.r.l.l.r.l.l.r.r.l.r.l.l.r.l.l.r.r.l).ops) p157.2 2 [[], []] (self.f 13 [v7, p151.1] (onS p157.2)) fun t164 S164 =>
(unV .not t164).bind fun t165 =>
(guardV false t165).bind fun g167 => (bif g167 then some v3 else some (.tuple [])).bind fun t167 =>
(guardV false t165).bind fun g168 => (bif g168 then some p151.1 else some (.tuple [])).bind fun t168 =>
(guardV false t165).bind fun g169 => callD (planOf E0 (B6.r.r.r.r.l.r.r.r.l.r.l.l.r.l.l.r.r.l.r.l.l.r.l.l.r.r.l).ops) p157.2 7 [[], [], S164.log, [], [], [], []] (bif g169 then self.f 23 [t167, t168] (onS S164) else some (.ret (.tuple []), (onS S164))) fun t169 S169 =>
(guardV false t165).bind fun g170 => (bif g170 then some v6 else some (.tuple [])).bind fun t170 =>
(guardV false t165).bind fun g171 => (bif g171 then some v8 else some (.tuple [])).bind fun t171 =>
(guardV false t165).bind fun g172 => (bif g172 then ixP 1 t170 t171 else some (.tuple [])).bind fun t172 =>
(guardV false t165).bind fun g173 => (bif g173 then ld1 t172 (onS S169) else some (.tuple [], (onS S169))).bind fun p173 =>
(guardV false t165).bind fun g174 => callD (planOf E0 (B6.r.r.r.r.l.r.r.r.l.r.l.l.r.l.l.r.r.l.r.l.l.r.l.l.r.r.l).ops) p157.2 12 [[], [], S164.log, [], [], [], [], S169.log, [], [], [], p173.2.log] (bif g174 then self.f 13 [t169, p173.1] (onS p173.2) else some (.ret (.tuple []), (onS p173.2))) fun t174 S174 =>
(guardV false t165).bind fun g175 => (bif g175 then unV .not t174 else some (.tuple [])).bind fun t175 =>
(pickV t165 (some (.bool true)) (some t175)).bind fun t176 =>
endP [(7, [11])] p157.2 [[], [], S164.log, [], [], [], [], S169.log, [], [], [], p173.2.log, S174.log, [], []] (onS S174) fun S177 =>
ifK t176 (
some (.ret (.bool false), S177)) (
(binV E0 .add 3 false true v10 (.int .i64 1)).bind fun t180 =>
L6_135 self N nk ek n v3 v6 v7 v8 v9 t180 S177))) (
ek 4 (fr 170 [(3, v3), (6, v6), (7, v7), (8, v8)]) p142.2) := by kernel_rfl
theorem L6_83_eq (self : EV) (N : Nat) (nk : Ac → St → Rs) (ek : Nat → Ac → St → Rs) (n : Nat) ( v3 v6 v7 v8 : V) (S : St) : L6_83 self N nk ek (n + 1) v3 v6 v7 v8 S =
(lnS v6 S).bind fun p86 =>
(binV E0 .lss 3 false false v8 p86.1).bind fun t87 =>
ifK t87 (
(ixP 1 v6 v8).bind fun t94 =>
(ld1 t94 p86.2).bind fun p95 =>
(ixS p95.1 (.int .i64 0)).bind fun t96 =>
(cvI .i64 t96 p95.2).bind fun p97 =>
(binV E0 .sub 3 false true p97.1 (.int .i64 97)).bind fun t98 =>
(ixP 1 v6 v8).bind fun t102 =>
(ld1 t102 p97.2).bind fun p103 =>
(lnStr p103.1 p103.2).bind fun p104 =>
(binV E0 .neq 3 false true p104.1 (.int .i64 1)).bind fun t105 =>
(guardV false t105).bind fun g107 => (bif g107 then some t98 else some (.tuple [])).bind fun t107 =>
(guardV false t105).bind fun g108 => (bif g108 then binV E0 .lss 3 false true t107 (.int .i64 0) else some (.tuple [])).bind fun t108 =>
(pickV t105 (some (.bool true)) (some t108)).bind fun t109 =>
(guardV false t109).bind fun g111 => (bif g111 then some t98 else some (.tuple [])).bind fun t111 =>
(guardV false t109).bind fun g112 => (bif g112 then some v3 else some (.tuple [])).bind fun t112 =>
(guardV false t109).bind fun g113 => (bif g113 then lnS t112 p104.2 else some (.tuple [], p104.2)).bind fun p113 =>
(guardV false t109).bind fun g114 => (bif g114 then binV E0 .geq 3 false false t111 p113.1 else some (.tuple [])).bind fun t114 =>
(pickV t109 (some (.bool true)) (some t114)).bind fun t115 =>
(guardV false t115).bind fun g117 => (bif g117 then some v7 else some (.tuple [])).bind fun t117 =>
(guardV false t115).bind fun g118 => (bif g118 then some v6 else some (.tuple [])).bind fun t118 =>
(guardV false t115).bind fun g119 => (bif g119 then some v8 else some (.tuple [])).bind fun t119 =>
(guardV false t115).bind fun g120 => (bif g120 then ixP 1 t118 t119 else some (.tuple [])).bind fun t120 =>
(guardV false t115).bind fun g121 => (bif g121 then ld1 t120 p113.2 else some (.tuple [], p113.2)).bind fun p121 =>
(guardV false t115).bind fun g122 => callP (bif g122 then self.f 13 [t117, p121.1] p121.2 else some (.ret (.tuple []), p121.2)) fun t122 S122 =>
(pickV t115 (some (.bool true)) (some t122)).bind fun t123 =>
ifK t123 (
some (.ret (.bool false), S122)) (
L6_135 self N (R6_125 self N (R6_88 self N (N6_83 self N nk ek n) ek) (exB 3 (R6_88 self N (N6_83 self N nk ek n) ek) ek)) (exB 4 (R6_125 self N (R6_88 self N (N6_83 self N nk ek n) ek) (exB 3 (R6_88 self N (N6_83 self N nk ek n) ek) ek)) (exB 3 (R6_88 self N (N6_83 self N nk ek n) ek) ek)) N v3 v6 v7 v8 t98 (.int .i64 0) S122)) (
ek 2 (fr 170 [(3, v3)]) p86.2) := by kernel_rfl
theorem N6_83_eq (self : EV) (N : Nat) (nk : Ac → St → Rs) (ek : Nat → Ac → St → Rs) (n : Nat) ( v3 v6 v7 v8 : V) (S : St) : N6_83 self N nk ek n (fr 170 [(3, v3), (6, v6), (7, v7), (8, v8)]) S = L6_83 self N nk ek n v3 v6 v7 v8 S := by kernel_rfl
theorem R6_5_eq (self : EV) (N : Nat) (nk : Ac → St → Rs) (ek : Nat → Ac → St → Rs) ( v3 v4 : V) (S : St) : R6_5 self N nk ek (fr 170 [(3, v3), (4, v4)]) S =
callP (self.f 21 [v4] S) fun t7 S7 =>
(lnS t7 S7).bind fun p10 =>
(lnS v3 p10.2).bind fun p12 =>
(binV E0 .neq 3 false false p10.1 p12.1).bind fun t13 =>
ifK t13 (
some (.ret (.bool false), p12.2)) (
L6_83 self N (R6_16 self N (fun a s => projK [2] a fun a => nk a s) ek) (exB 2 (R6_16 self N (fun a s => projK [2] a fun a => nk a s) ek) ek) N v3 t7 .nilslice (.int .i64 0) p12.2) := by kernel_rfl
noncomputable def L6_186 (self : EV) (N : Nat) (nk : Ac → St → Rs) (ek : Nat → Ac → St → Rs) (n : Nat) ( v3 v4 v5 : V) (S : St) : Rs := loopK [3, 4, 5] (dr E0 self RL6 N (B6.r.r.r.l.r.l.l)) (mkK E0 self Try.f6 nk ek) n (fr 170 [(3, v3), (4, v4), (5, v5)]) S
theorem L6_186_eq (self : EV) (N : Nat) (nk : Ac → St → Rs) (ek : Nat → Ac → St → Rs) (n : Nat) ( v3 v4 v5 : V) (S : St) : L6_186 self N nk ek (n + 1) v3 v4 v5 S =
(binV E0 .geq 3 false true v5 (.int .i64 0)).bind fun t188 =>
ifK t188 (
(ixP 4 v3 v5).bind fun t192 =>
(ldA 4 t192 S).bind fun p193 =>
(bsP 28 4 1 (Tr.ofListFrom .nil [(sv []), .nilslice, (sv []), (sv [])] 0) [(0, p193.1)] p193.2).bind fun p194 =>
(apP 28 4 72 v4 p194.1 p194.2).bind fun p195 =>
(binV E0 .sub 3 false true v5 (.int .i64 1)).bind fun t198 =>
L6_186 self N nk ek n v3 p195.1 t198 p195.2) (
ek 0 (fr 170 [(3, v3), (4, v4)]) S) := by kernel_rfl
noncomputable def F6 (self : EV) (N : Nat) (x0 : V) (S : St) : Rs := runF E0 self N Try.f6 B6 [x0] S
theorem F6_eq (self : EV) (N : Nat) (x0 : V) (S : St) : F6 self N x0 S =
callP (self.f 8 [x0, (.bool true)] S) fun t2 S2 =>
(lnS t2 S2).bind fun p183 =>
(binV E0 .sub 3 false true p183.1 (.int .i64 1)).bind fun t184 =>
L6_186 self N (R6_5 self N (finN E0 self Try.f6) noEx) (exB 0 (R6_5 self N (finN E0 self Try.f6) noEx) noEx) N t2 .nilslice t184 p183.2 := by kernel_rfl
noncomputable def C21 : Code := Try.f21.body.getD .skip
noncomputable def B21 : D := (annot C21 [[], [], [], [], [3, 4, 5], [], [5], [], [], [], [], [], [0, 5], [2], []]).1
noncomputable def RL21 : List Nat := cellsOf Try.f21.results.toList
noncomputable def R21_10 (self : EV) (N : Nat) (nk : Ac → St → Rs) (ek : Nat → Ac → St → Rs) (a : Ac) (S : St) : Rs := projK [5] a fun a => dr E0 self RL21 N (B21.r.r.r.r).r (mkK E0 self Try.f21 nk ek) a S
theorem R21_10_eq (self : EV) (N : Nat) (nk : Ac → St → Rs) (ek : Nat → Ac → St → Rs) ( v5 : V) (S : St) : R21_10 self N nk ek (fr 33 [(5, v5)]) S =
some (.ret v5, S) := by kernel_rfl
noncomputable def L21_13 (self : EV) (N : Nat) (nk : Ac → St → Rs) (ek : Nat → Ac → St → Rs) (n : Nat) ( v3 v4 v5 : V) (S : St) : Rs := loopK [3, 4, 5] (dr E0 self RL21 N (B21.r.r.r.r.l.l.l)) (mkK E0 self Try.f21 nk ek) n (fr 33 [(3, v3), (4, v4), (5, v5)]) S
theorem L21_13_eq (self : EV) (N : Nat) (nk : Ac → St → Rs) (ek : Nat → Ac → St → Rs) (n : Nat) ( v3 v4 v5 : V) (S : St) : L21_13 self N nk ek (n + 1) v3 v4 v5 S =
(ld1 v4 S).bind fun p14 =>
(lnMap p14.1 p14.2).bind fun p15 =>
(binV E0 .gtr 3 false true p15.1 (.int .i64 0)).bind fun t16 =>
ifK t16 (
(ld1 v4 p15.2).bind fun p17 =>
callP (self.f 30 [p17.1, (.fn (.func 37) [] [v3, v4])] p17.2) fun t19 S19 =>
(lnS t19 S19).bind fun p22 =>
(binV E0 .eql 3 false true p22.1 (.int .i64 0)).bind fun t23 =>
ifK t23 (
(ld1 v4 p22.2).bind fun p24 =>
callP (self.f 30 [p24.1, (.fn (.func 40) [] [])] p24.2) fun t25 S25 =>
(ixP 1 t25 (.int .i64 0)).bind fun t29 =>
(ld1 t29 S25).bind fun p30 =>
(bsP 9 1 1 (Go.Proofs.Ytginkdeicmdmaaa.Ev.one (sv [])) [(0, p30.1)] p30.2).bind fun p31 =>
(apP 9 1 16 v5 p31.1 p31.2).bind fun p32 =>
(ld1 v4 (onS p32.2)).bind fun p34 =>
(ixP 1 t25 (.int .i64 0)).bind fun t36 =>
(ld1 t36 (onS p34.2)).bind fun p37 =>
(vu (deleteV E0 48 p34.1 p37.1 (onS p37.2))).bind fun p38 =>
endP [(0, [3])] p32.2 [p34.2.log, [], [], p37.2.log, p38.2.log] p38.2 fun S39 =>
L21_13 self N nk ek n v3 v4 p32.1 S39) (
(ixP 1 t19 (.int .i64 0)).bind fun t42 =>
(ld1 t42 p22.2).bind fun p43 =>
(bsP 9 1 1 (Go.Proofs.Ytginkdeicmdmaaa.Ev.one (sv [])) [(0, p43.1)] p43.2).bind fun p44 =>
(apP 9 1 16 v5 p44.1 p44.2).bind fun p45 =>
(ld1 v4 (onS p45.2)).bind fun p47 =>
(ixP 1 t19 (.int .i64 0)).bind fun t49 =>
(ld1 t49 (onS p47.2)).bind fun p50 =>
(vu (deleteV E0 48 p47.1 p50.1 (onS p50.2))).bind fun p51 =>
endP [(0, [3])] p45.2 [p47.2.log, [], [], p50.2.log, p51.2.log] p51.2 fun S52 =>
L21_13 self N nk ek n v3 v4 p45.1 S52)) (
ek 0 (fr 33 [(5, v5)]) p15.2) := by kernel_rfl
noncomputable def F21 (self : EV) (N : Nat) (x0 : V) (S : St) : Rs := runF E0 self N Try.f21 B21 [x0] S
theorem F21_eq (self : EV) (N : Nat) (x0 : V) (S : St) : F21 self N x0 S =
callP (self.f 28 [x0] S) fun t2 S2 =>
(some (nwP 48 1 (Go.Proofs.Ytginkdeicmdmaaa.Ev.one .nilmap) S2)).bind fun p3 =>
(stP 1 p3.1 t2 p3.2).bind fun p4 =>
(ld1 p3.1 p4.2).bind fun p5 =>
callP (self.f 36 [p5.1] p5.2) fun t6 S6 =>
(some (nwP 48 1 (Go.Proofs.Ytginkdeicmdmaaa.Ev.one .nilmap) S6)).bind fun p7 =>
(stP 1 p7.1 t6 p7.2).bind fun p8 =>
L21_13 self N (R21_10 self N (finN E0 self Try.f21) noEx) (exB 0 (R21_10 self N (finN E0 self Try.f21) noEx) noEx) N p3.1 p7.1 .nilslice p8.2 := by kernel_rfl
noncomputable def C23 : Code := Try.f23.body.getD .skip
noncomputable def B23 : D := (annot C23 [[], [], []]).1
noncomputable def F23 (self : EV) (N : Nat) (x0 x1 : V) (S : St) : Rs := runF E0 self N Try.f23 B23 [x0, x1] S
theorem F23_eq (self : EV) (N : Nat) (x0 x1 : V) (S : St) : F23 self N x0 x1 S =
(boxK 9 x1 S).bind fun p0 =>
callP (self.f 28 [x0] p0.2) fun t3 S3 =>
(some (nwP 48 1 (Go.Proofs.Ytginkdeicmdmaaa.Ev.one .nilmap) S3)).bind fun p4 =>
(stP 1 p4.1 t3 p4.2).bind fun p5 =>
(ld1 p4.1 p5.2).bind fun p6 =>
callP (self.f 30 [p6.1, (.fn (.func 42) [] [p0.1, p4.1])] p6.2) fun t8 S8 =>
some (.ret t8, S8) := by kernel_rfl
end
end Go.Proofs.Ytginkdeicmdmaaa.W
namespace Go.Proofs.Ytginkdeicmdmaaa.W
open Go.Proofs.Ytginkdeicmdmaaa.Ev
set_option maxRecDepth 100000
noncomputable section
noncomputable def C36 : Code := Try.f36.body.getD .skip
noncomputable def B36 : D := (annot C36 [[], [], [], [], []]).1
noncomputable def F36 (self : EV) (N : Nat) (x0 : V) (S : St) : Rs := runF E0 self N Try.f36 B36 [x0] S
theorem F36_eq (self : EV) (N : Nat) (x0 : V) (S : St) : F36 self N x0 S =
(binV E0 .eql 48 false true x0 .nilmap).bind fun t2 =>
ifK t2 (
some (.ret .nilmap, S)) (
callP (callK E0 self (.fn (.func 48) [] []) [(.iface 48 x0)] S) fun t6 S6 =>
(assertK E0 48 false t6).bind fun t7 =>
some (.ret t7, S6)) := by kernel_rfl
noncomputable def C37 : Code := Try.f37.body.getD .skip
noncomputable def B37 : D := (annot C37 [[], []]).1
noncomputable def F37 (self : EV) (N : Nat) (x0 x1 x2 : V) (S : St) : Rs := runF E0 self N Try.f37 B37 [x0, x1, x2] S
theorem F37_eq (self : EV) (N : Nat) (x0 x1 x2 : V) (S : St) : F37 self N x0 x1 x2 S =
(boxK 9 x0 S).bind fun p0 =>
(ld1 x1 p0.2).bind fun p2 =>
(ld1 p0.1 p2.2).bind fun p3 =>
(lookupV E0 48 p2.1 p3.1 false p3.2).bind fun p4 =>
callP (self.f 38 [p4.1, (.fn (.func 39) [] [x2, p0.1])] p4.2) fun t6 S6 =>
(unV .not t6).bind fun t7 =>
some (.ret t7, S6) := by kernel_rfl
noncomputable def C38 : Code := Try.f38.body.getD .skip
noncomputable def B38 : D := (annot C38 [[], []]).1
noncomputable def F38 (self : EV) (N : Nat) (x0 x1 : V) (S : St) : Rs := runF E0 self N Try.f38 B38 [x0, x1] S
theorem F38_eq (self : EV) (N : Nat) (x0 x1 : V) (S : St) : F38 self N x0 x1 S =
callP (self.f 49 [x0, x1] S) fun t3 S3 =>
(binV E0 .geq 3 false true t3 (.int .i64 0)).bind fun t4 =>
some (.ret t4, S3) := by kernel_rfl
noncomputable def C39 : Code := Try.f39.body.getD .skip
noncomputable def B39 : D := (annot C39 [[], [], []]).1
noncomputable def F39 (self : EV) (N : Nat) (x0 x1 x2 : V) (S : St) : Rs := runF E0 self N Try.f39 B39 [x0, x1, x2] S
theorem F39_eq (self : EV) (N : Nat) (x0 x1 x2 : V) (S : St) : F39 self N x0 x1 x2 S =
(ld1 x1 S).bind fun p1 =>
(lookupV E0 48 p1.1 x0 true p1.2).bind fun p3 =>
(extractV p3.1 0).bind fun t5 =>
(extractV p3.1 1).bind fun t6 =>
(guardV true t6).bind fun g11 => (bif g11 then some x0 else some (.tuple [])).bind fun t11 =>
(guardV true t6).bind fun g12 => (bif g12 then ld1 x2 p3.2 else some (.tuple [], p3.2)).bind fun p12 =>
(guardV true t6).bind fun g13 => (bif g13 then binV E0 .neq 9 false false t11 p12.1 else some (.tuple [])).bind fun t13 =>
(pickV t6 (some t13) (some (.bool false))).bind fun t14 =>
some (.ret t14, p12.2) := by kernel_rfl
noncomputable def C40 : Code := Try.f40.body.getD .skip
noncomputable def B40 : D := (annot C40 [[], []]).1
noncomputable def F40 (self : EV) (N : Nat) (x0 : V) (S : St) : Rs := runF E0 self N Try.f40 B40 [x0] S
theorem F40_eq (self : EV) (N : Nat) (x0 : V) (S : St) : F40 self N x0 S =
some (.ret (.bool true), S) := by kernel_rfl
noncomputable def C42 : Code := Try.f42.body.getD .skip
noncomputable def B42 : D := (annot C42 [[], []]).1
noncomputable def F42 (self : EV) (N : Nat) (x0 x1 x2 : V) (S : St) : Rs := runF E0 self N Try.f42 B42 [x0, x1, x2] S
theorem F42_eq (self : EV) (N : Nat) (x0 x1 x2 : V) (S : St) : F42 self N x0 x1 x2 S =
(ld1 x1 S).bind fun p2 =>
(binV E0 .neq 9 false false x0 p2.1).bind fun t3 =>
(guardV true t3).bind fun g5 => (bif g5 then ld1 x2 p2.2 else some (.tuple [], p2.2)).bind fun p5 =>
(guardV true t3).bind fun g6 => (bif g6 then some x0 else some (.tuple [])).bind fun t6 =>
(guardV true t3).bind fun g7 => (bif g7 then lookupV E0 48 p5.1 t6 false p5.2 else some (.tuple [], p5.2)).bind fun p7 =>
(guardV true t3).bind fun g8 => (bif g8 then ld1 x1 p7.2 else some (.tuple [], p7.2)).bind fun p8 =>
(guardV true t3).bind fun g9 => callP (bif g9 then self.f 43 [p7.1, p8.1] p8.2 else some (.ret (.tuple []), p8.2)) fun t9 S9 =>
(pickV t3 (some t9) (some (.bool false))).bind fun t10 =>
some (.ret t10, S9) := by kernel_rfl
noncomputable def C43 : Code := Try.f43.body.getD .skip
noncomputable def B43 : D := (annot C43 [[], []]).1
noncomputable def F43 (self : EV) (N : Nat) (x0 x1 : V) (S : St) : Rs := runF E0 self N Try.f43 B43 [x0, x1] S
theorem F43_eq (self : EV) (N : Nat) (x0 x1 : V) (S : St) : F43 self N x0 x1 S =
callP (self.f 50 [x0, x1] S) fun t3 S3 =>
(binV E0 .geq 3 false true t3 (.int .i64 0)).bind fun t4 =>
some (.ret t4, S3) := by kernel_rfl
noncomputable def C49 : Code := Try.f49.body.getD .skip
noncomputable def B49 : D := (annot C49 [[], [], [0, 1, 7, 8], [], [], [], [], [], [], [], [0], [4], []]).1
noncomputable def RL49 : List Nat := cellsOf Try.f49.results.toList
noncomputable def R49_1 (self : EV) (N : Nat) (nk : Ac → St → Rs) (ek : Nat → Ac → St → Rs) (a : Ac) (S : St) : Rs := projK [] a fun a => dr E0 self RL49 N (B49.r).r (mkK E0 self Try.f49 nk ek) a S
theorem R49_1_eq (self : EV) (N : Nat) (nk : Ac → St → Rs) (ek : Nat → Ac → St → Rs) (S : St) : R49_1 self N nk ek (fr 19 []) S =
some (.ret (.int .i64 (-1)), S) := by kernel_rfl
noncomputable def L49_6 (self : EV) (N : Nat) (nk : Ac → St → Rs) (ek : Nat → Ac → St → Rs) (n : Nat) ( v0 v1 v7 v8 : V) (S : St) : Rs := loopK [0, 1, 7, 8] (dr E0 self RL49 N (B49.r.l.r.l.l)) (mkK E0 self Try.f49 nk ek) n (fr 19 [(0, v0), (1, v1), (7, v7), (8, v8)]) S
theorem L49_6_eq (self : EV) (N : Nat) (nk : Ac → St → Rs) (ek : Nat → Ac → St → Rs) (n : Nat) ( v0 v1 v7 v8 : V) (S : St) : L49_6 self N nk ek (n + 1) v0 v1 v7 v8 S =
(binV E0 .lss 3 false false v8 v7).bind fun t7 =>
ifK t7 (
(ixP 1 v0 v8).bind fun t13 =>
(ld1 t13 S).bind fun p14 =>
callP (callK E0 self v1 [p14.1] p14.2) fun t15 S15 =>
ifK t15 (
some (.ret v8, S15)) (
(binV E0 .add 3 false true v8 (.int .i64 1)).bind fun t18 =>
L49_6 self N nk ek n v0 v1 v7 t18 S15)) (
ek 0 (fr 19 []) S) := by kernel_rfl
noncomputable def F49 (self : EV) (N : Nat) (x0 x1 : V) (S : St) : Rs := runF E0 self N Try.f49 B49 [x0, x1] S
theorem F49_eq (self : EV) (N : Nat) (x0 x1 : V) (S : St) : F49 self N x0 x1 S =
(lnS x0 S).bind fun p4 =>
L49_6 self N (R49_1 self N (finN E0 self Try.f49) noEx) (exB 0 (R49_1 self N (finN E0 self Try.f49) noEx) noEx) N x0 x1 p4.1 (.int .i64 0) p4.2 := by kernel_rfl
noncomputable def C50 : Code := Try.f50.body.getD .skip
noncomputable def B50 : D := (annot C50 [[], [], [0, 1, 7, 8], [], [], [], [], [], [], [], [0], [4], []]).1
noncomputable def RL50 : List Nat := cellsOf Try.f50.results.toList
noncomputable def R50_1 (self : EV) (N : Nat) (nk : Ac → St → Rs) (ek : Nat → Ac → St → Rs) (a : Ac) (S : St) : Rs := projK [] a fun a => dr E0 self RL50 N (B50.r).r (mkK E0 self Try.f50 nk ek) a S
theorem R50_1_eq (self : EV) (N : Nat) (nk : Ac → St → Rs) (ek : Nat → Ac → St → Rs) (S : St) : R50_1 self N nk ek (fr 19 []) S =
some (.ret (.int .i64 (-1)), S) := by kernel_rfl
noncomputable def L50_6 (self : EV) (N : Nat) (nk : Ac → St → Rs) (ek : Nat → Ac → St → Rs) (n : Nat) ( v0 v1 v7 v8 : V) (S : St) : Rs := loopK [0, 1, 7, 8] (dr E0 self RL50 N (B50.r.l.r.l.l)) (mkK E0 self Try.f50 nk ek) n (fr 19 [(0, v0), (1, v1), (7, v7), (8, v8)]) S
theorem L50_6_eq (self : EV) (N : Nat) (nk : Ac → St → Rs) (ek : Nat → Ac → St → Rs) (n : Nat) ( v0 v1 v7 v8 : V) (S : St) : L50_6 self N nk ek (n + 1) v0 v1 v7 v8 S =
(binV E0 .lss 3 false false v8 v7).bind fun t7 =>
ifK t7 (
(ixP 1 v0 v8).bind fun t13 =>
(ld1 t13 S).bind fun p14 =>
(binV E0 .eql 9 false false v1 p14.1).bind fun t15 =>
ifK t15 (
some (.ret v8, p14.2)) (
(binV E0 .add 3 false true v8 (.int .i64 1)).bind fun t18 =>
L50_6 self N nk ek n v0 v1 v7 t18 p14.2)) (
ek 0 (fr 19 []) S) := by kernel_rfl
noncomputable def F50 (self : EV) (N : Nat) (x0 x1 : V) (S : St) : Rs := runF E0 self N Try.f50 B50 [x0, x1] S
theorem F50_eq (self : EV) (N : Nat) (x0 x1 : V) (S : St) : F50 self N x0 x1 S =
(lnS x0 S).bind fun p4 =>
L50_6 self N (R50_1 self N (finN E0 self Try.f50) noEx) (exB 0 (R50_1 self N (finN E0 self Try.f50) noEx) noEx) N x0 x1 p4.1 (.int .i64 0) p4.2 := by kernel_rfl
end
end Go.Proofs.Ytginkdeicmdmaaa.W
namespace Go.Proofs.Ytginkdeicmdmaaa.W
open Go.Proofs.Ytginkdeicmdmaaa.Ev Go.RowKit
abbrev Bs := List UInt8
noncomputable def kfTrue : KF := specKF (fun _ : Unit => []) (fun _ => En.ret (.bool true))
theorem kfTrue_run (S : St) : kfTrue.run [] S = some (.ret (.bool true), S) := specKF_run (enc := fun _ : Unit => []) (out := fun _ => En.ret (.bool true)) (fun _ _ _ => rfl) () S
noncomputable def KA := knAdd (fun _ => none) 44 (kfSorted [53, 54] 9)
noncomputable def KB := knAdd KA 12 kfClosed
noncomputable def KD := knAdd KB 14 kfTrue
theorem lgD : Lg.KnLoc KD := (((Lg.knLoc_nil).add 44 fun _ => kfSorted_lg _ _ _).add 12 fun _ => kfClosed_lg _).add 14 fun _ => Lg.specKF_lg _
theorem ext_none {f : FuncId} (h : f ≠ 48) : E0.ext.get f = none := by
 cases hx : E0.ext.get f with
 | none => rfl
 | some k =>
  have : (f, k) ∈ [(48, 2)] := kinds_get (l := [(48, 2)]) hx
  simp at this
  exact absurd this.1 h
theorem callK_fn {E : Env} {self : EV} {f : FuncId} (h : E.ext.get f = none) (hb : hasBody E f = true) (x y args : List V) (S : St) : callK E self (.fn (.func f) x y) args S = self.f f (x ++ args ++ y) S := by
 show (match E.ext.get f with | some k => _ | none => _) = _
 rw [h]
 show (bif hasBody E f then self.f f (x ++ args ++ y) S else none) = _
 rw [hb]; rfl
theorem drop_at {α : Type} {l r : List α} {i : Nat} {y : α} (h : l.drop i = y :: r) : ∃ hlt : i < l.length, l[i] = y ∧ l.drop (i + 1) = r ∧ y ∈ l := by
 have hlt : i < l.length := by
  by_cases hh : i < l.length
  · exact hh
  · rw [List.drop_of_length_le (by omega)] at h; cases h
 rw [List.drop_eq_getElem_cons hlt] at h
 injection h with h1 h2
 exact ⟨hlt, h1, h2, by rw [← h1]; exact List.getElem_mem hlt⟩
theorem drop_end {α : Type} {l : List α} {i : Nat} (h : l.drop i = []) : l.length ≤ i := List.drop_eq_nil_iff.1 h
theorem dec_lt {a b : Nat} (h : a < b) : decide ((a : Int) < (b : Int)) = true := by simp; omega
theorem dec_ge {a b : Nat} (h : b ≤ a) : decide ((a : Int) < (b : Int)) = false := by simp; omega
theorem wrap_succ {i : Nat} (h : i < 9223372036854775807) : IntKind.i64.wrap ((i : Int) + 1) = ((i + 1 : Nat) : Int) := by
 rw [wrap_i64 (by omega) (by omega)]; omega
theorem gTT : guardV true (.bool true) = some true := rfl
theorem gFF : guardV false (.bool false) = some true := rfl
theorem big1 : 1 < big := by unfold big; decide
theorem faPg (off k o : Nat) (g : Bool) (b : Nat) : faP off g (k + 1) (.ptr b o) = some (.ptr b (o + off)) := faP_ptr off g k b o
section
variable {S T U : St}
theorem Bx.ldv (ho : S.on = false) {x e : Nat} {l : List V} (h : Bx S x e l) (hl : l.length < big) {i : Nat} {v : V} (hv : l[i]? = some v) : ld1 (.ptr x i) S = some (v, S) := by
 obtain ⟨hi, he⟩ := List.getElem?_eq_some_iff.1 hv
 rw [h.ld1 ho i hi hl, he]
def rowOf (l : List Bs) : List (Tr V) := l.map fun a => Go.Proofs.Ytginkdeicmdmaaa.Ev.one (sv a)
theorem rowOf_length (l : List Bs) : (rowOf l).length = l.length := by unfold rowOf; rw [List.length_map]
theorem rowOf_get {l : List Bs} {i : Nat} {a : Bs} (h : l[i]? = some a) : (rowOf l)[i]? = some (Go.Proofs.Ytginkdeicmdmaaa.Ev.one (sv a)) := by unfold rowOf; rw [List.getElem?_map, h]; rfl
theorem rowOf_append (l m : List Bs) : rowOf (l ++ m) = rowOf l ++ rowOf m := by unfold rowOf; rw [List.map_append]
def blkOf : V → Option Nat
 | .slice r _ _ _ => some r
 | .oslice r _ _ _ => some r
 | _ => none
def TL (S : St) (v : V) (l : List Bs) : Prop := (l = [] ∧ (v = .nilslice ∨ v = .eslice ∨ ∃ r c, v = .slice r 0 0 c)) ∨
 ∃ r off L, RowAt S r 9 1 (rowOf L) ∧ r < S.next ∧ off + l.length ≤ L.length ∧ (L.drop off).take l.length = l ∧ (v = .oslice r off l.length 1 ∨ ∃ c, v = .slice r off l.length c)
theorem TL.nil : TL S .nilslice [] := .inl ⟨rfl, .inl rfl⟩
theorem TL.own {r : Nat} {l : List Bs} (h : RowAt S r 9 1 (rowOf l)) (hr : r < S.next) : TL S (.oslice r 0 l.length 1) l := .inr ⟨r, 0, l, h, hr, by omega, by simp, .inl rfl⟩
theorem TL.grew {W : Nat → Prop} {v : V} {l : List Bs} (h : TL S v l) (hw : ∀ r e, blkOf v = some r → RowAt S r 9 1 e → ¬ W r) (g : Grew W S U) : TL U v l := by
 rcases h with h | ⟨r, off, L, h1, h2, h3, h4, h5⟩
 · exact .inl h
 · have hb : blkOf v = some r := by rcases h5 with rfl | ⟨c, rfl⟩ <;> rfl
   exact .inr ⟨r, off, L, h1.grew h2 (hw r _ hb h1) g, Nat.lt_of_lt_of_le h2 g.next, h3, h4, h5⟩
theorem TL.grew0 {v : V} {l : List Bs} (h : TL S v l) (g : Grew (fun _ => False) S U) : TL U v l := h.grew (fun _ _ _ _ h => h) g
theorem TL.same {v : V} {l : List Bs} (h : TL S v l) (h1 : U.heap = S.heap) (h2 : U.next = S.next) : TL U v l := by
 rcases h with h | ⟨r, off, L, a1, a2, a3, a4, a5⟩
 · exact .inl h
 · exact .inr ⟨r, off, L, a1.same h1, by omega, a3, a4, a5⟩
theorem TL.lenV {v : V} {l : List Bs} (h : TL S v l) : Go.Proofs.Ytginkdeicmdmaaa.Ev.lenV v = some l.length := by
 rcases h with ⟨rfl, rfl | rfl | ⟨r, c, rfl⟩⟩ | ⟨r, off, L, h1, h2, h3, h4, rfl | ⟨c, rfl⟩⟩ <;> rfl
theorem TL.notStr {v : V} {l : List Bs} (h : TL S v l) : ∀ a b, v ≠ .str a b := by
 rcases h with ⟨rfl, rfl | rfl | ⟨r, c, rfl⟩⟩ | ⟨r, off, L, h1, h2, h3, h4, rfl | ⟨c, rfl⟩⟩ <;> intro a b e <;> cases e
theorem TL.len {v : V} {l : List Bs} (h : TL S v l) (U : St) : lnS v U = some (.int .i64 (l.length : Int), U) := lnS_of h.notStr h.lenV
theorem TL.ix {v : V} {l : List Bs} (h : TL S v l) {i : Nat} {a : Bs} (ha : l[i]? = some a) : ∃ r o L, ixP 1 v (.int .i64 (i : Int)) = some (.ptr r o) ∧ RowAt S r 9 1 L ∧ L[o]? = some (Go.Proofs.Ytginkdeicmdmaaa.Ev.one (sv a)) := by
 obtain ⟨hi, he⟩ := List.getElem?_eq_some_iff.1 ha
 rcases h with ⟨rfl, _⟩ | ⟨r, off, L, h1, h2, h3, h4, h5⟩
 · cases hi
 · refine ⟨r, off + i * 1, rowOf L, ?_, h1, ?_⟩
   · have : ixP 1 v (.int .i64 (i : Int)) = bif Nat.blt i l.length then some (V.ptr r (off + i * 1)) else none := by rcases h5 with rfl | ⟨c, rfl⟩ <;> rfl
     rw [this, blt_true.2 hi]; rfl
   · refine rowOf_get ?_
     rw [Nat.mul_one]
     have : ((L.drop off).take l.length)[i]? = some a := by rw [h4]; exact ha
     rw [List.getElem?_take, if_pos hi, List.getElem?_drop] at this
     exact this
theorem TL.ld {v : V} {l : List Bs} (h : TL S v l) (ho : S.on = false) {i : Nat} {a : Bs} (ha : l[i]? = some a) : ∃ p, ixP 1 v (.int .i64 (i : Int)) = some p ∧ ld1 p S = some (sv a, S) := by
 obtain ⟨r, o, L, h1, h2, h3⟩ := h.ix ha
 exact ⟨_, h1, h2.ld1 ho h3⟩
def TLo (S : St) (v : V) (l : List Bs) (N : Nat) : Prop := (l = [] ∧ v = .nilslice) ∨ ∃ r, v = .oslice r 0 l.length 1 ∧ RowAt S r 9 1 (rowOf l) ∧ r < S.next ∧ N ≤ r ∧ 0 < l.length
theorem TLo.nil {N : Nat} : TLo S .nilslice [] N := .inl ⟨rfl, rfl⟩
theorem TLo.tl {v : V} {l : List Bs} {N : Nat} (h : TLo S v l N) : TL S v l := by
 rcases h with ⟨rfl, rfl⟩ | ⟨r, rfl, h1, h2, _⟩
 · exact .nil
 · exact .own h1 h2
theorem TLo.grew {v : V} {l : List Bs} {N : Nat} (h : TLo S v l N) (g : Grew (fun _ => False) S U) : TLo U v l N := by
 rcases h with h | ⟨r, h0, h1, h2, h3⟩
 · exact .inl h
 · exact .inr ⟨r, h0, h1.grew h2 (fun h => h) g, Nat.lt_of_lt_of_le h2 g.next, h3⟩
theorem TLo.push (ho : S.on = false) {v : V} {l : List Bs} {N : Nat} (h : TLo S v l N) (hN : N ≤ S.next) (hl : l.length < 100000) (a : Bs) :
 ∃ y W v' U, bsP 9 1 1 (Go.Proofs.Ytginkdeicmdmaaa.Ev.one (sv [])) [(0, sv a)] S = some (y, W) ∧ apP 9 1 16 v y W = some (v', U) ∧ TLo U v' (l ++ [a]) N ∧ Grew (fun x => N ≤ x) S U := by
 obtain ⟨W, h1, h2, h3, h4⟩ := bsP_one ho 9 (Go.Proofs.Ytginkdeicmdmaaa.Ev.one (sv [])) (oneV_sv a)
 have on1 := h3.on.trans ho
 have hlm : (l ++ [a]).length = l.length + 1 := by rw [List.length_append]; rfl
 rcases h with ⟨rfl, rfl⟩ | ⟨r, rfl, hr, hr2, hr3, h0⟩
 · obtain ⟨U, k1, k2, k3, k4⟩ := ap1_first (B := 16) on1 h2 (by unfold maxCells; omega)
   exact ⟨_, W, _, U, h1, k1, .inr ⟨W.next, rfl, k2, by omega, by omega, by simp⟩, (h3.trans k3).mono fun _ _ h => h.elim⟩
 · have hrow := hr.grew hr2 (fun h => h) h3
   obtain ⟨U, k1, k2, k3, k4⟩ := ap1_more (B := 16) on1 h2 hrow (by rw [rowOf_length]; unfold maxCells; omega) (by rw [rowOf_length]; unfold big; omega)
   rw [rowOf_length] at k1
   refine ⟨_, W, _, U, h1, k1, .inr ⟨W.next, by rw [hlm], ?_, by omega, by omega, by omega⟩, (h3.mono fun _ _ h => h.elim).trans (k3.mono fun x _ e => by subst e; exact hr3)⟩
   rw [rowOf_append]
   exact k2
end
end Go.Proofs.Ytginkdeicmdmaaa.W
namespace Go.Proofs.Ytginkdeicmdmaaa.W
open Go.Proofs.Ytginkdeicmdmaaa.Ev Go.RowKit
theorem bless_iff : ∀ {x y : Bs}, Op.bytesLess x y = true ↔ x < y
 | [], [] => by simp [Op.bytesLess]
 | _ :: _, [] => by simp [Op.bytesLess]
 | [], _ :: _ => by simp [Op.bytesLess]
 | a :: x, b :: y => by
  simp only [Op.bytesLess, Bool.or_eq_true, decide_eq_true_eq, Bool.and_eq_true, beq_iff_eq]
  rw [List.cons_lt_cons_iff, bless_iff (x := x) (y := y)]
def insB (x : Bs) : List Bs → List Bs
 | [] => [x]
 | y :: l => if y < x then y :: insB x l else x :: y :: l
def sortB : List Bs → List Bs
 | [] => []
 | x :: l => insB x (sortB l)
theorem insB_perm (x : Bs) : ∀ l : List Bs, (insB x l).Perm (x :: l)
 | [] => .refl _
 | y :: l => by
  unfold insB
  split
  · exact ((insB_perm x l).cons y).trans (.swap x y l)
  · exact .refl _
theorem sortB_perm : ∀ l : List Bs, (sortB l).Perm l
 | [] => .refl _
 | x :: l => (insB_perm x (sortB l)).trans ((sortB_perm l).cons x)
theorem insB_pw {x : Bs} : ∀ {l : List Bs}, l.Pairwise (· < ·) → x ∉ l → (insB x l).Pairwise (· < ·)
 | [], _, _ => by simp [insB]
 | y :: l, h, hx => by
  unfold insB
  rw [List.pairwise_cons] at h
  simp only [List.mem_cons, not_or] at hx
  split
  · rename_i hlt
    refine List.pairwise_cons.2 ⟨fun z hz => ?_, insB_pw h.2 hx.2⟩
    rcases List.mem_cons.1 ((insB_perm x l).mem_iff.1 hz) with rfl | hz
    · exact hlt
    · exact h.1 z hz
  · rename_i hlt
    have hxy : x < y := by
     rcases List.le_iff_lt_or_eq.1 (List.not_lt.1 hlt) with h | h
     · exact h
     · exact absurd h hx.1
    refine List.pairwise_cons.2 ⟨fun z hz => ?_, List.pairwise_cons.2 h⟩
    rcases List.mem_cons.1 hz with rfl | hz
    · exact hxy
    · exact List.lt_trans hxy (h.1 z hz)
theorem sortB_pw : ∀ {l : List Bs}, l.Nodup → (sortB l).Pairwise (· < ·)
 | [], _ => .nil
 | x :: l, h => by
  rw [List.nodup_cons] at h
  exact insB_pw (sortB_pw h.2) fun hm => h.1 ((sortB_perm l).mem_iff.1 hm)
theorem mem_sortB {l : List Bs} {x : Bs} : x ∈ sortB l ↔ x ∈ l := (sortB_perm l).mem_iff
def esKV (es : List ME) : List (V × V) := es.map fun e => (e.k, e.v)
def kvS (kv : List (Bs × V)) : List (V × V) := kv.map fun p => (sv p.1, p.2)
theorem insS_ins (x : Bs) : ∀ l : List Bs, insS x.length (pack x) (l.map kp) = (insB x l).map kp
 | [] => rfl
 | y :: l => by
  rw [List.map_cons]
  unfold insS insB
  rw [show sLess (kp y).1 (kp y).1 (kp y).2 x.length (pack x) = Op.bytesLess y x from sLess_eq y x]
  by_cases h : y < x
  · rw [bless_iff.2 h, if_pos h, cond_true, insS_ins x l]; rfl
  · rw [if_neg h, show Op.bytesLess y x = false from by rw [Bool.eq_false_iff]; exact fun e => h (bless_iff.1 e)]; rfl
theorem keysS_sort : ∀ {kv : List (Bs × V)} {es : List ME}, esKV es = kvS kv → keysS es = some ((sortB (kv.map (·.1))).map kp)
 | [], [], _ => rfl
 | [], e :: es, h => by simp [esKV, kvS] at h
 | p :: kv, [], h => by simp [esKV, kvS] at h
 | p :: kv, e :: es, h => by
  simp only [esKV, kvS, List.map_cons, List.cons.injEq, pM] at h
  obtain ⟨⟨h1, _⟩, h3⟩ := h
  unfold keysS
  rw [h1, keysS_sort (kv := kv) (es := es) h3]
  show ((some ((sortB (kv.map (·.1))).map kp)).bind fun q => some (insS p.1.length (pack p.1) q)) = _
  rw [oB, insS_ins]; rfl
theorem rising_of : ∀ {l : List Bs}, l.Pairwise (· < ·) → rising (l.map kp) = true
 | [], _ => rfl
 | [x], _ => rfl
 | x :: y :: l, h => by
  rw [List.pairwise_cons] at h
  have h2 := rising_of h.2
  rw [List.map_cons] at h2
  rw [List.map_cons, List.map_cons]
  unfold rising
  rw [h2, show sLess (kp x).1 (kp x).1 (kp x).2 (kp y).1 (kp y).2 = Op.bytesLess x y from sLess_eq x y, bless_iff.2 (h.1 y (List.mem_cons_self ..))]
  rfl
theorem shortKeys_of : ∀ {kv : List (Bs × V)} {es : List ME}, esKV es = kvS kv → (∀ p ∈ kv, p.1.length < 4611686018427387904) → shortKeys es = true
 | [], [], _, _ => rfl
 | [], e :: es, h, _ => by simp [esKV, kvS] at h
 | p :: kv, [], h, _ => by simp [esKV, kvS] at h
 | p :: kv, e :: es, h, hs => by
  simp only [esKV, kvS, List.map_cons, List.cons.injEq, pM] at h
  obtain ⟨⟨h1, _⟩, h3⟩ := h
  unfold shortKeys
  rw [h1, shortKeys_of (kv := kv) (es := es) h3 fun q hq => hs q (List.mem_cons_of_mem _ hq)]
  show (Nat.blt p.1.length 4611686018427387904 && true) = true
  rw [blt_true.2 (hs p (List.mem_cons_self ..))]; rfl
section
variable {S T U : St}
def MapS (S : St) (r : Nat) (kv : List (Bs × V)) : Prop := ∃ es clock, S.heap.get r = some (.map es clock) ∧ esKV es = kvS kv ∧ stampsR 0 es = true ∧ lastStamp es 0 ≤ clock
theorem MapS.grew {W : Nat → Prop} {r : Nat} {kv : List (Bs × V)} (h : MapS S r kv) (hr : r < S.next) (hw : ¬ W r) (g : Grew W S T) : MapS T r kv := by
 obtain ⟨es, c, h1, h2⟩ := h
 exact ⟨es, c, by rw [g.keep r hr hw]; exact h1, h2⟩
theorem MapS.same {r : Nat} {kv : List (Bs × V)} (h : MapS S r kv) (hh : T.heap = S.heap) : MapS T r kv := by
 obtain ⟨es, c, h1, h2⟩ := h
 exact ⟨es, c, by rw [hh]; exact h1, h2⟩
theorem MapS.noRow {r e z : Nat} {kv : List (Bs × V)} {l : List (Tr V)} (h : MapS S r kv) (hr : RowAt S r e z l) : False := by
 obtain ⟨es, c, h1, _⟩ := h
 obtain ⟨c, h2, _⟩ := hr.row
 rw [h1] at h2; cases h2
def lkS (a : Bs) : List (Bs × V) → Option V
 | [] => none
 | p :: l => if a = p.1 then some p.2 else lkS a l
def ixB (a : Bs) : List (Bs × V) → Nat
 | [] => 0
 | p :: l => if a = p.1 then 0 else ixB a l + 1
theorem mfind_str (a : Bs) : ∀ (kv : List (Bs × V)) (es : List ME) (i : Nat), esKV es = kvS kv → mfind (sv a) es i = some ((lkS a kv).map fun v => (i + ixB a kv, v))
 | [], es, i, h => by
  cases es with
  | nil => rfl
  | cons e es => simp [esKV, kvS] at h
 | p :: kv, [], i, h => by simp [esKV, kvS] at h
 | p :: kv, e :: es, i, h => by
  simp only [esKV, kvS, List.map_cons, List.cons.injEq, pM] at h
  obtain ⟨⟨h1, h2⟩, h3⟩ := h
  have hm : mfind (sv a) (e :: es) i = bif a == p.1 then some (some (i, e.v)) else mfind (sv a) es (i + 1) := by
   show (match e.k with | .str l' b => bif sEq a.length (pack a) l' b then some (some (i, e.v)) else mfind (sv a) es (i + 1) | _ => none) = _
   rw [h1]
   show (bif sEq a.length (pack a) p.1.length (pack p.1) then some (some (i, e.v)) else mfind (sv a) es (i + 1)) = _
   rw [sEq_eq]
  rw [hm]
  unfold lkS ixB
  by_cases hc : a = p.1
  · rw [if_pos hc, if_pos hc, show (a == p.1) = true by simp [hc], cond_true, h2]; rfl
  · rw [if_neg hc, if_neg hc, show (a == p.1) = false from beq_false_of_ne hc, cond_false, mfind_str a kv es (i + 1) h3]
    cases lkS a kv with
    | none => rfl
    | some v => simp only [Option.map_some, show i + 1 + ixB a kv = i + (ixB a kv + 1) by omega]
theorem look_two (ho : S.on = false) {r : Nat} {kv : List (Bs × V)} (h : MapS S r kv) (a : Bs) :
 lookupV E0 48 (.map r) (sv a) true S = some (.tuple [(lkS a kv).getD .nilslice, .bool (lkS a kv).isSome], S) := by
 obtain ⟨es, c, h1, h2, _⟩ := h
 unfold lookupV
 rw [und48, oB]
 simp only
 rw [und9, oB]
 simp only [sv, keyOk, cond_true]
 rw [getO_off ho h1, oB]
 simp only
 rw [oB]
 dsimp only
 have hm := mfind_str a kv es 0 h2
 unfold sv at hm
 rw [hm, oB]
 cases lkS a kv with
 | none => simp only [Option.map_none]; rw [zero26]; rfl
 | some v => rfl
theorem stampsR_push : ∀ (es : List ME) (m c : Nat) (k v : V), stampsR m es = true → lastStamp es m ≤ c → stampsR m (es ++ [{ k := k, v := v, born := c }]) = true ∧ lastStamp (es ++ [{ k := k, v := v, born := c }]) m = c + 1
 | [], m, c, k, v, _, h => by
  unfold lastStamp at h
  refine ⟨?_, rfl⟩
  show (Nat.ble m c && true) = true
  rw [ble_true.2 h]; rfl
 | e :: es, m, c, k, v, h1, h2 => by
  unfold stampsR at h1
  unfold lastStamp at h2
  simp only [Bool.and_eq_true] at h1
  obtain ⟨q1, q2⟩ := stampsR_push es (e.born + 1) c k v h1.2 h2
  rw [List.cons_append]
  unfold stampsR lastStamp
  exact ⟨by rw [h1.1, q1]; rfl, q2⟩
theorem upd_new (ho : S.on = false) {t et : TypeId} (ht : und E0 t = some (.map 9 et)) {r : Nat} {kv : List (Bs × V)} (h : MapS S r kv) {a : Bs} (ha : lkS a kv = none) (v : V) :
 ∃ o, updateV E0 t (.map r) (sv a) v S = some (S.put r o) ∧ MapS (S.put r o) r (kv ++ [(a, v)]) := by
 obtain ⟨es, c, h1, h2, h3, h4⟩ := h
 have hm := mfind_str a kv es 0 h2
 rw [ha] at hm
 obtain ⟨q1, q2⟩ := stampsR_push es 0 c (sv a) v h3 h4
 refine ⟨.map (es ++ [{ k := sv a, v := v, born := c }]) (c + 1), ?_, es ++ [{ k := sv a, v := v, born := c }], c + 1, by rw [put_get, if_pos rfl], ?_, q1, by rw [q2]; exact Nat.le_refl _⟩
 · unfold updateV
   rw [ht, oB]
   simp only
   rw [und9, oB]
   simp only [sv, keyOk, cond_true]
   rw [getO_off ho h1, oB]
   unfold sv at hm
   simp only
   rw [hm, Option.map_none, oB]
   simp only
   rw [setO_off ho]
 · unfold esKV kvS at h2 ⊢
   rw [List.map_append, List.map_append, h2]; rfl
theorem MapS.new (ho : S.on = false) : MapS (nw S (.map [] 0)) S.next [] := ⟨[], 0, by rw [nw_get, if_pos rfl], rfl, rfl, Nat.le_refl _⟩
theorem sorted_run (n : Nat) (ho : S.on = false) {g b r e : Nat} (hg : g = 53 ∨ g = 54) (hb : Bx S b e [.map r]) {kv : List (Bs × V)} (h : MapS S r kv) (hn : (kv.map (·.1)).Nodup) (hs : ∀ p ∈ kv, p.1.length < 4611686018427387904) (hl : kv.length < 1000000) :
 ∃ v U, (ev E0 KD (n + 1)).f 44 [.fn (.func g) [] [.ptr b 0]] S = some (.ret v, U) ∧ TL U v (sortB (kv.map (·.1))) ∧ Grew (fun _ => False) S U := by
 obtain ⟨es, c, h1, h2, h3, h4⟩ := h
 have hlen : es.length = kv.length := by
  have := congrArg List.length h2
  simpa [esKV, kvS] using this
 have hso : sortedOf es c = some ((sortB (kv.map (·.1))).map kp) := by
  unfold sortedOf
  rw [h3, ble_true.2 h4, shortKeys_of h2 hs, blt_true.2 (by omega : es.length < 1000000)]
  simp only [Bool.and_self, cond_true]
  rw [keysS_sort h2, oB, rising_of (sortB_pw hn)]; rfl
 have hk : (kfSorted [53, 54] 9).run [.fn (.func g) [] [.ptr b 0]] S = sortedK 9 (.map r) S := by
  show (bif memN g [53, 54] && Nat.beq 0 0 then (ld S b 0).bind fun q => sortedK 9 q.1 q.2 else none) = _
  have hl := Bx.ldv ho hb big1 (i := 0) rfl
  rw [show ld S b 0 = some (.map r, S) from hl]
  rcases hg with rfl | rfl <;> rfl
 have hev : ∀ R, (kfSorted [53, 54] 9).run [.fn (.func g) [] [.ptr b 0]] S = some R → (ev E0 KD (n + 1)).f 44 [.fn (.func g) [] [.ptr b 0]] S = some R := fun R hR => by
  rw [ev_known (K := KD) (f := 44) (g := kfSorted [53, 54] 9) (by rfl)]
  exact hR
 have hsk : sortedK 9 (.map r) S = (match (sortB (kv.map (·.1))).map kp with
  | [] => some (.ret .nilslice, S)
  | x :: l => some (.ret (.oslice S.next 0 (l.length + 1) 1), newCells S 9 1 (rowKeys (x :: l)))) := by
  unfold sortedK
  simp only
  rw [getO_off ho h1, oB]
  simp only
  rw [hso, oB]
  generalize (sortB (kv.map (·.1))).map kp = L
  cases L <;> rfl
 rw [hsk] at hk
 cases hq : sortB (kv.map (·.1)) with
 | nil =>
  rw [hq] at hk
  exact ⟨_, S, hev _ hk, .nil, Grew.refl _ _⟩
 | cons x l =>
  rw [hq] at hk
  refine ⟨_, _, hev _ hk, ?_, grew_nw ho _ _⟩
  have hll : (x :: l).length = (l.map kp).length + 1 := by rw [List.length_map]; rfl
  rw [← hll]
  refine .own ?_ (by show S.next < S.next + 1; omega)
  have hrk : rowKeys ((x :: l).map kp) = rowOf (x :: l) := by
   unfold rowKeys rowOf
   rw [List.map_map]; rfl
  have hlt : (x :: l).length < 1000000 := by rw [← hq, (sortB_perm _).length_eq, List.length_map]; exact hl
  have := rowAt_newCells (e := 9) (z := 1) (l := rowOf (x :: l)) ho (by omega) (by rw [rowOf_length, Nat.one_mul]; unfold big; omega)
  rw [← hrk] at this
  rw [← hrk]
  exact this
end
end Go.Proofs.Ytginkdeicmdmaaa.W
