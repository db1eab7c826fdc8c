/-
  WHAT THE FUNCTIONS COME TO: each is read by the evaluator, printed, and told as a function of data, part 3 of 12 (no condition).
-/
import Derived.Test.YtmeohejdafbodaaW2
import Derived.Test.YtmeohejdafbodaaProg
import Derived.KernelRfl
namespace Go.Proofs.Ytmeohejdafbodaa.W
open Go.Proofs.Ytmeohejdafbodaa.Ev
set_option maxRecDepth 100000
noncomputable section
noncomputable def C5 : Code := Try.f5.body.getD .skip
noncomputable def B5 : D := (qas C5 [[], [], [], [], [], [], [], [], [], [0, 1, 2, 7, 8, 9, 10], [], [7, 8, 9], [], [], [], [], [0, 1, 2, 7, 8, 9, 10], [], [], [], [], [0, 0, 1, 2, 7, 8, 9, 10, 11, 12], [0, 1, 2, 7, 8, 9, 10], [], [], [0, 0, 1, 2, 7, 8, 9, 10], [0, 1, 2, 7, 8, 9, 10], [0, 7, 8, 9], [6], [], [], [7, 8, 9, 13, 14], [], [], [], [], [], [], [7, 8, 9, 13, 14, 15, 16, 17], [], [7, 8, 9, 13, 14, 15, 16], [], [], [], [], [], [0, 7, 8, 9, 13, 14, 15, 16], [7, 8, 9, 13, 14], [], [], [0, 7, 8, 9, 13, 14], [7, 8, 9, 13, 14], [0], [6], []]).1
noncomputable def RL5 : List Nat := cellsOf Try.f5.results.toList
noncomputable def R5_16 (self : EV) (N : Nat) (nk : Ac->St->Rs) (ek : Nat->Ac->St->Rs) (a : Ac) (S : St) : Rs := qaa [7, 8, 9] a fun a => dr E0 self RL5 N (B5.r.r.r.r.r.r).r (mkK E0 self Try.f5 nk ek) a S
noncomputable def R5_21 (self : EV) (N : Nat) (nk : Ac->St->Rs) (ek : Nat->Ac->St->Rs) (a : Ac) (S : St) : Rs := qaa [] a fun a => dr E0 self RL5 N (B5.r.r.r.r.r.r.r.l.r).r (mkK E0 self Try.f5 nk ek) a S
theorem R5_21_eq (self : EV) (N : Nat) (nk : Ac->St->Rs) (ek : Nat->Ac->St->Rs) (S : St) : R5_21 self N nk ek (fr 199 []) S =
qax (self.f 10 [] S) fun t22 S22 =>
some (.ret t22, S22) := by kernel_rfl
noncomputable def qkx (self : EV) (N : Nat) (nk : Ac->St->Rs) (ek : Nat->Ac->St->Rs) (n : Nat) : Ac->St->Rs := fun a S => qaa [7, 8, 9, 13, 14] a fun a => qbf [7, 8, 9, 13, 14] (dr E0 self RL5 N (B5.r.r.r.r.r.r.r.l.r.l.r.l.l)) (mkK E0 self Try.f5 nk ek) n a S
noncomputable def L5_25 (self : EV) (N : Nat) (nk : Ac->St->Rs) (ek : Nat->Ac->St->Rs) (n : Nat) ( v7 v8 v9 v13 v14 : V) (S : St) : Rs := qbf [7, 8, 9, 13, 14] (dr E0 self RL5 N (B5.r.r.r.r.r.r.r.l.r.l.r.l.l)) (mkK E0 self Try.f5 nk ek) n (fr 199 [(7, v7), (8, v8), (9, v9), (13, v13), (14, v14)]) S
noncomputable def qky (self : EV) (N : Nat) (nk : Ac->St->Rs) (ek : Nat->Ac->St->Rs) (a : Ac) (S : St) : Rs := qaa [7, 8, 9, 13, 14] a fun a => dr E0 self RL5 N (B5.r.r.r.r.r.r.r.l.r.l.r.l.l.r).r (mkK E0 self Try.f5 nk ek) a S
theorem R5_30_eq (self : EV) (N : Nat) (nk : Ac->St->Rs) (ek : Nat->Ac->St->Rs) ( v7 v8 v9 v13 v14 : V) (S : St) : qky self N nk ek (fr 199 [(7, v7), (8, v8), (9, v9), (13, v13), (14, v14)]) S =
(qa4 E0 .add 3 false true v14 (.int .i64 1)).bind fun t32 =>
nk (fr 199 [(7, v7), (8, v8), (9, v9), (13, v13), (14, t32)]) S := by kernel_rfl
noncomputable def R5_44 (self : EV) (N : Nat) (nk : Ac->St->Rs) (ek : Nat->Ac->St->Rs) (a : Ac) (S : St) : Rs := qaa [7, 8, 9, 13, 14, 15, 16] a fun a => dr E0 self RL5 N (B5.r.r.r.r.r.r.r.l.r.l.r.l.l.r.l.l.r.r).r (mkK E0 self Try.f5 nk ek) a S
theorem R5_44_eq (self : EV) (N : Nat) (nk : Ac->St->Rs) (ek : Nat->Ac->St->Rs) ( v7 v8 v9 v13 v14 v15 v16 : V) (S : St) : R5_44 self N nk ek (fr 199 [(7, v7), (8, v8), (9, v9), (13, v13), (14, v14), (15, v15), (16, v16)]) S =
(lnS v15 (onS S)).bind fun p47 =>
(qa4 E0 .eql 3 false true p47.1 (.int .i64 1)).bind fun t48 =>
(qa4 E0 .neq 4 false false v16 t48).bind fun t49 =>
(qa2 false t49).bind fun g51 => (bif g51 then some v8 else some (.tuple [])).bind fun t51 =>
(qa2 false t49).bind fun g52 => (bif g52 then some v7 else some (.tuple [])).bind fun t52 =>
(qa2 false t49).bind fun g53 => (bif g53 then some v14 else some (.tuple [])).bind fun t53 =>
(qa2 false t49).bind fun g54 => (bif g54 then ixP 1 t52 t53 else some (.tuple [])).bind fun t54 =>
(qa2 false t49).bind fun g55 => (bif g55 then ld1 t54 (onS p47.2) else some (.tuple [], (onS p47.2))).bind fun p55 =>
(qa2 false t49).bind fun g56 => (bif g56 then qch E0 31 t51 p55.1 false (onS p55.2) else some (.tuple [], (onS p55.2))).bind fun p56 =>
(qa2 false t49).bind fun g57 => (bif g57 then qa4 E0 .gtr 3 false true p56.1 (.int .i64 0) else some (.tuple [])).bind fun t57 =>
(qa2 false t49).bind fun g58 => (bif g58 then some t57 else some (.tuple [])).bind fun t58 =>
(qa2 true t58).bind fun g59 => (bif g59 then some v16 else some (.tuple [])).bind fun t59 =>
(qa2 true t58).bind fun g60 => (bif g60 then unV .not t59 else some (.tuple [])).bind fun t60 =>
(qa2 false t49).bind fun g61 => (bif g61 then qag t58 (some t60) (some (.bool false)) else some (.tuple [])).bind fun t61 =>
(qag t49 (some (.bool true)) (some t61)).bind fun t62 =>
(qa2 false t62).bind fun g64 => (bif g64 then some v16 else some (.tuple [])).bind fun t64 =>
(qa2 false t62).bind fun g65 => (bif g65 then some t64 else some (.tuple [])).bind fun t65 =>
(qa2 true t65).bind fun g66 => (bif g66 then some v8 else some (.tuple [])).bind fun t66 =>
(qa2 true t65).bind fun g67 => (bif g67 then some v7 else some (.tuple [])).bind fun t67 =>
(qa2 true t65).bind fun g68 => (bif g68 then some v14 else some (.tuple [])).bind fun t68 =>
(qa2 true t65).bind fun g69 => (bif g69 then ixP 1 t67 t68 else some (.tuple [])).bind fun t69 =>
(qa2 true t65).bind fun g70 => (bif g70 then ld1 t69 (onS p56.2) else some (.tuple [], (onS p56.2))).bind fun p70 =>
(qa2 true t65).bind fun g71 => (bif g71 then qch E0 31 t66 p70.1 false (onS p70.2) else some (.tuple [], (onS p70.2))).bind fun p71 =>
(qa2 true t65).bind fun g72 => (bif g72 then qa4 E0 .eql 3 false true p71.1 (.int .i64 0) else some (.tuple [])).bind fun t72 =>
(qa2 false t62).bind fun g73 => (bif g73 then qag t65 (some t72) (some (.bool false)) else some (.tuple [])).bind fun t73 =>
(qa2 false t62).bind fun g74 => (bif g74 then some t73 else some (.tuple [])).bind fun t74 =>
(qa2 true t74).bind fun g75 => (bif g75 then ldA 5 v9 (onS p71.2) else some (.tuple [], (onS p71.2))).bind fun p75 =>
(qa2 true t74).bind fun g76 => (bif g76 then some v7 else some (.tuple [])).bind fun t76 =>
(qa2 true t74).bind fun g77 => (bif g77 then some v14 else some (.tuple [])).bind fun t77 =>
(qa2 true t74).bind fun g78 => (bif g78 then ixP 1 t76 t77 else some (.tuple [])).bind fun t78 =>
(qa2 true t74).bind fun g79 => (bif g79 then ld1 t78 (onS p75.2) else some (.tuple [], (onS p75.2))).bind fun p79 =>
(qa2 true t74).bind fun g80 => qjr (qat E0 (B5.r.r.r.r.r.r.r.l.r.l.r.l.l.r.l.l.r.r.r.l.l).ops) S 35 [[], [], p47.2.log, [], [], [], [], [], [], [], p55.2.log, p56.2.log, [], [], [], [], [], [], [], [], [], [], [], [], [], p70.2.log, p71.2.log, [], [], [], p75.2.log, [], [], [], p79.2.log] (bif g80 then self.f 13 [p75.1, p79.1] (onS p79.2) else some (.ret (.tuple []), (onS p79.2))) fun t80 S80 =>
(qa2 true t74).bind fun g81 => (bif g81 then unV .not t80 else some (.tuple [])).bind fun t81 =>
(qa2 false t62).bind fun g82 => (bif g82 then qag t74 (some t81) (some (.bool false)) else some (.tuple [])).bind fun t82 =>
(qag t62 (some (.bool true)) (some t82)).bind fun t83 =>
qm8 [(30, [34])] S [[], [], p47.2.log, [], [], [], [], [], [], [], p55.2.log, p56.2.log, [], [], [], [], [], [], [], [], [], [], [], [], [], p70.2.log, p71.2.log, [], [], [], p75.2.log, [], [], [], p79.2.log, S80.log, [], [], []] (onS S80) fun S84 =>
ifK t83 (
some (.ret (.bool false), S84)) (
nk (fr 199 [(7, v7), (8, v8), (9, v9), (13, v13), (14, v14)]) S84) := by kernel_rfl
noncomputable def L5_87 (self : EV) (N : Nat) (nk : Ac->St->Rs) (ek : Nat->Ac->St->Rs) (n : Nat) ( v7 v8 v9 v13 v14 v15 v16 v17 : V) (S : St) : Rs := qbf [7, 8, 9, 13, 14, 15, 16, 17] (dr E0 self RL5 N (B5.r.r.r.r.r.r.r.l.r.l.r.l.l.r.l.l.r.r.l.r.l.l)) (mkK E0 self Try.f5 nk ek) n (fr 199 [(7, v7), (8, v8), (9, v9), (13, v13), (14, v14), (15, v15), (16, v16), (17, v17)]) S
theorem L5_87_eq (self : EV) (N : Nat) (nk : Ac->St->Rs) (ek : Nat->Ac->St->Rs) (n : Nat) ( v7 v8 v9 v13 v14 v15 v16 v17 : V) (S : St) : L5_87 self N nk ek (n + 1) v7 v8 v9 v13 v14 v15 v16 v17 S =
(lnS v13 S).bind fun p90 =>
(qa4 E0 .lss 3 false false v17 p90.1).bind fun t91 =>
ifK t91 (
(qa2 false v16).bind fun g94 => (bif g94 then some v13 else some (.tuple [])).bind fun t94 =>
(qa2 false v16).bind fun g95 => (bif g95 then some v17 else some (.tuple [])).bind fun t95 =>
(qa2 false v16).bind fun g96 => (bif g96 then ixP 1 t94 t95 else some (.tuple [])).bind fun t96 =>
(qa2 false v16).bind fun g97 => (bif g97 then ld1 t96 (onS p90.2) else some (.tuple [], (onS p90.2))).bind fun p97 =>
(qa2 false v16).bind fun g98 => (bif g98 then some v7 else some (.tuple [])).bind fun t98 =>
(qa2 false v16).bind fun g99 => (bif g99 then some v14 else some (.tuple [])).bind fun t99 =>
(qa2 false v16).bind fun g100 => (bif g100 then ixP 1 t98 t99 else some (.tuple [])).bind fun t100 =>
(qa2 false v16).bind fun g101 => (bif g101 then ld1 t100 (onS p97.2) else some (.tuple [], (onS p97.2))).bind fun p101 =>
(qa2 false v16).bind fun g102 => (bif g102 then qa4 E0 .eql 9 false false p97.1 p101.1 else some (.tuple [])).bind fun t102 =>
(qag v16 (some (.bool true)) (some t102)).bind fun t103 =>
qm8 [(5, [9])] p90.2 [[], [], [], [], [], p97.2.log, [], [], [], p101.2.log, [], [], []] (onS p101.2) fun S105 =>
(qa4 E0 .gtr 3 false true v17 (.int .i64 0)).bind fun t107 =>
(qa2 true t107).bind fun g109 => (bif g109 then some v13 else some (.tuple [])).bind fun t109 =>
(qa2 true t107).bind fun g110 => (bif g110 then some v17 else some (.tuple [])).bind fun t110 =>
(qa2 true t107).bind fun g111 => (bif g111 then qa4 E0 .sub 3 false true t110 (.int .i64 1) else some (.tuple [])).bind fun t111 =>
(qa2 true t107).bind fun g112 => (bif g112 then ixP 1 t109 t111 else some (.tuple [])).bind fun t112 =>
(qa2 true t107).bind fun g113 => (bif g113 then ld1 t112 (onS S105) else some (.tuple [], (onS S105))).bind fun p113 =>
(qa2 true t107).bind fun g114 => (bif g114 then some v13 else some (.tuple [])).bind fun t114 =>
(qa2 true t107).bind fun g115 => (bif g115 then some v17 else some (.tuple [])).bind fun t115 =>
(qa2 true t107).bind fun g116 => (bif g116 then ixP 1 t114 t115 else some (.tuple [])).bind fun t116 =>
(qa2 true t107).bind fun g117 => (bif g117 then ld1 t116 (onS p113.2) else some (.tuple [], (onS p113.2))).bind fun p117 =>
(qa2 true t107).bind fun g118 => (bif g118 then qa4 E0 .geq 9 false false p113.1 p117.1 else some (.tuple [])).bind fun t118 =>
(qag t107 (some t118) (some (.bool false))).bind fun t119 =>
qm8 [(7, [11])] S105 [[], [], [], [], [], [], [], p113.2.log, [], [], [], p117.2.log, [], []] (onS p117.2) fun S120 =>
ifK t119 (
some (.ret (.bool false), S120)) (
(qa4 E0 .add 3 false true v17 (.int .i64 1)).bind fun t123 =>
L5_87 self N nk ek n v7 v8 v9 v13 v14 v15 t103 t123 S120)) (
ek 4 (fr 199 [(7, v7), (8, v8), (9, v9), (13, v13), (14, v14), (15, v15), (16, v16)]) p90.2) := by kernel_rfl
theorem L5_25_eq (self : EV) (N : Nat) (nk : Ac->St->Rs) (ek : Nat->Ac->St->Rs) (n : Nat) ( v7 v8 v9 v13 v14 : V) (S : St) : L5_25 self N nk ek (n + 1) v7 v8 v9 v13 v14 S =
(lnS v7 S).bind fun p28 =>
(qa4 E0 .lss 3 false false v14 p28.1).bind fun t29 =>
ifK t29 (
(ldA 5 v9 (onS p28.2)).bind fun p34 =>
(qa4 E0 .add 3 false true v14 (.int .i64 1)).bind fun t38 =>
(qbl E0 25 v7 (some v14) (some t38) none (onS p34.2)).bind fun p39 =>
qjr (qat E0 (B5.r.r.r.r.r.r.r.l.r.l.r.l.l.r.l.l.l).ops) p28.2 6 [p34.2.log, [], [], [], [], p39.2.log] (self.f 8 [p34.1, p39.1] (onS p39.2)) fun t40 S40 =>
qm8 [(0, [5])] p28.2 [p34.2.log, [], [], [], [], p39.2.log, S40.log, []] (onS S40) fun S42 =>
L5_87 self N (R5_44 self N (qky self N (qkx self N nk ek n) ek) (exB 3 (qky self N (qkx self N nk ek n) ek) ek)) (exB 4 (R5_44 self N (qky self N (qkx self N nk ek n) ek) (exB 3 (qky self N (qkx self N nk ek n) ek) ek)) (exB 3 (qky self N (qkx self N nk ek n) ek) ek)) N v7 v8 v9 v13 v14 t40 (.bool false) (.int .i64 0) S42) (
ek 2 (fr 199 []) p28.2) := by kernel_rfl
theorem N5_25_eq (self : EV) (N : Nat) (nk : Ac->St->Rs) (ek : Nat->Ac->St->Rs) (n : Nat) ( v7 v8 v9 v13 v14 : V) (S : St) : qkx self N nk ek n (fr 199 [(7, v7), (8, v8), (9, v9), (13, v13), (14, v14)]) S = L5_25 self N nk ek n v7 v8 v9 v13 v14 S := by kernel_rfl
theorem R5_16_eq (self : EV) (N : Nat) (nk : Ac->St->Rs) (ek : Nat->Ac->St->Rs) ( v7 v8 v9 : V) (S : St) : R5_16 self N nk ek (fr 199 [(7, v7), (8, v8), (9, v9)]) S =
(ldA 5 v9 S).bind fun p17 =>
qax (self.f 8 [p17.1, v7] p17.2) fun t19 S19 =>
L5_25 self N (R5_21 self N (fun a s => qaa [6] a fun a => nk a s) ek) (exB 2 (R5_21 self N (fun a s => qaa [6] a fun a => nk a s) ek) ek) N v7 v8 v9 t19 (.int .i64 0) S19 := by kernel_rfl
noncomputable def qek (self : EV) (N : Nat) (nk : Ac->St->Rs) (ek : Nat->Ac->St->Rs) (n : Nat) : Ac->St->Rs := fun a S => qaa [0, 1, 2, 7, 8, 9, 10] a fun a => qbf [0, 1, 2, 7, 8, 9, 10] (dr E0 self RL5 N (B5.r.r.r.r.r.r.l.r.l.l)) (mkK E0 self Try.f5 nk ek) n a S
noncomputable def L5_126 (self : EV) (N : Nat) (nk : Ac->St->Rs) (ek : Nat->Ac->St->Rs) (n : Nat) ( v0 v1 v2 v7 v8 v9 v10 : V) (S : St) : Rs := qbf [0, 1, 2, 7, 8, 9, 10] (dr E0 self RL5 N (B5.r.r.r.r.r.r.l.r.l.l)) (mkK E0 self Try.f5 nk ek) n (fr 199 [(0, v0), (1, v1), (2, v2), (7, v7), (8, v8), (9, v9), (10, v10)]) S
noncomputable def qel (self : EV) (N : Nat) (nk : Ac->St->Rs) (ek : Nat->Ac->St->Rs) (a : Ac) (S : St) : Rs := qaa [0, 1, 2, 7, 8, 9, 10] a fun a => dr E0 self RL5 N (B5.r.r.r.r.r.r.l.r.l.l.r).r (mkK E0 self Try.f5 nk ek) a S
theorem R5_135_eq (self : EV) (N : Nat) (nk : Ac->St->Rs) (ek : Nat->Ac->St->Rs) ( v0 v1 v2 v7 v8 v9 v10 : V) (S : St) : qel self N nk ek (fr 199 [(0, v0), (1, v1), (2, v2), (7, v7), (8, v8), (9, v9), (10, v10)]) S =
(qa4 E0 .add 3 false true v10 (.int .i64 1)).bind fun t137 =>
nk (fr 199 [(0, v0), (1, v1), (2, v2), (7, v7), (8, v8), (9, v9), (10, t137)]) S := by kernel_rfl
noncomputable def qll (self : EV) (N : Nat) (nk : Ac->St->Rs) (ek : Nat->Ac->St->Rs) (a : Ac) (S : St) : Rs := qaa [0, 1, 2, 7, 8, 9, 10, 11, 12] a fun a => dr E0 self RL5 N (B5.r.r.r.r.r.r.l.r.l.l.r.l.l.r.r.r.r.r).r (mkK E0 self Try.f5 nk ek) a S
theorem R5_186_eq (self : EV) (N : Nat) (nk : Ac->St->Rs) (ek : Nat->Ac->St->Rs) ( v0 v1 v2 v7 v8 v9 v10 v11 v12 : V) (S : St) : qll self N nk ek (fr 199 [(0, v0), (1, v1), (2, v2), (7, v7), (8, v8), (9, v9), (10, v10), (11, v11), (12, v12)]) S =
(ixP 1 v1 v10).bind fun t189 =>
(ld1 t189 S).bind fun p190 =>
(qa4 E0 .rem 5 false true p190.1 (.int .u8 4)).bind fun t191 =>
(qa4 E0 .eql 5 false true t191 (.int .u8 2)).bind fun t192 =>
ifK t192 (
(faP 0 false 1 v12).bind fun t193 =>
(ld1 t193 (onS p190.2)).bind fun p194 =>
(qbl E0 9 v11 (some (.int .i64 1)) none none (onS p194.2)).bind fun p196 =>
(qa4 E0 .add 9 false false p196.1 v11).bind fun t198 =>
(qey E0 24 [(0, (sv [105, 110])), (1, (.int .i64 1)), (3, t198)]).bind fun t199 =>
(bsP 24 5 1 (Tr.ofListFrom .nil [(sv []), (.int .i64 0), (.bool false), (sv []), .nilslice] 0) [(0, t199)] (onS p196.2)).bind fun p200 =>
(qey E0 24 [(0, p194.1), (1, (.int .i64 2)), (4, p200.1)]).bind fun t201 =>
(stP 5 v12 t201 (onS p200.2)).bind fun p202 =>
qm8 [(1, [3, 7])] p190.2 [[], p194.2.log, [], p196.2.log, [], [], [], p200.2.log, [], p202.2.log] p202.2 fun S203 =>
(faP 4 false 1 v9).bind fun t204 =>
(ld1 t204 S203).bind fun p205 =>
(ldA 5 v12 p205.2).bind fun p206 =>
(bsP 24 5 1 (Tr.ofListFrom .nil [(sv []), (.int .i64 0), (.bool false), (sv []), .nilslice] 0) [(0, p206.1)] p206.2).bind fun p207 =>
(apP 24 5 72 p205.1 p207.1 p207.2).bind fun p208 =>
(faP 4 false 1 v9).bind fun t209 =>
(stP 1 t209 p208.1 p208.2).bind fun p210 =>
nk (fr 199 [(0, v0), (1, v1), (2, v2), (7, v7), (8, v8), (9, v9), (10, v10)]) p210.2) (
(faP 4 false 1 v9).bind fun t211 =>
(ld1 t211 p190.2).bind fun p212 =>
(ldA 5 v12 p212.2).bind fun p213 =>
(bsP 24 5 1 (Tr.ofListFrom .nil [(sv []), (.int .i64 0), (.bool false), (sv []), .nilslice] 0) [(0, p213.1)] p213.2).bind fun p214 =>
(apP 24 5 72 p212.1 p214.1 p214.2).bind fun p215 =>
(faP 4 false 1 v9).bind fun t216 =>
(stP 1 t216 p215.1 p215.2).bind fun p217 =>
nk (fr 199 [(0, v0), (1, v1), (2, v2), (7, v7), (8, v8), (9, v9), (10, v10)]) p217.2) := by kernel_rfl
theorem qn6 (self : EV) (N : Nat) (nk : Ac->St->Rs) (ek : Nat->Ac->St->Rs) (n : Nat) ( v0 v1 v2 v7 v8 v9 v10 : V) (S : St) : L5_126 self N nk ek (n + 1) v0 v1 v2 v7 v8 v9 v10 S =
(lnS v0 S).bind fun p129 =>
(qa4 E0 .lss 3 false false v10 p129.1).bind fun t130 =>
(qa2 true t130).bind fun g132 => (bif g132 then some v10 else some (.tuple [])).bind fun t132 =>
(qa2 true t130).bind fun g133 => (bif g133 then qa4 E0 .lss 3 false true t132 (.int .i64 8) else some (.tuple [])).bind fun t133 =>
(qag t130 (some t133) (some (.bool false))).bind fun t134 =>
ifK t134 (
(ixP 1 v0 v10).bind fun t141 =>
(ld1 t141 (onS p129.2)).bind fun p142 =>
(ixP 1 v0 v10).bind fun t145 =>
(ld1 t145 (onS p142.2)).bind fun p146 =>
(qd1 p146.1 (onS p146.2)).bind fun p147 =>
(qhg minV p147.1 [(.int .i64 40)] (onS p147.2)).bind fun p148 =>
(qbl E0 9 p142.1 none (some p148.1) none (onS p148.2)).bind fun p149 =>
qjr (qat E0 (B5.r.r.r.r.r.r.l.r.l.l.r.l.l.l).ops) p129.2 11 [[], [], [], p142.2.log, [], [], [], p146.2.log, p147.2.log, p148.2.log, p149.2.log] (self.f 12 [p149.1] (onS p149.2)) fun t150 S150 =>
qm8 [(3, [7, 8, 9])] p129.2 [[], [], [], p142.2.log, [], [], [], p146.2.log, p147.2.log, p148.2.log, p149.2.log, S150.log, []] (onS S150) fun S152 =>
(bsP 9 1 1 (Ev.one (sv [])) [(0, t150)] S152).bind fun p155 =>
(apP 9 1 16 v7 p155.1 p155.2).bind fun p156 =>
(lnS v1 p156.2).bind fun p160 =>
(qa4 E0 .geq 3 false false v10 p160.1).bind fun t161 =>
(qa2 false t161).bind fun g163 => (bif g163 then some v1 else some (.tuple [])).bind fun t163 =>
(qa2 false t161).bind fun g164 => (bif g164 then some v10 else some (.tuple [])).bind fun t164 =>
(qa2 false t161).bind fun g165 => (bif g165 then ixP 1 t163 t164 else some (.tuple [])).bind fun t165 =>
(qa2 false t161).bind fun g166 => (bif g166 then ld1 t165 p160.2 else some (.tuple [], p160.2)).bind fun p166 =>
(qa2 false t161).bind fun g167 => (bif g167 then qa4 E0 .rem 5 false true p166.1 (.int .u8 4) else some (.tuple [])).bind fun t167 =>
(qa2 false t161).bind fun g168 => (bif g168 then qa4 E0 .eql 5 false true t167 (.int .u8 0) else some (.tuple [])).bind fun t168 =>
(qag t161 (some (.bool true)) (some t168)).bind fun t169 =>
ifK t169 (
qel self N (qek self N nk ek n) ek (fr 199 [(0, v0), (1, v1), (2, v2), (7, p156.1), (8, v8), (9, v9), (10, v10)]) p166.2) (
(vu (qbp E0 31 v8 t150 (.int .i64 1) p166.2)).bind fun p172 =>
(cvI .u8 v10 p172.2).bind fun p174 =>
(qa4 E0 .add 5 true false (.int .u8 97) p174.1).bind fun t175 =>
(bsP 5 1 1 (Ev.one (.int .u8 0)) [(0, t175)] p174.2).bind fun p176 =>
(qaz E0 34 9 p176.1 p176.2).bind fun p177 =>
(qa4 E0 .add 9 false false v2 t150).bind fun t180 =>
(qa4 E0 .add 9 false false t180 v2).bind fun t182 =>
(qey E0 24 [(0, p177.1), (1, (.int .i64 1)), (3, t182)]).bind fun t183 =>
(some (nwP 24 5 (Tr.ofListFrom .nil [(sv []), (.int .i64 0), (.bool false), (sv []), .nilslice] 0) p177.2)).bind fun p184 =>
(stP 5 p184.1 t183 p184.2).bind fun p185 =>
(ixP 1 v1 v10).bind fun t220 =>
(ld1 t220 p185.2).bind fun p221 =>
(qa4 E0 .rem 5 false true p221.1 (.int .u8 4)).bind fun t222 =>
(qa4 E0 .eql 5 false true t222 (.int .u8 1)).bind fun t223 =>
ifK t223 (
(faP 0 false 1 p184.1).bind fun t224 =>
(ld1 t224 p221.2).bind fun p225 =>
(qa4 E0 .add 9 true false (sv [46, 46, 47]) t150).bind fun t227 =>
(qa4 E0 .add 9 false true t227 (sv [45, 120])).bind fun t228 =>
(qey E0 24 [(0, p225.1), (1, (.int .i64 3)), (3, t228)]).bind fun t229 =>
(stP 5 p184.1 t229 p225.2).bind fun p230 =>
qll self N (qel self N (qek self N nk ek n) ek) (exB 1 (qel self N (qek self N nk ek n) ek) ek) (fr 199 [(0, v0), (1, v1), (2, v2), (7, p156.1), (8, v8), (9, v9), (10, v10), (11, t150), (12, p184.1)]) p230.2) (
qll self N (qel self N (qek self N nk ek n) ek) (exB 1 (qel self N (qek self N nk ek n) ek) ek) (fr 199 [(0, v0), (1, v1), (2, v2), (7, p156.1), (8, v8), (9, v9), (10, v10), (11, t150), (12, p184.1)]) p221.2))) (
ek 0 (fr 199 [(7, v7), (8, v8), (9, v9)]) p129.2) := by kernel_rfl
theorem N5_126_eq (self : EV) (N : Nat) (nk : Ac->St->Rs) (ek : Nat->Ac->St->Rs) (n : Nat) ( v0 v1 v2 v7 v8 v9 v10 : V) (S : St) : qek self N nk ek n (fr 199 [(0, v0), (1, v1), (2, v2), (7, v7), (8, v8), (9, v9), (10, v10)]) S = L5_126 self N nk ek n v0 v1 v2 v7 v8 v9 v10 S := by kernel_rfl
noncomputable def F5 (self : EV) (N : Nat) (x0 x1 x2 : V) (S : St) : Rs := qbu E0 self N Try.f5 B5 [x0, x1, x2] S
theorem F5_eq (self : EV) (N : Nat) (x0 x1 x2 : V) (S : St) : F5 self N x0 x1 x2 S =
qax (self.f 10 [] S) fun t1 S1 =>
(unV .not t1).bind fun t2 =>
ifK t2 (
some (.ret (.bool false), S1)) (
(qd1 x2 S1).bind fun p6 =>
(qhg minV p6.1 [(.int .i64 20)] p6.2).bind fun p7 =>
(qbl E0 9 x2 none (some p7.1) none p7.2).bind fun p8 =>
(qfh E0 31 none p8.2).bind fun p11 =>
(qey E0 24 [(1, (.int .i64 2))]).bind fun t13 =>
(some (nwP 24 5 (Tr.ofListFrom .nil [(sv []), (.int .i64 0), (.bool false), (sv []), .nilslice] 0) p11.2)).bind fun p14 =>
(stP 5 p14.1 t13 p14.2).bind fun p15 =>
L5_126 self N (R5_16 self N (qak E0 self Try.f5) qa9) (exB 0 (R5_16 self N (qak E0 self Try.f5) qa9) qa9) N x0 x1 p8.1 .nilslice p11.1 p14.1 (.int .i64 0) p15.2) := by kernel_rfl
noncomputable def C13 : Code := Try.f13.body.getD .skip
noncomputable def B13 : D := (qas C13 [[], [], [1, 2, 5], [], [1, 2], [], [], [], [], [0, 1, 2], [4], [], [1, 2, 6], [], [], [], [], [], [], [0], [4], []]).1
noncomputable def RL13 : List Nat := cellsOf Try.f13.results.toList
noncomputable def R13_2 (self : EV) (N : Nat) (nk : Ac->St->Rs) (ek : Nat->Ac->St->Rs) (a : Ac) (S : St) : Rs := qaa [1, 2] a fun a => dr E0 self RL13 N (B13.r).r (mkK E0 self Try.f13 nk ek) a S
noncomputable def R13_3 (self : EV) (N : Nat) (nk : Ac->St->Rs) (ek : Nat->Ac->St->Rs) (a : Ac) (S : St) : Rs := qaa [] a fun a => dr E0 self RL13 N (B13.r.r.l).r (mkK E0 self Try.f13 nk ek) a S
theorem R13_3_eq (self : EV) (N : Nat) (nk : Ac->St->Rs) (ek : Nat->Ac->St->Rs) (S : St) : R13_3 self N nk ek (fr 41 []) S =
some (.ret (.bool false), S) := by kernel_rfl
noncomputable def L13_6 (self : EV) (N : Nat) (nk : Ac->St->Rs) (ek : Nat->Ac->St->Rs) (n : Nat) ( v1 v2 v6 : V) (S : St) : Rs := qbf [1, 2, 6] (dr E0 self RL13 N (B13.r.r.l.l.r.l.l)) (mkK E0 self Try.f13 nk ek) n (fr 41 [(1, v1), (2, v2), (6, v6)]) S
theorem L13_6_eq (self : EV) (N : Nat) (nk : Ac->St->Rs) (ek : Nat->Ac->St->Rs) (n : Nat) ( v1 v2 v6 : V) (S : St) : L13_6 self N nk ek (n + 1) v1 v2 v6 S =
(faP 4 false 1 v2).bind fun t8 =>
(ld1 t8 S).bind fun p9 =>
(lnS p9.1 p9.2).bind fun p10 =>
(qa4 E0 .lss 3 false false v6 p10.1).bind fun t11 =>
ifK t11 (
(faP 4 false 1 v2).bind fun t12 =>
(ld1 t12 p10.2).bind fun p13 =>
(ixP 5 p13.1 v6).bind fun t15 =>
(ldA 5 t15 p13.2).bind fun p16 =>
qax (self.f 13 [p16.1, v1] p16.2) fun t18 S18 =>
ifK t18 (
some (.ret (.bool true), S18)) (
(qa4 E0 .add 3 false true v6 (.int .i64 1)).bind fun t21 =>
L13_6 self N nk ek n v1 v2 t21 S18)) (
ek 2 (fr 41 []) p10.2) := by kernel_rfl
theorem R13_2_eq (self : EV) (N : Nat) (nk : Ac->St->Rs) (ek : Nat->Ac->St->Rs) ( v1 v2 : V) (S : St) : R13_2 self N nk ek (fr 41 [(1, v1), (2, v2)]) S =
L13_6 self N (R13_3 self N (fun a s => qaa [4] a fun a => nk a s) ek) (exB 2 (R13_3 self N (fun a s => qaa [4] a fun a => nk a s) ek) ek) N v1 v2 (.int .i64 0) S := by kernel_rfl
noncomputable def L13_24 (self : EV) (N : Nat) (nk : Ac->St->Rs) (ek : Nat->Ac->St->Rs) (n : Nat) ( v1 v2 v5 : V) (S : St) : Rs := qbf [1, 2, 5] (dr E0 self RL13 N (B13.r.l.r.l.l)) (mkK E0 self Try.f13 nk ek) n (fr 41 [(1, v1), (2, v2), (5, v5)]) S
theorem L13_24_eq (self : EV) (N : Nat) (nk : Ac->St->Rs) (ek : Nat->Ac->St->Rs) (n : Nat) ( v1 v2 v5 : V) (S : St) : L13_24 self N nk ek (n + 1) v1 v2 v5 S =
(qd1 v1 S).bind fun p27 =>
(qa4 E0 .add 3 false false v5 p27.1).bind fun t28 =>
(faP 3 false 1 v2).bind fun t29 =>
(ld1 t29 p27.2).bind fun p30 =>
(qd1 p30.1 p30.2).bind fun p31 =>
(qa4 E0 .leq 3 false false t28 p31.1).bind fun t32 =>
ifK t32 (
(faP 3 false 1 v2).bind fun t33 =>
(ld1 t33 p31.2).bind fun p34 =>
(qd1 v1 p34.2).bind fun p38 =>
(qa4 E0 .add 3 false false v5 p38.1).bind fun t39 =>
(qbl E0 9 p34.1 (some v5) (some t39) none p38.2).bind fun p40 =>
(qa4 E0 .eql 9 false false p40.1 v1).bind fun t42 =>
ifK t42 (
some (.ret (.bool true), p40.2)) (
(qa4 E0 .add 3 false true v5 (.int .i64 1)).bind fun t45 =>
L13_24 self N nk ek n v1 v2 t45 p40.2)) (
ek 0 (fr 41 [(1, v1), (2, v2)]) p31.2) := by kernel_rfl
noncomputable def F13 (self : EV) (N : Nat) (x0 x1 : V) (S : St) : Rs := qbu E0 self N Try.f13 B13 [x0, x1] S
theorem F13_eq (self : EV) (N : Nat) (x0 x1 : V) (S : St) : F13 self N x0 x1 S =
(qm6 24 x0 S).bind fun p0 =>
L13_24 self N (R13_2 self N (qak E0 self Try.f13) qa9) (exB 0 (R13_2 self N (qak E0 self Try.f13) qa9) qa9) N x1 p0.1 (.int .i64 0) p0.2 := by kernel_rfl
end
noncomputable section
noncomputable def C12 : Code := Try.f12.body.getD .skip
noncomputable def B12 : D := (qas C12 [[], [], [], [], [], [3, 4, 5, 6, 12, 13], [], [4], [], [], [], [], [3, 4, 5, 6, 12, 13], [], [3, 4, 5, 6, 12, 13], [], [], [0, 3, 4, 5, 6, 12, 13], [3, 4, 5, 6, 12, 13], [0, 3, 4, 5, 6, 12, 13], [3, 4, 5, 6, 12, 13], [0, 4], [2], []]).1
noncomputable def RL12 : List Nat := cellsOf Try.f12.results.toList
noncomputable def R12_7 (self : EV) (N : Nat) (nk : Ac->St->Rs) (ek : Nat->Ac->St->Rs) (a : Ac) (S : St) : Rs := qaa [4] a fun a => dr E0 self RL12 N (B12.r.r.r.r).r (mkK E0 self Try.f12 nk ek) a S
theorem R12_7_eq (self : EV) (N : Nat) (nk : Ac->St->Rs) (ek : Nat->Ac->St->Rs) ( v4 : V) (S : St) : R12_7 self N nk ek (fr 42 [(4, v4)]) S =
qax (self.f 29 [v4] S) fun t8 S8 =>
some (.ret t8, S8) := by kernel_rfl
noncomputable def qh8 (self : EV) (N : Nat) (nk : Ac->St->Rs) (ek : Nat->Ac->St->Rs) (n : Nat) : Ac->St->Rs := fun a S => qaa [3, 4, 5, 6, 12, 13] a fun a => qbf [3, 4, 5, 6, 12, 13] (dr E0 self RL12 N (B12.r.r.r.r.l.r.l.l)) (mkK E0 self Try.f12 nk ek) n a S
noncomputable def L12_14 (self : EV) (N : Nat) (nk : Ac->St->Rs) (ek : Nat->Ac->St->Rs) (n : Nat) ( v3 v4 v5 v6 v12 v13 : V) (S : St) : Rs := qbf [3, 4, 5, 6, 12, 13] (dr E0 self RL12 N (B12.r.r.r.r.l.r.l.l)) (mkK E0 self Try.f12 nk ek) n (fr 42 [(3, v3), (4, v4), (5, v5), (6, v6), (12, v12), (13, v13)]) S
noncomputable def qh9 (self : EV) (N : Nat) (nk : Ac->St->Rs) (ek : Nat->Ac->St->Rs) (a : Ac) (S : St) : Rs := qaa [3, 4, 5, 6, 12, 13] a fun a => dr E0 self RL12 N (B12.r.r.r.r.l.r.l.l.r.r).r (mkK E0 self Try.f12 nk ek) a S
theorem R12_16_eq (self : EV) (N : Nat) (nk : Ac->St->Rs) (ek : Nat->Ac->St->Rs) ( v3 v4 v5 v6 v12 v13 : V) (S : St) : qh9 self N nk ek (fr 42 [(3, v3), (4, v4), (5, v5), (6, v6), (12, v12), (13, v13)]) S =
(qa4 E0 .add 3 false true v13 (.int .i64 1)).bind fun t17 =>
nk (fr 42 [(3, v3), (4, v4), (5, v5), (6, v6), (12, v12), (13, t17)]) S := by kernel_rfl
noncomputable def R12_29 (self : EV) (N : Nat) (nk : Ac->St->Rs) (ek : Nat->Ac->St->Rs) (a : Ac) (S : St) : Rs := qaa [3, 4, 5, 6, 12, 13] a fun a => dr E0 self RL12 N (B12.r.r.r.r.l.r.l.l.r.r.l.l.r.r).r (mkK E0 self Try.f12 nk ek) a S
theorem R12_29_eq (self : EV) (N : Nat) (nk : Ac->St->Rs) (ek : Nat->Ac->St->Rs) ( v3 v4 v5 v6 v12 v13 : V) (S : St) : R12_29 self N nk ek (fr 42 [(3, v3), (4, v4), (5, v5), (6, v6), (12, v12), (13, v13)]) S =
(qa4 E0 .shl 56 true false (.int .u64 1) v6).bind fun t32 =>
(qa4 E0 .sub 56 false true t32 (.int .u64 1)).bind fun t33 =>
(qa4 E0 .and 56 false false v5 t33).bind fun t34 =>
nk (fr 42 [(3, v3), (4, v4), (5, t34), (6, v6), (12, v12), (13, v13)]) S := by kernel_rfl
noncomputable def L12_39 (self : EV) (N : Nat) (nk : Ac->St->Rs) (ek : Nat->Ac->St->Rs) (n : Nat) ( v3 v4 v5 v6 v12 v13 : V) (S : St) : Rs := qbf [3, 4, 5, 6, 12, 13] (dr E0 self RL12 N (B12.r.r.r.r.l.r.l.l.r.r.l.l.r.r.l.r.l.l)) (mkK E0 self Try.f12 nk ek) n (fr 42 [(3, v3), (4, v4), (5, v5), (6, v6), (12, v12), (13, v13)]) S
theorem L12_39_eq (self : EV) (N : Nat) (nk : Ac->St->Rs) (ek : Nat->Ac->St->Rs) (n : Nat) ( v3 v4 v5 v6 v12 v13 : V) (S : St) : L12_39 self N nk ek (n + 1) v3 v4 v5 v6 v12 v13 S =
(qa4 E0 .geq 3 false true v6 (.int .i64 5)).bind fun t41 =>
ifK t41 (
(qa4 E0 .sub 3 false true v6 (.int .i64 5)).bind fun t43 =>
(qa4 E0 .shr 56 false false v5 t43).bind fun t47 =>
(qa4 E0 .and 56 false true t47 (.int .u64 31)).bind fun t48 =>
(ixS (sv [48, 49, 50, 51, 52, 53, 54, 55, 56, 57, 97, 98, 99, 100, 102, 103, 104, 105, 106, 107, 108, 109, 110, 112, 113, 114, 115, 118, 119, 120, 121, 122]) t48).bind fun t49 =>
qax (self.f 28 [v4, t49] S) fun t50 S50 =>
L12_39 self N nk ek n v3 v4 v5 t43 v12 v13 S50) (
ek 2 (fr 42 [(3, v3), (4, v4), (5, v5), (6, v6), (12, v12), (13, v13)]) S) := by kernel_rfl
theorem L12_14_eq (self : EV) (N : Nat) (nk : Ac->St->Rs) (ek : Nat->Ac->St->Rs) (n : Nat) ( v3 v4 v5 v6 v12 v13 : V) (S : St) : L12_14 self N nk ek (n + 1) v3 v4 v5 v6 v12 v13 S =
(qa4 E0 .lss 3 false false v13 v12).bind fun t15 =>
ifK t15 (
(qa4 E0 .shl 56 false true v5 (.int .u64 8)).bind fun t22 =>
(ixS v3 v13).bind fun t25 =>
(cvI .u64 t25 S).bind fun p26 =>
(qa4 E0 .or 56 false false t22 p26.1).bind fun t27 =>
(qa4 E0 .add 3 false true v6 (.int .i64 8)).bind fun t37 =>
L12_39 self N (R12_29 self N (qh9 self N (qh8 self N nk ek n) ek) (exB 1 (qh9 self N (qh8 self N nk ek n) ek) ek)) (exB 2 (R12_29 self N (qh9 self N (qh8 self N nk ek n) ek) (exB 1 (qh9 self N (qh8 self N nk ek n) ek) ek)) (exB 1 (qh9 self N (qh8 self N nk ek n) ek) ek)) N v3 v4 t27 t37 v12 v13 p26.2) (
ek 0 (fr 42 [(4, v4)]) S) := by kernel_rfl
theorem N12_14_eq (self : EV) (N : Nat) (nk : Ac->St->Rs) (ek : Nat->Ac->St->Rs) (n : Nat) ( v3 v4 v5 v6 v12 v13 : V) (S : St) : qh8 self N nk ek n (fr 42 [(3, v3), (4, v4), (5, v5), (6, v6), (12, v12), (13, v13)]) S = L12_14 self N nk ek n v3 v4 v5 v6 v12 v13 S := by kernel_rfl
noncomputable def F12 (self : EV) (N : Nat) (x0 : V) (S : St) : Rs := qbu E0 self N Try.f12 B12 [x0] S
theorem F12_eq (self : EV) (N : Nat) (x0 : V) (S : St) : F12 self N x0 S =
qax (self.f 27 [x0] S) fun t2 S2 =>
(some (nwP 55 2 (Tr.ofListFrom .nil [.nilptr, .nilslice] 0) S2)).bind fun p4 =>
(qd1 t2 p4.2).bind fun p11 =>
(qhg minV p11.1 [(.int .i64 20)] p11.2).bind fun p12 =>
L12_14 self N (R12_7 self N (qak E0 self Try.f12) qa9) (exB 0 (R12_7 self N (qak E0 self Try.f12) qa9) qa9) N t2 p4.1 (.int .u64 0) (.int .i64 0) p12.1 (.int .i64 0) p12.2 := by kernel_rfl
noncomputable def C28 : Code := Try.f28.body.getD .skip
noncomputable def B28 : D := (qas C28 [[], [], [], []]).1
noncomputable def F28 (self : EV) (N : Nat) (x0 x1 : V) (S : St) : Rs := qbu E0 self N Try.f28 B28 [x0, x1] S
theorem F28_eq (self : EV) (N : Nat) (x0 x1 : V) (S : St) : F28 self N x0 x1 S =
qax (self.f 55 [x0] S) fun t2 S2 =>
(qe8 x0).bind fun t5 =>
(faP 1 false 1 t5).bind fun t6 =>
(ld1 t6 S2).bind fun p7 =>
(bsP 5 1 1 (Ev.one (.int .u8 0)) [(0, x1)] p7.2).bind fun p9 =>
(apP 5 1 1 p7.1 p9.1 p9.2).bind fun p10 =>
(qe8 x0).bind fun t11 =>
(faP 1 false 1 t11).bind fun t12 =>
(stP 1 t12 p10.1 p10.2).bind fun p13 =>
some (.ret .niliface, p13.2) := by kernel_rfl
noncomputable def C84 : Code := Try.f84.body.getD .skip
noncomputable def B84 : D := (qas C84 [[], [], [0, 4, 7, 8, 9], [], [4], [], [], [], [0, 4], [4], []]).1
noncomputable def RL84 : List Nat := cellsOf Try.f84.results.toList
noncomputable def R84_1 (self : EV) (N : Nat) (nk : Ac->St->Rs) (ek : Nat->Ac->St->Rs) (a : Ac) (S : St) : Rs := qaa [4] a fun a => dr E0 self RL84 N (B84.r).r (mkK E0 self Try.f84 nk ek) a S
theorem R84_1_eq (self : EV) (N : Nat) (nk : Ac->St->Rs) (ek : Nat->Ac->St->Rs) ( v4 : V) (S : St) : R84_1 self N nk ek (fr 21 [(4, v4)]) S =
some (.ret v4, S) := by kernel_rfl
noncomputable def L84_7 (self : EV) (N : Nat) (nk : Ac->St->Rs) (ek : Nat->Ac->St->Rs) (n : Nat) ( v0 v4 v7 v8 v9 : V) (S : St) : Rs := qbf [0, 4, 7, 8, 9] (dr E0 self RL84 N (B84.r.l.r.l.l)) (mkK E0 self Try.f84 nk ek) n (fr 21 [(0, v0), (4, v4), (7, v7), (8, v8), (9, v9)]) S
theorem L84_7_eq (self : EV) (N : Nat) (nk : Ac->St->Rs) (ek : Nat->Ac->St->Rs) (n : Nat) ( v0 v4 v7 v8 v9 : V) (S : St) : L84_7 self N nk ek (n + 1) v0 v4 v7 v8 v9 S =
(qa4 E0 .lss 3 false false v9 v8).bind fun t8 =>
ifK t8 (
(ixP 1 v7 v9).bind fun t9 =>
(ld1 t9 S).bind fun p10 =>
(unV .neg p10.1).bind fun t15 =>
qax (self.f 85 [v0, t15] p10.2) fun t16 S16 =>
(qa4 E0 .xor 70 false false v4 t16).bind fun t17 =>
(qa4 E0 .add 3 false true v9 (.int .i64 1)).bind fun t19 =>
L84_7 self N nk ek n v0 t17 v7 v8 t19 S16) (
ek 0 (fr 21 [(4, v4)]) S) := by kernel_rfl
noncomputable def F84 (self : EV) (N : Nat) (x0 x1 : V) (S : St) : Rs := qbu E0 self N Try.f84 B84 [x0, x1] S
theorem F84_eq (self : EV) (N : Nat) (x0 x1 : V) (S : St) : F84 self N x0 x1 S =
(lnS x1 S).bind fun p5 =>
L84_7 self N (R84_1 self N (qak E0 self Try.f84) qa9) (exB 0 (R84_1 self N (qak E0 self Try.f84) qa9) qa9) N x0 (.int .u32 0) x1 p5.1 (.int .i64 0) p5.2 := by kernel_rfl
noncomputable def C85 : Code := Try.f85.body.getD .skip
noncomputable def B85 : D := (qas C85 [[], [], []]).1
noncomputable def F85 (self : EV) (N : Nat) (x0 x1 : V) (S : St) : Rs := qbu E0 self N Try.f85 B85 [x0, x1] S
theorem F85_eq (self : EV) (N : Nat) (x0 x1 : V) (S : St) : F85 self N x0 x1 S =
(cvI .u64 x1 S).bind fun p2 =>
(qa4 E0 .and 56 false true p2.1 (.int .u64 31)).bind fun t3 =>
(qa4 E0 .shl 70 false false x0 t3).bind fun t7 =>
(qa4 E0 .sub 56 true false (.int .u64 32) t3).bind fun t10 =>
(qa4 E0 .shr 70 false false x0 t10).bind fun t11 =>
(qa4 E0 .or 70 false false t7 t11).bind fun t12 =>
some (.ret t12, p2.2) := by kernel_rfl
noncomputable def C54 : Code := Try.f54.body.getD .skip
noncomputable def B54 : D := (qas C54 [[], [], [], [], [1, 2, 3, 6, 7, 8, 15], [], [2, 3, 6, 7, 8], [], [], [], [], [1, 2, 3, 6, 7, 8, 15], [], [], [0, 2, 3, 6, 7, 8], [6], [], [], [2, 3, 6, 7, 8, 10, 96], [], [3, 6, 10], [], [], [], [], [], [0, 3, 6, 10], [6], [], [3, 6, 10, 174], [], [3, 6], [], [], [], [0, 3, 6], [6], []]).1
noncomputable def RL54 : List Nat := cellsOf Try.f54.results.toList
noncomputable def R54_4 (self : EV) (N : Nat) (nk : Ac->St->Rs) (ek : Nat->Ac->St->Rs) (a : Ac) (S : St) : Rs := qaa [2, 3, 6, 7, 8] a fun a => dr E0 self RL54 N (B54.r.r.r).r (mkK E0 self Try.f54 nk ek) a S
noncomputable def R54_8 (self : EV) (N : Nat) (nk : Ac->St->Rs) (ek : Nat->Ac->St->Rs) (a : Ac) (S : St) : Rs := qaa [3, 6, 10] a fun a => dr E0 self RL54 N (B54.r.r.r.r.l.r).r (mkK E0 self Try.f54 nk ek) a S
noncomputable def R54_9 (self : EV) (N : Nat) (nk : Ac->St->Rs) (ek : Nat->Ac->St->Rs) (a : Ac) (S : St) : Rs := qaa [3, 6] a fun a => dr E0 self RL54 N (B54.r.r.r.r.l.r.r.l).r (mkK E0 self Try.f54 nk ek) a S
theorem R54_9_eq (self : EV) (N : Nat) (nk : Ac->St->Rs) (ek : Nat->Ac->St->Rs) ( v3 v6 : V) (S : St) : R54_9 self N nk ek (fr 187 [(3, v3), (6, v6)]) S =
(ldA 8 v3 S).bind fun p10 =>
(stP 8 v6 p10.1 p10.2).bind fun p11 =>
(ldrA 8 v6 p11.2).bind fun p12 =>
some (.ret p12.1, p12.2) := by kernel_rfl
noncomputable def L54_14 (self : EV) (N : Nat) (nk : Ac->St->Rs) (ek : Nat->Ac->St->Rs) (n : Nat) ( v3 v6 v10 v174 : V) (S : St) : Rs := qbf [3, 6, 10, 174] (dr E0 self RL54 N (B54.r.r.r.r.l.r.r.l.l.r.l.l)) (mkK E0 self Try.f54 nk ek) n (fr 187 [(3, v3), (6, v6), (10, v10), (174, v174)]) S
theorem L54_14_eq (self : EV) (N : Nat) (nk : Ac->St->Rs) (ek : Nat->Ac->St->Rs) (n : Nat) ( v3 v6 v10 v174 : V) (S : St) : L54_14 self N nk ek (n + 1) v3 v6 v10 v174 S =
(qa4 E0 .lss 3 false true v174 (.int .i64 8)).bind fun t15 =>
ifK t15 (
(ixA 8 1 false 1 v3 v174).bind fun t19 =>
(ld1 t19 (onS S)).bind fun p20 =>
(ixA 8 1 false 1 v10 v174).bind fun t22 =>
(ld1 t22 (onS p20.2)).bind fun p23 =>
(qa4 E0 .add 70 false false p20.1 p23.1).bind fun t24 =>
(ixA 8 1 false 1 v3 v174).bind fun t25 =>
(stP 1 t25 t24 (onS p23.2)).bind fun p26 =>
qm8 [(2, [5])] S [[], [], p20.2.log, [], [], p23.2.log, [], [], p26.2.log] p26.2 fun S27 =>
(qa4 E0 .add 3 false true v174 (.int .i64 1)).bind fun t28 =>
L54_14 self N nk ek n v3 v6 v10 t28 S27) (
ek 4 (fr 187 [(3, v3), (6, v6)]) S) := by kernel_rfl
theorem R54_8_eq (self : EV) (N : Nat) (nk : Ac->St->Rs) (ek : Nat->Ac->St->Rs) ( v3 v6 v10 : V) (S : St) : R54_8 self N nk ek (fr 187 [(3, v3), (6, v6), (10, v10)]) S =
L54_14 self N (R54_9 self N (fun a s => qaa [6] a fun a => nk a s) ek) (exB 4 (R54_9 self N (fun a s => qaa [6] a fun a => nk a s) ek) ek) N v3 v6 v10 (.int .i64 0) S := by kernel_rfl
noncomputable def L54_31 (self : EV) (N : Nat) (nk : Ac->St->Rs) (ek : Nat->Ac->St->Rs) (n : Nat) ( v2 v3 v6 v7 v8 v10 v96 : V) (S : St) : Rs := qbf [2, 3, 6, 7, 8, 10, 96] (dr E0 self RL54 N (B54.r.r.r.r.l.r.l.r.l.l)) (mkK E0 self Try.f54 nk ek) n (fr 187 [(2, v2), (3, v3), (6, v6), (7, v7), (8, v8), (10, v10), (96, v96)]) S
theorem L54_31_eq (self : EV) (N : Nat) (nk : Ac->St->Rs) (ek : Nat->Ac->St->Rs) (n : Nat) ( v2 v3 v6 v7 v8 v10 v96 : V) (S : St) : L54_31 self N nk ek (n + 1) v2 v3 v6 v7 v8 v10 v96 S =
(qa4 E0 .lss 3 false true v96 (.int .i64 64)).bind fun t32 =>
ifK t32 (
(ixA 8 1 false 1 v10 (.int .i64 7)).bind fun t35 =>
(ld1 t35 (onS S)).bind fun p36 =>
(ixA 8 1 false 1 v10 (.int .i64 4)).bind fun t38 =>
(ld1 t38 (onS p36.2)).bind fun p39 =>
(bsP 3 1 3 (Ev.one (.int .i64 0)) [(0, (.int .i64 6)), (1, (.int .i64 11)), (2, (.int .i64 25))] (onS p39.2)).bind fun p40 =>
qjr (qat E0 (B54.r.r.r.r.l.r.l.r.l.l.r.r.l.l.r.l).ops) S 6 [[], p36.2.log, [], [], p39.2.log, p40.2.log] (qdl E0 self v7 [p39.1, p40.1] (onS p40.2)) fun t41 S41 =>
(qa4 E0 .add 70 false false p36.1 t41).bind fun t42 =>
(ixA 8 1 false 1 v10 (.int .i64 4)).bind fun t43 =>
(ld1 t43 (onS S41)).bind fun p44 =>
(ixA 8 1 false 1 v10 (.int .i64 5)).bind fun t45 =>
(ld1 t45 (onS p44.2)).bind fun p46 =>
(qa4 E0 .and 70 false false p44.1 p46.1).bind fun t47 =>
(ixA 8 1 false 1 v10 (.int .i64 4)).bind fun t48 =>
(ld1 t48 (onS p46.2)).bind fun p49 =>
(unV .xor p49.1).bind fun t50 =>
(ixA 8 1 false 1 v10 (.int .i64 6)).bind fun t51 =>
(ld1 t51 (onS p49.2)).bind fun p52 =>
(qa4 E0 .and 70 false false t50 p52.1).bind fun t53 =>
(qa4 E0 .xor 70 false false t47 t53).bind fun t54 =>
(qa4 E0 .add 70 false false t42 t54).bind fun t55 =>
(qe8 v2).bind fun t58 =>
(ixA 64 1 false 1 t58 v96).bind fun t59 =>
(ld1 t59 (onS p52.2)).bind fun p60 =>
(qa4 E0 .add 70 false false t55 p60.1).bind fun t61 =>
(ixA 64 1 false 1 v8 v96).bind fun t63 =>
(ld1 t63 (onS p60.2)).bind fun p64 =>
(qa4 E0 .add 70 false false t61 p64.1).bind fun t65 =>
qm8 [(1, [4, 5, 6, 9, 11, 14, 17, 25, 29]), (4, [5, 9, 11, 14, 17, 25, 29]), (5, [9, 11, 14, 17, 25, 29]), (6, [9, 11, 14, 17, 25, 29]), (9, [11, 14, 17, 25, 29]), (11, [14, 17, 25, 29]), (14, [17, 25, 29]), (17, [25, 29]), (25, [29])] S [[], p36.2.log, [], [], p39.2.log, p40.2.log, S41.log, [], [], p44.2.log, [], p46.2.log, [], [], p49.2.log, [], [], p52.2.log, [], [], [], [], [], [], [], p60.2.log, [], [], [], p64.2.log, [], []] (onS p64.2) fun S67 =>
(ixA 8 1 false 1 v10 (.int .i64 0)).bind fun t69 =>
(ld1 t69 (onS S67)).bind fun p70 =>
(bsP 3 1 3 (Ev.one (.int .i64 0)) [(0, (.int .i64 2)), (1, (.int .i64 13)), (2, (.int .i64 22))] (onS p70.2)).bind fun p71 =>
qjr (qat E0 (B54.r.r.r.r.l.r.l.r.l.l.r.r.l.l.r.r.l).ops) S67 4 [[], [], p70.2.log, p71.2.log] (qdl E0 self v7 [p70.1, p71.1] (onS p71.2)) fun t72 S72 =>
(ixA 8 1 false 1 v10 (.int .i64 0)).bind fun t73 =>
(ld1 t73 (onS S72)).bind fun p74 =>
(ixA 8 1 false 1 v10 (.int .i64 1)).bind fun t75 =>
(ld1 t75 (onS p74.2)).bind fun p76 =>
(qa4 E0 .and 70 false false p74.1 p76.1).bind fun t77 =>
(ixA 8 1 false 1 v10 (.int .i64 0)).bind fun t78 =>
(ld1 t78 (onS p76.2)).bind fun p79 =>
(ixA 8 1 false 1 v10 (.int .i64 2)).bind fun t80 =>
(ld1 t80 (onS p79.2)).bind fun p81 =>
(qa4 E0 .and 70 false false p79.1 p81.1).bind fun t82 =>
(qa4 E0 .xor 70 false false t77 t82).bind fun t83 =>
(ixA 8 1 false 1 v10 (.int .i64 1)).bind fun t84 =>
(ld1 t84 (onS p81.2)).bind fun p85 =>
(ixA 8 1 false 1 v10 (.int .i64 2)).bind fun t86 =>
(ld1 t86 (onS p85.2)).bind fun p87 =>
(qa4 E0 .and 70 false false p85.1 p87.1).bind fun t88 =>
(qa4 E0 .xor 70 false false t83 t88).bind fun t89 =>
(qa4 E0 .add 70 false false t72 t89).bind fun t90 =>
qm8 [(2, [3, 6, 8, 11, 13, 17, 19]), (3, [6, 8, 11, 13, 17, 19]), (4, [6, 8, 11, 13, 17, 19]), (6, [8, 11, 13, 17, 19]), (8, [11, 13, 17, 19]), (11, [13, 17, 19]), (13, [17, 19]), (17, [19])] S67 [[], [], p70.2.log, p71.2.log, S72.log, [], p74.2.log, [], p76.2.log, [], [], p79.2.log, [], p81.2.log, [], [], [], p85.2.log, [], p87.2.log, [], [], [], []] (onS p87.2) fun S92 =>
(qa4 E0 .add 70 false false t65 t90).bind fun t95 =>
(ixA 8 1 false 1 v10 (.int .i64 0)).bind fun t96 =>
(ld1 t96 S92).bind fun p97 =>
(ixA 8 1 false 1 v10 (.int .i64 1)).bind fun t98 =>
(ld1 t98 p97.2).bind fun p99 =>
(ixA 8 1 false 1 v10 (.int .i64 2)).bind fun t100 =>
(ld1 t100 p99.2).bind fun p101 =>
(ixA 8 1 false 1 v10 (.int .i64 3)).bind fun t102 =>
(ld1 t102 p101.2).bind fun p103 =>
(qa4 E0 .add 70 false false p103.1 t65).bind fun t105 =>
(ixA 8 1 false 1 v10 (.int .i64 4)).bind fun t106 =>
(ld1 t106 p103.2).bind fun p107 =>
(ixA 8 1 false 1 v10 (.int .i64 5)).bind fun t108 =>
(ld1 t108 p107.2).bind fun p109 =>
(ixA 8 1 false 1 v10 (.int .i64 6)).bind fun t110 =>
(ld1 t110 p109.2).bind fun p111 =>
(qey E0 72 [(0, t95), (1, p97.1), (2, p99.1), (3, p101.1), (4, t105), (5, p107.1), (6, p109.1), (7, p111.1)]).bind fun t112 =>
(stP 8 v10 t112 p111.2).bind fun p113 =>
(qa4 E0 .add 3 false true v96 (.int .i64 1)).bind fun t114 =>
L54_31 self N nk ek n v2 v3 v6 v7 v8 v10 t114 p113.2) (
ek 2 (fr 187 [(3, v3), (6, v6), (10, v10)]) S) := by kernel_rfl
theorem R54_4_eq (self : EV) (N : Nat) (nk : Ac->St->Rs) (ek : Nat->Ac->St->Rs) ( v2 v3 v6 v7 v8 : V) (S : St) : R54_4 self N nk ek (fr 187 [(2, v2), (3, v3), (6, v6), (7, v7), (8, v8)]) S =
(ldA 8 v3 S).bind fun p5 =>
(some (nwP 72 8 (Tr.ofListFrom .nil [(.int .u32 0), (.int .u32 0), (.int .u32 0), (.int .u32 0), (.int .u32 0), (.int .u32 0), (.int .u32 0), (.int .u32 0)] 0) p5.2)).bind fun p6 =>
(stP 8 p6.1 p5.1 p6.2).bind fun p7 =>
L54_31 self N (R54_8 self N (fun a s => qaa [6] a fun a => nk a s) ek) (exB 2 (R54_8 self N (fun a s => qaa [6] a fun a => nk a s) ek) ek) N v2 v3 v6 v7 v8 p6.1 (.int .i64 0) p7.2 := by kernel_rfl
noncomputable def qgc (self : EV) (N : Nat) (nk : Ac->St->Rs) (ek : Nat->Ac->St->Rs) (n : Nat) ( v1 v2 v3 v6 v7 v8 v15 : V) (S : St) : Rs := qbf [1, 2, 3, 6, 7, 8, 15] (dr E0 self RL54 N (B54.r.r.r.l.r.l.l)) (mkK E0 self Try.f54 nk ek) n (fr 187 [(1, v1), (2, v2), (3, v3), (6, v6), (7, v7), (8, v8), (15, v15)]) S
theorem qkv (self : EV) (N : Nat) (nk : Ac->St->Rs) (ek : Nat->Ac->St->Rs) (n : Nat) ( v1 v2 v3 v6 v7 v8 v15 : V) (S : St) : qgc self N nk ek (n + 1) v1 v2 v3 v6 v7 v8 v15 S =
(qa4 E0 .lss 3 false true v15 (.int .i64 64)).bind fun t118 =>
ifK t118 (
(qa4 E0 .lss 3 false true v15 (.int .i64 16)).bind fun t122 =>
ifK t122 (
(qa4 E0 .mul 3 true false (.int .i64 4) v15).bind fun t126 =>
(ixP 1 v1 t126).bind fun t127 =>
(ld1 t127 (onS S)).bind fun p128 =>
(cvI .u32 p128.1 (onS p128.2)).bind fun p129 =>
(qa4 E0 .shl 70 false true p129.1 (.int .u64 24)).bind fun t130 =>
(qa4 E0 .mul 3 true false (.int .i64 4) v15).bind fun t133 =>
(qa4 E0 .add 3 false true t133 (.int .i64 1)).bind fun t134 =>
(ixP 1 v1 t134).bind fun t135 =>
(ld1 t135 (onS p129.2)).bind fun p136 =>
(cvI .u32 p136.1 (onS p136.2)).bind fun p137 =>
(qa4 E0 .shl 70 false true p137.1 (.int .u64 16)).bind fun t138 =>
(qa4 E0 .or 70 false false t130 t138).bind fun t139 =>
(qa4 E0 .mul 3 true false (.int .i64 4) v15).bind fun t142 =>
(qa4 E0 .add 3 false true t142 (.int .i64 2)).bind fun t143 =>
(ixP 1 v1 t143).bind fun t144 =>
(ld1 t144 (onS p137.2)).bind fun p145 =>
(cvI .u32 p145.1 (onS p145.2)).bind fun p146 =>
(qa4 E0 .shl 70 false true p146.1 (.int .u64 8)).bind fun t147 =>
(qa4 E0 .or 70 false false t139 t147).bind fun t148 =>
(qa4 E0 .mul 3 true false (.int .i64 4) v15).bind fun t151 =>
(qa4 E0 .add 3 false true t151 (.int .i64 3)).bind fun t152 =>
(ixP 1 v1 t152).bind fun t153 =>
(ld1 t153 (onS p146.2)).bind fun p154 =>
(cvI .u32 p154.1 (onS p154.2)).bind fun p155 =>
(qa4 E0 .or 70 false false t148 p155.1).bind fun t156 =>
(ixA 64 1 false 1 v8 v15).bind fun t157 =>
(stP 1 t157 t156 (onS p155.2)).bind fun p158 =>
qm8 [(5, [13, 14, 22, 23, 31, 32]), (6, [13, 14, 22, 23, 31, 32]), (13, [22, 23, 31, 32]), (14, [22, 23, 31, 32]), (22, [31, 32]), (23, [31, 32])] S [[], [], [], [], [], p128.2.log, p129.2.log, [], [], [], [], [], [], p136.2.log, p137.2.log, [], [], [], [], [], [], [], p145.2.log, p146.2.log, [], [], [], [], [], [], [], p154.2.log, p155.2.log, [], [], p158.2.log] p158.2 fun S159 =>
(qa4 E0 .add 3 false true v15 (.int .i64 1)).bind fun t160 =>
qgc self N nk ek n v1 v2 v3 v6 v7 v8 t160 S159) (
(qa4 E0 .sub 3 false true v15 (.int .i64 16)).bind fun t164 =>
(ixA 64 1 false 1 v8 t164).bind fun t165 =>
(ld1 t165 (onS S)).bind fun p166 =>
(qa4 E0 .sub 3 false true v15 (.int .i64 15)).bind fun t169 =>
(ixA 64 1 false 1 v8 t169).bind fun t170 =>
(ld1 t170 (onS p166.2)).bind fun p171 =>
(bsP 3 1 2 (Ev.one (.int .i64 0)) [(0, (.int .i64 7)), (1, (.int .i64 18))] (onS p171.2)).bind fun p172 =>
qjr (qat E0 (B54.r.r.r.l.r.l.l.r.r.l.l.r.r).ops) S 11 [[], [], [], [], p166.2.log, [], [], [], [], p171.2.log, p172.2.log] (qdl E0 self v7 [p171.1, p172.1] (onS p172.2)) fun t173 S173 =>
(qa4 E0 .sub 3 false true v15 (.int .i64 15)).bind fun t175 =>
(ixA 64 1 false 1 v8 t175).bind fun t176 =>
(ld1 t176 (onS S173)).bind fun p177 =>
(qa4 E0 .shr 70 false true p177.1 (.int .u64 3)).bind fun t178 =>
(qa4 E0 .xor 70 false false t173 t178).bind fun t179 =>
(qa4 E0 .add 70 false false p166.1 t179).bind fun t180 =>
(qa4 E0 .sub 3 false true v15 (.int .i64 7)).bind fun t182 =>
(ixA 64 1 false 1 v8 t182).bind fun t183 =>
(ld1 t183 (onS p177.2)).bind fun p184 =>
(qa4 E0 .add 70 false false t180 p184.1).bind fun t185 =>
(qa4 E0 .sub 3 false true v15 (.int .i64 2)).bind fun t188 =>
(ixA 64 1 false 1 v8 t188).bind fun t189 =>
(ld1 t189 (onS p184.2)).bind fun p190 =>
(bsP 3 1 2 (Ev.one (.int .i64 0)) [(0, (.int .i64 17)), (1, (.int .i64 19))] (onS p190.2)).bind fun p191 =>
qjr (qat E0 (B54.r.r.r.l.r.l.l.r.r.l.l.r.r).ops) S 30 [[], [], [], [], p166.2.log, [], [], [], [], p171.2.log, p172.2.log, S173.log, [], [], [], p177.2.log, [], [], [], [], [], [], p184.2.log, [], [], [], [], [], p190.2.log, p191.2.log] (qdl E0 self v7 [p190.1, p191.1] (onS p191.2)) fun t192 S192 =>
(qa4 E0 .sub 3 false true v15 (.int .i64 2)).bind fun t194 =>
(ixA 64 1 false 1 v8 t194).bind fun t195 =>
(ld1 t195 (onS S192)).bind fun p196 =>
(qa4 E0 .shr 70 false true p196.1 (.int .u64 10)).bind fun t197 =>
(qa4 E0 .xor 70 false false t192 t197).bind fun t198 =>
(qa4 E0 .add 70 false false t185 t198).bind fun t199 =>
(ixA 64 1 false 1 v8 v15).bind fun t200 =>
(stP 1 t200 t199 (onS p196.2)).bind fun p201 =>
qm8 [(4, [9, 10, 11, 15, 22, 28, 29, 30, 34]), (9, [10, 15, 22, 28, 29, 34]), (10, [15, 22, 28, 29, 34]), (11, [15, 22, 28, 29, 34]), (15, [22, 28, 29, 30, 34]), (22, [28, 29, 30, 34]), (28, [29, 34]), (29, [34]), (30, [34])] S [[], [], [], [], p166.2.log, [], [], [], [], p171.2.log, p172.2.log, S173.log, [], [], [], p177.2.log, [], [], [], [], [], [], p184.2.log, [], [], [], [], [], p190.2.log, p191.2.log, S192.log, [], [], [], p196.2.log, [], [], [], [], p201.2.log] p201.2 fun S202 =>
(qa4 E0 .add 3 false true v15 (.int .i64 1)).bind fun t203 =>
qgc self N nk ek n v1 v2 v3 v6 v7 v8 t203 S202)) (
ek 0 (fr 187 [(2, v2), (3, v3), (6, v6), (7, v7), (8, v8)]) S) := by kernel_rfl
noncomputable def F54 (self : EV) (N : Nat) (x0 x1 x2 : V) (S : St) : Rs := qbu E0 self N Try.f54 B54 [x0, x1, x2] S
theorem F54_eq (self : EV) (N : Nat) (x0 x1 x2 : V) (S : St) : F54 self N x0 x1 x2 S =
(qm6 72 x0 S).bind fun p0 =>
(some (nwP 72 8 (Tr.ofListFrom .nil [(.int .u32 0), (.int .u32 0), (.int .u32 0), (.int .u32 0), (.int .u32 0), (.int .u32 0), (.int .u32 0), (.int .u32 0)] 0) p0.2)).bind fun p1 =>
(some (nwP 73 64 (Tr.ofListFrom .nil [(.int .u32 0), (.int .u32 0), (.int .u32 0), (.int .u32 0), (.int .u32 0), (.int .u32 0), (.int .u32 0), (.int .u32 0), (.int .u32 0), (.int .u32 0), (.int .u32 0), (.int .u32 0), (.int .u32 0), (.int .u32 0), (.int .u32 0), (.int .u32 0), (.int .u32 0), (.int .u32 0), (.int .u32 0), (.int .u32 0), (.int .u32 0), (.int .u32 0), (.int .u32 0), (.int .u32 0), (.int .u32 0), (.int .u32 0), (.int .u32 0), (.int .u32 0), (.int .u32 0), (.int .u32 0), (.int .u32 0), (.int .u32 0), (.int .u32 0), (.int .u32 0), (.int .u32 0), (.int .u32 0), (.int .u32 0), (.int .u32 0), (.int .u32 0), (.int .u32 0), (.int .u32 0), (.int .u32 0), (.int .u32 0), (.int .u32 0), (.int .u32 0), (.int .u32 0), (.int .u32 0), (.int .u32 0), (.int .u32 0), (.int .u32 0), (.int .u32 0), (.int .u32 0), (.int .u32 0), (.int .u32 0), (.int .u32 0), (.int .u32 0), (.int .u32 0), (.int .u32 0), (.int .u32 0), (.int .u32 0), (.int .u32 0), (.int .u32 0), (.int .u32 0), (.int .u32 0)] 0) p1.2)).bind fun p3 =>
qgc self N (R54_4 self N (qak E0 self Try.f54) qa9) (exB 0 (R54_4 self N (qak E0 self Try.f54) qa9) qa9) N x1 x2 p0.1 p1.1 (.fn (.func 84) [] []) p3.1 (.int .i64 0) p3.2 := by kernel_rfl
end
noncomputable section
noncomputable def C27 : Code := Try.f27.body.getD .skip
noncomputable def B27 : D := (qas C27 [[], [], [], [0, 3], [2], [], [], [6, 19, 20], [], [6], [], [], [], [0, 6], [2], []]).1
noncomputable def RL27 : List Nat := cellsOf Try.f27.results.toList
noncomputable def R27_9 (self : EV) (N : Nat) (nk : Ac->St->Rs) (ek : Nat->Ac->St->Rs) (a : Ac) (S : St) : Rs := qaa [3] a fun a => dr E0 self RL27 N (B27.r.r).r (mkK E0 self Try.f27 nk ek) a S
noncomputable def R27_11 (self : EV) (N : Nat) (nk : Ac->St->Rs) (ek : Nat->Ac->St->Rs) (a : Ac) (S : St) : Rs := qaa [6] a fun a => dr E0 self RL27 N (B27.r.r.r.l.r).r (mkK E0 self Try.f27 nk ek) a S
theorem R27_11_eq (self : EV) (N : Nat) (nk : Ac->St->Rs) (ek : Nat->Ac->St->Rs) (ds : List AD) ( v6 : V) (S : St) : R27_11 self N nk ek (frD 40 [(6, v6)] ds) S =
(qaz E0 34 9 v6 S).bind fun p13 =>
finR E0 self Try.f27 (frD 40 [(2, p13.1), (6, v6), (38, v6), (39, p13.1)] ds) p13.2 := by kernel_rfl
noncomputable def L27_17 (self : EV) (N : Nat) (nk : Ac->St->Rs) (ek : Nat->Ac->St->Rs) (n : Nat) (ds : List AD) ( v6 v19 v20 : V) (S : St) : Rs := qbf [6, 19, 20] (dr E0 self RL27 N (B27.r.r.r.l.r.l.r.l.l)) (mkK E0 self Try.f27 nk ek) n (frD 40 [(6, v6), (19, v19), (20, v20)] ds) S
theorem L27_17_eq (self : EV) (N : Nat) (nk : Ac->St->Rs) (ek : Nat->Ac->St->Rs) (n : Nat) (ds : List AD) ( v6 v19 v20 : V) (S : St) : L27_17 self N nk ek (n + 1) ds v6 v19 v20 S =
(qa4 E0 .lss 3 false true v20 (.int .i64 8)).bind fun t18 =>
ifK t18 (
(ixV 8 1 false 1 v19 v20).bind fun t19 =>
(qa4 E0 .shr 70 false true t19 (.int .u64 24)).bind fun t23 =>
(cvI .u8 t23 S).bind fun p24 =>
(qa4 E0 .shr 70 false true t19 (.int .u64 16)).bind fun t26 =>
(cvI .u8 t26 p24.2).bind fun p27 =>
(qa4 E0 .shr 70 false true t19 (.int .u64 8)).bind fun t29 =>
(cvI .u8 t29 p27.2).bind fun p30 =>
(cvI .u8 t19 p30.2).bind fun p32 =>
(bsP 5 1 4 (Ev.one (.int .u8 0)) [(0, p24.1), (1, p27.1), (2, p30.1), (3, p32.1)] p32.2).bind fun p33 =>
(apP 5 1 1 v6 p33.1 p33.2).bind fun p34 =>
(qa4 E0 .add 3 false true v20 (.int .i64 1)).bind fun t36 =>
L27_17 self N nk ek n ds p34.1 v19 t36 p34.2) (
ek 2 (frD 40 [(6, v6)] ds) S) := by kernel_rfl
theorem R27_9_eq (self : EV) (N : Nat) (nk : Ac->St->Rs) (ek : Nat->Ac->St->Rs) (ds : List AD) ( v3 : V) (S : St) : R27_9 self N nk ek (frD 40 [(3, v3)] ds) S =
(ldA 8 v3 S).bind fun p15 =>
L27_17 self N (R27_11 self N (fun a s => qaa [2] a fun a => nk a s) ek) (exB 2 (R27_11 self N (fun a s => qaa [2] a fun a => nk a s) ek) ek) N ds .nilslice p15.1 (.int .i64 0) p15.2 := by kernel_rfl
noncomputable def YA27_40 : Code := (B27.r.r.l.r.l).as
noncomputable def YB27_40 : Code := (B27.r.r.l.r.l).bd
noncomputable def DA27_40 : D := (qas YA27_40 []).1
noncomputable def DB27_40 : D := (qas YB27_40 []).1
noncomputable def qd2 (st : Nat) (pend : Option Code) ( v3 v4 : V) : O := .loop st pend (frT [(3, v3), (4, v4)] .nil) 40 [15] YA27_40 YB27_40
noncomputable def Y27_40 (self : EV) (N : Nat) (l : Nat) ( v3 v4 : V) ( w15 : V) (S : St) : Rs := roundK E0 self N DA27_40 DB27_40 l (frT [(3, v3), (4, v4)] .nil) 40 [15] [w15] S
theorem Y27_40_eq (self : EV) (N : Nat) (l : Nat) ( v3 v4 : V) ( w15 : V) (S : St) : Y27_40 self N l v3 v4 w15 S =
midR l (frR 40 [(3, v3), (4, v4), (5, w15), (15, w15)] l) S fun S41 =>
(ldA 8 v3 S41).bind fun p43 =>
callE (self.f 54 [p43.1, w15, v4] p43.2) fun t45 S45 =>
(stP 8 v3 t45 S45).bind fun p46 =>
endRound l 0 none true p46.2 := by kernel_rfl
noncomputable def F27 (self : EV) (N : Nat) (x0 : V) (S : St) : Rs := qbu E0 self N Try.f27 B27 [x0] S
theorem F27_eq (self : EV) (N : Nat) (x0 : V) (S : St) : F27 self N x0 S =
qnq E0 self Try.f27 (frD 40 [(0, x0), (2, (sv []))] []) (self.f 52 [] S) fun t1 S1 =>
(qac t1 0).bind fun t3 =>
(qac t1 1).bind fun t4 =>
(some (nwP 72 8 (Tr.ofListFrom .nil [(.int .u32 0), (.int .u32 0), (.int .u32 0), (.int .u32 0), (.int .u32 0), (.int .u32 0), (.int .u32 0), (.int .u32 0)] 0) S1)).bind fun p5 =>
(some (nwP 73 64 (Tr.ofListFrom .nil [(.int .u32 0), (.int .u32 0), (.int .u32 0), (.int .u32 0), (.int .u32 0), (.int .u32 0), (.int .u32 0), (.int .u32 0), (.int .u32 0), (.int .u32 0), (.int .u32 0), (.int .u32 0), (.int .u32 0), (.int .u32 0), (.int .u32 0), (.int .u32 0), (.int .u32 0), (.int .u32 0), (.int .u32 0), (.int .u32 0), (.int .u32 0), (.int .u32 0), (.int .u32 0), (.int .u32 0), (.int .u32 0), (.int .u32 0), (.int .u32 0), (.int .u32 0), (.int .u32 0), (.int .u32 0), (.int .u32 0), (.int .u32 0), (.int .u32 0), (.int .u32 0), (.int .u32 0), (.int .u32 0), (.int .u32 0), (.int .u32 0), (.int .u32 0), (.int .u32 0), (.int .u32 0), (.int .u32 0), (.int .u32 0), (.int .u32 0), (.int .u32 0), (.int .u32 0), (.int .u32 0), (.int .u32 0), (.int .u32 0), (.int .u32 0), (.int .u32 0), (.int .u32 0), (.int .u32 0), (.int .u32 0), (.int .u32 0), (.int .u32 0), (.int .u32 0), (.int .u32 0), (.int .u32 0), (.int .u32 0), (.int .u32 0), (.int .u32 0), (.int .u32 0), (.int .u32 0)] 0) p5.2)).bind fun p6 =>
(stP 8 p5.1 t3 p6.2).bind fun p7 =>
(stP 64 p6.1 t4 p7.2).bind fun p8 =>
qnq E0 self Try.f27 (frD 40 [(0, x0), (2, (sv [])), (3, p5.1), (4, p6.1), (9, t1), (10, t1), (11, t3), (12, t4), (13, x0)] []) (self.f 53 [x0] p8.2) fun t39 S39 =>
rangeP E0 self t39 (qd2 0 none p5.1 p6.1) S39 (fun S47 =>
R27_9 self N (qak E0 self Try.f27) qa9 (frD 40 [(3, p5.1)] (mkR S39.next :: [])) S47) (fun s => finR E0 self Try.f27 (frD 40 [(0, x0), (2, (sv [])), (3, p5.1), (4, p6.1), (9, t1), (10, t1), (11, t3), (12, t4), (13, x0), (14, t39)] (mkR S39.next :: [])) s) (fun i s => (exB 0 (R27_9 self N (qak E0 self Try.f27) qa9) qa9) i (frD 40 [(0, x0), (2, (sv [])), (3, p5.1), (4, p6.1), (9, t1), (10, t1), (11, t3), (12, t4), (13, x0), (14, t39)] (mkR S39.next :: [])) s) (fun v s => qbi E0 self Try.f27 (frD 40 [(0, x0), (2, (sv [])), (3, p5.1), (4, p6.1), (9, t1), (10, t1), (11, t3), (12, t4), (13, x0), (14, t39)] (mkR S39.next :: [])) (mkR S39.next :: []) (.pan v) s) := by kernel_rfl
noncomputable def C53 : Code := Try.f53.body.getD .skip
noncomputable def B53 : D := (qas C53 [[], []]).1
noncomputable def F53 (self : EV) (N : Nat) (x0 : V) (S : St) : Rs := qbu E0 self N Try.f53 B53 [x0] S
theorem F53_eq (self : EV) (N : Nat) (x0 : V) (S : St) : F53 self N x0 S =
(qm6 9 x0 S).bind fun p0 =>
some (.ret (.fn (.func 83) [] [p0.1]), p0.2) := by kernel_rfl
noncomputable def C83 : Code := Try.f83.body.getD .skip
noncomputable def B83 : D := (qas C83 [[], [0, 1, 3], [], [0, 1, 3], [], [0, 0, 1, 3], [], [], [0, 1, 3, 16], [], [0, 3], [], [], [], [0, 0, 3], [], [0, 3], [], [], [], [], []]).1
noncomputable def RL83 : List Nat := cellsOf Try.f83.results.toList
noncomputable def R83_5 (self : EV) (N : Nat) (nk : Ac->St->Rs) (ek : Nat->Ac->St->Rs) (a : Ac) (S : St) : Rs := qaa [0, 1, 3] a fun a => dr E0 self RL83 N (B83.r).r (mkK E0 self Try.f83 nk ek) a S
noncomputable def R83_6 (self : EV) (N : Nat) (nk : Ac->St->Rs) (ek : Nat->Ac->St->Rs) (a : Ac) (S : St) : Rs := qaa [0, 3] a fun a => dr E0 self RL83 N (B83.r.r.l).r (mkK E0 self Try.f83 nk ek) a S
noncomputable def L83_7 (self : EV) (N : Nat) (nk : Ac->St->Rs) (ek : Nat->Ac->St->Rs) (n : Nat) ( v0 v3 : V) (S : St) : Rs := qbf [0, 3] (dr E0 self RL83 N (B83.r.r.l.r.l.l.l)) (mkK E0 self Try.f83 nk ek) n (fr 42 [(0, v0), (3, v3)]) S
theorem L83_7_eq (self : EV) (N : Nat) (nk : Ac->St->Rs) (ek : Nat->Ac->St->Rs) (n : Nat) ( v0 v3 : V) (S : St) : L83_7 self N nk ek (n + 1) v0 v3 S =
(lnS v3 S).bind fun p9 =>
(qa4 E0 .gtr 3 false true p9.1 (.int .i64 0)).bind fun t10 =>
ifK t10 (
(qbl E0 34 v3 none (some (.int .i64 64)) none p9.2).bind fun p13 =>
qax (qdl E0 self v0 [p13.1] p13.2) fun t14 S14 =>
(unV .not t14).bind fun t15 =>
ifK t15 (
some (.ret (.tuple []), S14)) (
(qbl E0 34 v3 (some (.int .i64 64)) none none S14).bind fun p17 =>
L83_7 self N nk ek n v0 p17.1 p17.2)) (
ek 4 (fr 42 []) p9.2) := by kernel_rfl
theorem R83_6_eq (self : EV) (N : Nat) (nk : Ac->St->Rs) (ek : Nat->Ac->St->Rs) ( v0 v3 : V) (S : St) : R83_6 self N nk ek (fr 42 [(0, v0), (3, v3)]) S =
L83_7 self N (fun a s => qaa [] a fun a => nk a s) (exB 4 (fun a s => qaa [] a fun a => nk a s) ek) N v0 v3 S := by kernel_rfl
noncomputable def L83_20 (self : EV) (N : Nat) (nk : Ac->St->Rs) (ek : Nat->Ac->St->Rs) (n : Nat) ( v0 v1 v3 v16 : V) (S : St) : Rs := qbf [0, 1, 3, 16] (dr E0 self RL83 N (B83.r.r.l.l.r.l.l)) (mkK E0 self Try.f83 nk ek) n (fr 42 [(0, v0), (1, v1), (3, v3), (16, v16)]) S
theorem L83_20_eq (self : EV) (N : Nat) (nk : Ac->St->Rs) (ek : Nat->Ac->St->Rs) (n : Nat) ( v0 v1 v3 v16 : V) (S : St) : L83_20 self N nk ek (n + 1) v0 v1 v3 v16 S =
(qa4 E0 .lss 3 false true v16 (.int .i64 8)).bind fun t21 =>
ifK t21 (
(ld1 v1 S).bind fun p25 =>
(qd1 p25.1 p25.2).bind fun p26 =>
(cvI .u64 p26.1 p26.2).bind fun p27 =>
(qa4 E0 .mul 96 false true p27.1 (.int .u64 8)).bind fun t28 =>
(qa4 E0 .sub 3 true false (.int .i64 7) v16).bind fun t30 =>
(qa4 E0 .mul 3 true false (.int .i64 8) t30).bind fun t31 =>
(qa4 E0 .shr 96 false false t28 t31).bind fun t32 =>
(cvI .u8 t32 p27.2).bind fun p33 =>
(bsP 5 1 1 (Ev.one (.int .u8 0)) [(0, p33.1)] p33.2).bind fun p34 =>
(apP 5 1 1 v3 p34.1 p34.2).bind fun p35 =>
(qa4 E0 .add 3 false true v16 (.int .i64 1)).bind fun t37 =>
L83_20 self N nk ek n v0 v1 p35.1 t37 p35.2) (
ek 2 (fr 42 [(0, v0), (3, v3)]) S) := by kernel_rfl
theorem R83_5_eq (self : EV) (N : Nat) (nk : Ac->St->Rs) (ek : Nat->Ac->St->Rs) ( v0 v1 v3 : V) (S : St) : R83_5 self N nk ek (fr 42 [(0, v0), (1, v1), (3, v3)]) S =
L83_20 self N (R83_6 self N (fun a s => qaa [] a fun a => nk a s) ek) (exB 2 (R83_6 self N (fun a s => qaa [] a fun a => nk a s) ek) ek) N v0 v1 v3 (.int .i64 0) S := by kernel_rfl
noncomputable def L83_39 (self : EV) (N : Nat) (nk : Ac->St->Rs) (ek : Nat->Ac->St->Rs) (n : Nat) ( v0 v1 v3 : V) (S : St) : Rs := qbf [0, 1, 3] (dr E0 self RL83 N (B83.r.l.l.l)) (mkK E0 self Try.f83 nk ek) n (fr 42 [(0, v0), (1, v1), (3, v3)]) S
theorem L83_39_eq (self : EV) (N : Nat) (nk : Ac->St->Rs) (ek : Nat->Ac->St->Rs) (n : Nat) ( v0 v1 v3 : V) (S : St) : L83_39 self N nk ek (n + 1) v0 v1 v3 S =
(lnS v3 S).bind fun p41 =>
(qa4 E0 .rem 3 false true p41.1 (.int .i64 64)).bind fun t42 =>
(qa4 E0 .neq 3 false true t42 (.int .i64 56)).bind fun t43 =>
ifK t43 (
(bsP 5 1 1 (Ev.one (.int .u8 0)) [(0, (.int .u8 0))] p41.2).bind fun p45 =>
(apP 5 1 1 v3 p45.1 p45.2).bind fun p46 =>
L83_39 self N nk ek n v0 v1 p46.1 p46.2) (
ek 0 (fr 42 [(0, v0), (1, v1), (3, v3)]) p41.2) := by kernel_rfl
noncomputable def F83 (self : EV) (N : Nat) (x0 x1 : V) (S : St) : Rs := qbu E0 self N Try.f83 B83 [x0, x1] S
theorem F83_eq (self : EV) (N : Nat) (x0 x1 : V) (S : St) : F83 self N x0 x1 S =
(ld1 x1 S).bind fun p0 =>
(qaz E0 9 34 p0.1 p0.2).bind fun p1 =>
(bsP 5 1 1 (Ev.one (.int .u8 0)) [(0, (.int .u8 128))] p1.2).bind fun p2 =>
(apP 5 1 1 p1.1 p2.1 p2.2).bind fun p3 =>
L83_39 self N (R83_5 self N (qak E0 self Try.f83) qa9) (exB 0 (R83_5 self N (qak E0 self Try.f83) qa9) qa9) N x0 x1 p3.1 p3.2 := by kernel_rfl
end
end Go.Proofs.Ytmeohejdafbodaa.W
