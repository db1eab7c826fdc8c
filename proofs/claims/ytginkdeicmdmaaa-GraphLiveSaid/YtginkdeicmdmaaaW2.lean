/-
  WHAT THE FUNCTIONS COME TO: each is read by the evaluator, printed, and told as a function of data, part 2 of 5 (no condition).
-/
import Derived.Test.YtginkdeicmdmaaaW1
import Derived.Test.YtginkdeicmdmaaaProg
import Derived.KernelRfl
import Derived.Test.YtginkdeicmdmaaaShelf
namespace Go.Proofs.Ytginkdeicmdmaaa.W
open Go.Proofs.Ytginkdeicmdmaaa.Ev
set_option maxRecDepth 100000
noncomputable section
noncomputable def C8 : Code := Try.f8.body.getD .skip
noncomputable def B8 : D := (annot C8 [[], [], [], [], [0, 1, 5, 6, 7], [], [5], [], [], [], [0, 1, 5, 6, 7, 8, 9], [], [0, 1, 5, 6, 7, 8], [], [], [], [0, 0, 1, 5, 6, 7, 8], [0, 1, 5, 6, 7], [0, 0, 1, 5, 6, 7], [0, 1, 5, 6, 7], [0, 5], [4], []]).1
noncomputable def RL8 : List Nat := cellsOf Try.f8.results.toList
noncomputable def R8_6 (self : EV) (N : Nat) (nk : Ac → St → Rs) (ek : Nat → Ac → St → Rs) (a : Ac) (S : St) : Rs := projK [5] a fun a => dr E0 self RL8 N (B8.r.r.r).r (mkK E0 self Try.f8 nk ek) a S
theorem R8_6_eq (self : EV) (N : Nat) (nk : Ac → St → Rs) (ek : Nat → Ac → St → Rs) ( v5 : V) (S : St) : R8_6 self N nk ek (fr 61 [(5, v5)]) S =
some (.ret v5, S) := by kernel_rfl
noncomputable def N8_10 (self : EV) (N : Nat) (nk : Ac → St → Rs) (ek : Nat → Ac → St → Rs) (n : Nat) : Ac → St → Rs := fun a S => projK [0, 1, 5, 6, 7] a fun a => loopK [0, 1, 5, 6, 7] (dr E0 self RL8 N (B8.r.r.r.l.r.l.l)) (mkK E0 self Try.f8 nk ek) n a S
noncomputable def L8_10 (self : EV) (N : Nat) (nk : Ac → St → Rs) (ek : Nat → Ac → St → Rs) (n : Nat) ( v0 v1 v5 v6 v7 : V) (S : St) : Rs := loopK [0, 1, 5, 6, 7] (dr E0 self RL8 N (B8.r.r.r.l.r.l.l)) (mkK E0 self Try.f8 nk ek) n (fr 61 [(0, v0), (1, v1), (5, v5), (6, v6), (7, v7)]) S
noncomputable def R8_14 (self : EV) (N : Nat) (nk : Ac → St → Rs) (ek : Nat → Ac → St → Rs) (a : Ac) (S : St) : Rs := projK [0, 1, 5, 6, 7] a fun a => dr E0 self RL8 N (B8.r.r.r.l.r.l.l.r).r (mkK E0 self Try.f8 nk ek) a S
theorem R8_14_eq (self : EV) (N : Nat) (nk : Ac → St → Rs) (ek : Nat → Ac → St → Rs) ( v0 v1 v5 v6 v7 : V) (S : St) : R8_14 self N nk ek (fr 61 [(0, v0), (1, v1), (5, v5), (6, v6), (7, v7)]) S =
(binV E0 .add 3 false true v7 (.int .i64 1)).bind fun t16 =>
nk (fr 61 [(0, v0), (1, v1), (5, v5), (6, v6), (7, t16)]) S := by kernel_rfl
noncomputable def R8_26 (self : EV) (N : Nat) (nk : Ac → St → Rs) (ek : Nat → Ac → St → Rs) (a : Ac) (S : St) : Rs := projK [0, 1, 5, 6, 7, 8] a fun a => dr E0 self RL8 N (B8.r.r.r.l.r.l.l.r.l.l.r).r (mkK E0 self Try.f8 nk ek) a S
theorem R8_26_eq (self : EV) (N : Nat) (nk : Ac → St → Rs) (ek : Nat → Ac → St → Rs) ( v0 v1 v5 v6 v7 v8 : V) (S : St) : R8_26 self N nk ek (fr 61 [(0, v0), (1, v1), (5, v5), (6, v6), (7, v7), (8, v8)]) S =
(ldA 4 v8 S).bind fun p28 =>
(bsP 28 4 1 (Tr.ofListFrom .nil [(sv []), .nilslice, (sv []), (sv [])] 0) [(0, p28.1)] p28.2).bind fun p29 =>
(apP 28 4 72 v5 p29.1 p29.2).bind fun p30 =>
nk (fr 61 [(0, v0), (1, v1), (5, p30.1), (6, v6), (7, v7)]) p30.2 := by kernel_rfl
noncomputable def L8_33 (self : EV) (N : Nat) (nk : Ac → St → Rs) (ek : Nat → Ac → St → Rs) (n : Nat) ( v0 v1 v5 v6 v7 v8 v9 : V) (S : St) : Rs := loopK [0, 1, 5, 6, 7, 8, 9] (dr E0 self RL8 N (B8.r.r.r.l.r.l.l.r.l.l.r.l.r.l.l)) (mkK E0 self Try.f8 nk ek) n (fr 61 [(0, v0), (1, v1), (5, v5), (6, v6), (7, v7), (8, v8), (9, v9)]) S
theorem L8_33_eq (self : EV) (N : Nat) (nk : Ac → St → Rs) (ek : Nat → Ac → St → Rs) (n : Nat) ( v0 v1 v5 v6 v7 v8 v9 : V) (S : St) : L8_33 self N nk ek (n + 1) v0 v1 v5 v6 v7 v8 v9 S =
(binV E0 .lss 3 false false v9 v6).bind fun t36 =>
(guardV true t36).bind fun g38 => (bif g38 then some v1 else some (.tuple [])).bind fun t38 =>
(guardV true t36).bind fun g39 => (bif g39 then unV .not t38 else some (.tuple [])).bind fun t39 =>
(guardV true t36).bind fun g40 => (bif g40 then some t39 else some (.tuple [])).bind fun t40 =>
(guardV false t40).bind fun g41 => (bif g41 then some v9 else some (.tuple [])).bind fun t41 =>
(guardV false t40).bind fun g42 => (bif g42 then some v7 else some (.tuple [])).bind fun t42 =>
(guardV false t40).bind fun g43 => (bif g43 then binV E0 .leq 3 false false t41 t42 else some (.tuple [])).bind fun t43 =>
(guardV true t36).bind fun g44 => (bif g44 then pickV t40 (some (.bool true)) (some t43) else some (.tuple [])).bind fun t44 =>
(pickV t36 (some t44) (some (.bool false))).bind fun t45 =>
ifK t45 (
(ixP 1 v0 v7).bind fun t48 =>
(ld1 t48 S).bind fun p49 =>
(binV E0 .shr 23 false false p49.1 v9).bind fun t51 =>
(binV E0 .rem 23 false true t51 (.int .u16 2)).bind fun t52 =>
(binV E0 .eql 23 false true t52 (.int .u16 1)).bind fun t53 =>
ifK t53 (
(faP 1 false 1 v8).bind fun t54 =>
(ld1 t54 p49.2).bind fun p55 =>
(cvI .u8 v9 p55.2).bind fun p57 =>
(binV E0 .add 5 true false (.int .u8 97) p57.1).bind fun t58 =>
(bsP 5 1 1 (Go.Proofs.Ytginkdeicmdmaaa.Ev.one (.int .u8 0)) [(0, t58)] p57.2).bind fun p59 =>
(convertV E0 44 9 p59.1 p59.2).bind fun p60 =>
(bsP 9 1 1 (Go.Proofs.Ytginkdeicmdmaaa.Ev.one (sv [])) [(0, p60.1)] p60.2).bind fun p61 =>
(apP 9 1 16 p55.1 p61.1 p61.2).bind fun p62 =>
(faP 1 false 1 v8).bind fun t63 =>
(stP 1 t63 p62.1 p62.2).bind fun p64 =>
(binV E0 .add 3 false true v9 (.int .i64 1)).bind fun t66 =>
L8_33 self N nk ek n v0 v1 v5 v6 v7 v8 t66 p64.2) (
(binV E0 .add 3 false true v9 (.int .i64 1)).bind fun t69 =>
L8_33 self N nk ek n v0 v1 v5 v6 v7 v8 t69 p49.2)) (
ek 2 (fr 61 [(0, v0), (1, v1), (5, v5), (6, v6), (7, v7), (8, v8)]) S) := by kernel_rfl
theorem L8_10_eq (self : EV) (N : Nat) (nk : Ac → St → Rs) (ek : Nat → Ac → St → Rs) (n : Nat) ( v0 v1 v5 v6 v7 : V) (S : St) : L8_10 self N nk ek (n + 1) v0 v1 v5 v6 v7 S =
(binV E0 .lss 3 false false v7 v6).bind fun t13 =>
ifK t13 (
(cvI .u8 v7 S).bind fun p19 =>
(binV E0 .add 5 true false (.int .u8 97) p19.1).bind fun t20 =>
(bsP 5 1 1 (Go.Proofs.Ytginkdeicmdmaaa.Ev.one (.int .u8 0)) [(0, t20)] p19.2).bind fun p21 =>
(convertV E0 44 9 p21.1 p21.2).bind fun p22 =>
(buildV E0 28 [(0, p22.1)]).bind fun t23 =>
(some (nwP 28 4 (Tr.ofListFrom .nil [(sv []), .nilslice, (sv []), (sv [])] 0) p22.2)).bind fun p24 =>
(stP 4 p24.1 t23 p24.2).bind fun p25 =>
L8_33 self N (R8_26 self N (R8_14 self N (N8_10 self N nk ek n) ek) (exB 1 (R8_14 self N (N8_10 self N nk ek n) ek) ek)) (exB 2 (R8_26 self N (R8_14 self N (N8_10 self N nk ek n) ek) (exB 1 (R8_14 self N (N8_10 self N nk ek n) ek) ek)) (exB 1 (R8_14 self N (N8_10 self N nk ek n) ek) ek)) N v0 v1 v5 v6 v7 p24.1 (.int .i64 0) p25.2) (
ek 0 (fr 61 [(5, v5)]) S) := by kernel_rfl
theorem N8_10_eq (self : EV) (N : Nat) (nk : Ac → St → Rs) (ek : Nat → Ac → St → Rs) (n : Nat) ( v0 v1 v5 v6 v7 : V) (S : St) : N8_10 self N nk ek n (fr 61 [(0, v0), (1, v1), (5, v5), (6, v6), (7, v7)]) S = L8_10 self N nk ek n v0 v1 v5 v6 v7 S := by kernel_rfl
noncomputable def F8 (self : EV) (N : Nat) (x0 x1 : V) (S : St) : Rs := runF E0 self N Try.f8 B8 [x0, x1] S
theorem F8_eq (self : EV) (N : Nat) (x0 x1 : V) (S : St) : F8 self N x0 x1 S =
(lnS x0 S).bind fun p3 =>
(foldK minV p3.1 [(.int .i64 14)] p3.2).bind fun p4 =>
L8_10 self N (R8_6 self N (finN E0 self Try.f8) noEx) (exB 0 (R8_6 self N (finN E0 self Try.f8) noEx) noEx) N x0 x1 .nilslice p4.1 (.int .i64 0) p4.2 := by kernel_rfl
noncomputable def C11 : Code := Try.f11.body.getD .skip
noncomputable def B11 : D := (annot C11 [[], [], [], [0, 3, 4], [], [3], [], [], [0, 3], [2], []]).1
noncomputable def RL11 : List Nat := cellsOf Try.f11.results.toList
noncomputable def R11_2 (self : EV) (N : Nat) (nk : Ac → St → Rs) (ek : Nat → Ac → St → Rs) (a : Ac) (S : St) : Rs := projK [3] a fun a => dr E0 self RL11 N (B11.r.r).r (mkK E0 self Try.f11 nk ek) a S
theorem R11_2_eq (self : EV) (N : Nat) (nk : Ac → St → Rs) (ek : Nat → Ac → St → Rs) ( v3 : V) (S : St) : R11_2 self N nk ek (fr 19 [(3, v3)]) S =
some (.ret v3, S) := by kernel_rfl
noncomputable def L11_6 (self : EV) (N : Nat) (nk : Ac → St → Rs) (ek : Nat → Ac → St → Rs) (n : Nat) ( v0 v3 v4 : V) (S : St) : Rs := loopK [0, 3, 4] (dr E0 self RL11 N (B11.r.r.l.r.l.l)) (mkK E0 self Try.f11 nk ek) n (fr 19 [(0, v0), (3, v3), (4, v4)]) S
theorem L11_6_eq (self : EV) (N : Nat) (nk : Ac → St → Rs) (ek : Nat → Ac → St → Rs) (n : Nat) ( v0 v3 v4 : V) (S : St) : L11_6 self N nk ek (n + 1) v0 v3 v4 S =
(lnS v0 S).bind fun p9 =>
(binV E0 .lss 3 false false v4 p9.1).bind fun t10 =>
ifK t10 (
(ixP 1 v0 v4).bind fun t14 =>
(ld1 t14 p9.2).bind fun p15 =>
(binV E0 .add 9 false false v3 p15.1).bind fun t16 =>
(binV E0 .add 9 false true t16 (sv [32])).bind fun t17 =>
(binV E0 .add 3 false true v4 (.int .i64 1)).bind fun t20 =>
L11_6 self N nk ek n v0 t17 t20 p15.2) (
ek 0 (fr 19 [(3, v3)]) p9.2) := by kernel_rfl
noncomputable def F11 (self : EV) (N : Nat) (x0 : V) (S : St) : Rs := runF E0 self N Try.f11 B11 [x0] S
theorem F11_eq (self : EV) (N : Nat) (x0 : V) (S : St) : F11 self N x0 S =
L11_6 self N (R11_2 self N (finN E0 self Try.f11) noEx) (exB 0 (R11_2 self N (finN E0 self Try.f11) noEx) noEx) N x0 (sv []) (.int .i64 0) S := by kernel_rfl
noncomputable def C13 : Code := Try.f13.body.getD .skip
noncomputable def B13 : D := (annot C13 [[], [], [0, 1, 5], [], [], [], [], [], [], [0], [4], []]).1
noncomputable def RL13 : List Nat := cellsOf Try.f13.results.toList
noncomputable def R13_1 (self : EV) (N : Nat) (nk : Ac → St → Rs) (ek : Nat → Ac → St → Rs) (a : Ac) (S : St) : Rs := projK [] a fun a => dr E0 self RL13 N (B13.r).r (mkK E0 self Try.f13 nk ek) a S
theorem R13_1_eq (self : EV) (N : Nat) (nk : Ac → St → Rs) (ek : Nat → Ac → St → Rs) (S : St) : R13_1 self N nk ek (fr 18 []) S =
some (.ret (.bool false), S) := by kernel_rfl
noncomputable def L13_4 (self : EV) (N : Nat) (nk : Ac → St → Rs) (ek : Nat → Ac → St → Rs) (n : Nat) ( v0 v1 v5 : V) (S : St) : Rs := loopK [0, 1, 5] (dr E0 self RL13 N (B13.r.l.r.l.l)) (mkK E0 self Try.f13 nk ek) n (fr 18 [(0, v0), (1, v1), (5, v5)]) S
theorem L13_4_eq (self : EV) (N : Nat) (nk : Ac → St → Rs) (ek : Nat → Ac → St → Rs) (n : Nat) ( v0 v1 v5 : V) (S : St) : L13_4 self N nk ek (n + 1) v0 v1 v5 S =
(lnS v0 S).bind fun p7 =>
(binV E0 .lss 3 false false v5 p7.1).bind fun t8 =>
ifK t8 (
(ixP 1 v0 v5).bind fun t11 =>
(ld1 t11 p7.2).bind fun p12 =>
(binV E0 .eql 9 false false p12.1 v1).bind fun t14 =>
ifK t14 (
some (.ret (.bool true), p12.2)) (
(binV E0 .add 3 false true v5 (.int .i64 1)).bind fun t17 =>
L13_4 self N nk ek n v0 v1 t17 p12.2)) (
ek 0 (fr 18 []) p7.2) := by kernel_rfl
noncomputable def F13 (self : EV) (N : Nat) (x0 x1 : V) (S : St) : Rs := runF E0 self N Try.f13 B13 [x0, x1] S
theorem F13_eq (self : EV) (N : Nat) (x0 x1 : V) (S : St) : F13 self N x0 x1 S =
L13_4 self N (R13_1 self N (finN E0 self Try.f13) noEx) (exB 0 (R13_1 self N (finN E0 self Try.f13) noEx) noEx) N x0 x1 (.int .i64 0) S := by kernel_rfl
end
end Go.Proofs.Ytginkdeicmdmaaa.W
namespace Go.Proofs.Ytginkdeicmdmaaa.W
open Go.Proofs.Ytginkdeicmdmaaa.Ev
set_option maxRecDepth 100000
noncomputable section
noncomputable def C3 : Code := Try.f3.body.getD .skip
noncomputable def B3 : D := (annot C3 [[], [], [], [], [1, 5, 6, 7], [], [5, 6], [], [], [], [0, 5, 6], [4], [], [], [], [], [], [], [5, 6, 8, 9, 10, 11], [], [6, 10], [], [], [], [], [5, 6, 8, 9, 10, 11, 12, 13, 14], [], [5, 6, 8, 9, 10, 11, 12, 13], [], [], [0, 5, 6, 8, 9, 10, 11, 12, 13], [5, 6, 8, 9, 10, 11], [], [], [], [], [5, 6, 8, 9, 10, 11, 12, 15], [], [5, 6, 8, 9, 10, 11, 12], [], [], [], [], [0, 5, 6, 8, 9, 10, 11, 12], [5, 6, 8, 9, 10, 11], [], [0, 5, 6, 8, 9, 10, 11], [5, 6, 8, 9, 10, 11], [0, 6, 10], [4], []]).1
noncomputable def RL3 : List Nat := cellsOf Try.f3.results.toList
noncomputable def R3_5 (self : EV) (N : Nat) (nk : Ac → St → Rs) (ek : Nat → Ac → St → Rs) (a : Ac) (S : St) : Rs := projK [5, 6] a fun a => dr E0 self RL3 N (B3.r.r.r).r (mkK E0 self Try.f3 nk ek) a S
noncomputable def R3_38 (self : EV) (N : Nat) (nk : Ac → St → Rs) (ek : Nat → Ac → St → Rs) (a : Ac) (S : St) : Rs := projK [6, 10] a fun a => dr E0 self RL3 N (B3.r.r.r.r.l.r.r.r).r (mkK E0 self Try.f3 nk ek) a S
theorem R3_38_eq (self : EV) (N : Nat) (nk : Ac → St → Rs) (ek : Nat → Ac → St → Rs) ( v6 v10 : V) (S : St) : R3_38 self N nk ek (fr 171 [(6, v6), (10, v10)]) S =
callP (self.f 12 [v10] S) fun t40 S40 =>
(guardV true t40).bind fun g42 => (bif g42 then some v10 else some (.tuple [])).bind fun t42 =>
(guardV true t40).bind fun g43 => (bif g43 then some v6 else some (.tuple [])).bind fun t43 =>
(guardV true t40).bind fun g44 => callP (bif g44 then self.f 10 [t42, t43] S40 else some (.ret (.tuple []), S40)) fun t44 S44 =>
(guardV true t40).bind fun g45 => (bif g45 then lnS t44 S44 else some (.tuple [], S44)).bind fun p45 =>
(guardV true t40).bind fun g46 => (bif g46 then binV E0 .eql 3 false true p45.1 (.int .i64 0) else some (.tuple [])).bind fun t46 =>
(pickV t40 (some t46) (some (.bool false))).bind fun t47 =>
(guardV true t47).bind fun g49 => callP (bif g49 then self.f 14 [] p45.2 else some (.ret (.tuple []), p45.2)) fun t49 S49 =>
(pickV t47 (some t49) (some (.bool false))).bind fun t50 =>
some (.ret t50, S49) := by kernel_rfl
noncomputable def N3_53 (self : EV) (N : Nat) (nk : Ac → St → Rs) (ek : Nat → Ac → St → Rs) (n : Nat) : Ac → St → Rs := fun a S => projK [5, 6, 8, 9, 10, 11] a fun a => loopK [5, 6, 8, 9, 10, 11] (dr E0 self RL3 N (B3.r.r.r.r.l.r.r.r.l.r.l.l)) (mkK E0 self Try.f3 nk ek) n a S
noncomputable def L3_53 (self : EV) (N : Nat) (nk : Ac → St → Rs) (ek : Nat → Ac → St → Rs) (n : Nat) ( v5 v6 v8 v9 v10 v11 : V) (S : St) : Rs := loopK [5, 6, 8, 9, 10, 11] (dr E0 self RL3 N (B3.r.r.r.r.l.r.r.r.l.r.l.l)) (mkK E0 self Try.f3 nk ek) n (fr 171 [(5, v5), (6, v6), (8, v8), (9, v9), (10, v10), (11, v11)]) S
noncomputable def R3_58 (self : EV) (N : Nat) (nk : Ac → St → Rs) (ek : Nat → Ac → St → Rs) (a : Ac) (S : St) : Rs := projK [5, 6, 8, 9, 10, 11] a fun a => dr E0 self RL3 N (B3.r.r.r.r.l.r.r.r.l.r.l.l.r).r (mkK E0 self Try.f3 nk ek) a S
theorem R3_58_eq (self : EV) (N : Nat) (nk : Ac → St → Rs) (ek : Nat → Ac → St → Rs) ( v5 v6 v8 v9 v10 v11 : V) (S : St) : R3_58 self N nk ek (fr 171 [(5, v5), (6, v6), (8, v8), (9, v9), (10, v10), (11, v11)]) S =
(binV E0 .add 3 false true v11 (.int .i64 1)).bind fun t60 =>
nk (fr 171 [(5, v5), (6, v6), (8, v8), (9, v9), (10, v10), (11, t60)]) S := by kernel_rfl
noncomputable def R3_71 (self : EV) (N : Nat) (nk : Ac → St → Rs) (ek : Nat → Ac → St → Rs) (a : Ac) (S : St) : Rs := projK [5, 6, 8, 9, 10, 11, 12, 13] a fun a => dr E0 self RL3 N (B3.r.r.r.r.l.r.r.r.l.r.l.l.r.l.l.r.r).r (mkK E0 self Try.f3 nk ek) a S
noncomputable def R3_100 (self : EV) (N : Nat) (nk : Ac → St → Rs) (ek : Nat → Ac → St → Rs) (a : Ac) (S : St) : Rs := projK [5, 6, 8, 9, 10, 11, 12] a fun a => dr E0 self RL3 N (B3.r.r.r.r.l.r.r.r.l.r.l.l.r.l.l.r.r.r.l.r).r (mkK E0 self Try.f3 nk ek) a S
theorem R3_100_eq (self : EV) (N : Nat) (nk : Ac → St → Rs) (ek : Nat → Ac → St → Rs) ( v5 v6 v8 v9 v10 v11 v12 : V) (S : St) : R3_100 self N nk ek (fr 171 [(5, v5), (6, v6), (8, v8), (9, v9), (10, v10), (11, v11), (12, v12)]) S =
ifK v12 (
(ixP 4 v5 v11).bind fun t105 =>
(ldA 4 t105 S).bind fun p106 =>
(bsP 28 4 1 (Tr.ofListFrom .nil [(sv []), .nilslice, (sv []), (sv [])] 0) [(0, p106.1)] p106.2).bind fun p107 =>
(apP 28 4 72 v10 p107.1 p107.2).bind fun p108 =>
nk (fr 171 [(5, v5), (6, v6), (8, v8), (9, v9), (10, p108.1), (11, v11)]) p108.2) (
nk (fr 171 [(5, v5), (6, v6), (8, v8), (9, v9), (10, v10), (11, v11)]) S) := by kernel_rfl
noncomputable def L3_111 (self : EV) (N : Nat) (nk : Ac → St → Rs) (ek : Nat → Ac → St → Rs) (n : Nat) ( v5 v6 v8 v9 v10 v11 v12 v15 : V) (S : St) : Rs := loopK [5, 6, 8, 9, 10, 11, 12, 15] (dr E0 self RL3 N (B3.r.r.r.r.l.r.r.r.l.r.l.l.r.l.l.r.r.r.l.r.l.r.l.l)) (mkK E0 self Try.f3 nk ek) n (fr 171 [(5, v5), (6, v6), (8, v8), (9, v9), (10, v10), (11, v11), (12, v12), (15, v15)]) S
theorem L3_111_eq (self : EV) (N : Nat) (nk : Ac → St → Rs) (ek : Nat → Ac → St → Rs) (n : Nat) ( v5 v6 v8 v9 v10 v11 v12 v15 : V) (S : St) : L3_111 self N nk ek (n + 1) v5 v6 v8 v9 v10 v11 v12 v15 S =
(guardV true v12).bind fun g114 => (bif g114 then some v15 else some (.tuple [])).bind fun t114 =>
(guardV true v12).bind fun g115 => (bif g115 then some v5 else some (.tuple [])).bind fun t115 =>
(guardV true v12).bind fun g116 => (bif g116 then some v11 else some (.tuple [])).bind fun t116 =>
(guardV true v12).bind fun g117 => (bif g117 then ixP 4 t115 t116 else some (.tuple [])).bind fun t117 =>
(guardV true v12).bind fun g118 => (bif g118 then faP 1 false 1 t117 else some (.tuple [])).bind fun t118 =>
(guardV true v12).bind fun g119 => (bif g119 then ld1 t118 S else some (.tuple [], S)).bind fun p119 =>
(guardV true v12).bind fun g120 => (bif g120 then lnS p119.1 p119.2 else some (.tuple [], p119.2)).bind fun p120 =>
(guardV true v12).bind fun g121 => (bif g121 then binV E0 .lss 3 false false t114 p120.1 else some (.tuple [])).bind fun t121 =>
(pickV v12 (some t121) (some (.bool false))).bind fun t122 =>
ifK t122 (
(ixP 4 v5 v11).bind fun t126 =>
(faP 1 false 1 t126).bind fun t127 =>
(ld1 t127 p120.2).bind fun p128 =>
(ixP 1 p128.1 v15).bind fun t130 =>
(ld1 t130 p128.2).bind fun p131 =>
callP (self.f 13 [v8, p131.1] p131.2) fun t132 S132 =>
(unV .not t132).bind fun t133 =>
ifK t133 (
some (.ret (.bool false), S132)) (
(binV E0 .add 3 false true v15 (.int .i64 1)).bind fun t136 =>
L3_111 self N nk ek n v5 v6 v8 v9 v10 v11 v12 t136 S132)) (
ek 6 (fr 171 [(5, v5), (6, v6), (8, v8), (9, v9), (10, v10), (11, v11), (12, v12)]) p120.2) := by kernel_rfl
theorem R3_71_eq (self : EV) (N : Nat) (nk : Ac → St → Rs) (ek : Nat → Ac → St → Rs) ( v5 v6 v8 v9 v10 v11 v12 v13 : V) (S : St) : R3_71 self N nk ek (fr 171 [(5, v5), (6, v6), (8, v8), (9, v9), (10, v10), (11, v11), (12, v12), (13, v13)]) S =
(ixP 4 v5 v11).bind fun t76 =>
(faP 0 false 1 t76).bind fun t77 =>
(ld1 t77 S).bind fun p78 =>
callP (self.f 13 [v9, p78.1] p78.2) fun t79 S79 =>
(binV E0 .eql 4 false false v12 t79).bind fun t80 =>
(guardV false t80).bind fun g82 => (bif g82 then some v12 else some (.tuple [])).bind fun t82 =>
(guardV false t80).bind fun g83 => (bif g83 then some v13 else some (.tuple [])).bind fun t83 =>
(guardV false t80).bind fun g84 => (bif g84 then binV E0 .neq 4 false false t82 t83 else some (.tuple [])).bind fun t84 =>
(pickV t80 (some (.bool true)) (some t84)).bind fun t85 =>
(guardV false t85).bind fun g87 => (bif g87 then some v6 else some (.tuple [])).bind fun t87 =>
(guardV false t85).bind fun g88 => (bif g88 then some v5 else some (.tuple [])).bind fun t88 =>
(guardV false t85).bind fun g89 => (bif g89 then some v11 else some (.tuple [])).bind fun t89 =>
(guardV false t85).bind fun g90 => (bif g90 then ixP 4 t88 t89 else some (.tuple [])).bind fun t90 =>
(guardV false t85).bind fun g91 => (bif g91 then faP 0 false 1 t90 else some (.tuple [])).bind fun t91 =>
(guardV false t85).bind fun g92 => (bif g92 then ld1 t91 S79 else some (.tuple [], S79)).bind fun p92 =>
(guardV false t85).bind fun g93 => callP (bif g93 then self.f 13 [t87, p92.1] p92.2 else some (.ret (.tuple []), p92.2)) fun t93 S93 =>
(guardV false t85).bind fun g94 => (bif g94 then some t93 else some (.tuple [])).bind fun t94 =>
(guardV true t94).bind fun g95 => (bif g95 then some v12 else some (.tuple [])).bind fun t95 =>
(guardV true t94).bind fun g96 => (bif g96 then unV .not t95 else some (.tuple [])).bind fun t96 =>
(guardV false t85).bind fun g97 => (bif g97 then pickV t94 (some t96) (some (.bool false)) else some (.tuple [])).bind fun t97 =>
(pickV t85 (some (.bool true)) (some t97)).bind fun t98 =>
ifK t98 (
some (.ret (.bool false), S93)) (
L3_111 self N (R3_100 self N (fun a s => projK [5, 6, 8, 9, 10, 11] a fun a => nk a s) ek) (exB 6 (R3_100 self N (fun a s => projK [5, 6, 8, 9, 10, 11] a fun a => nk a s) ek) ek) N v5 v6 v8 v9 v10 v11 v12 (.int .i64 0) S93) := by kernel_rfl
noncomputable def L3_139 (self : EV) (N : Nat) (nk : Ac → St → Rs) (ek : Nat → Ac → St → Rs) (n : Nat) ( v5 v6 v8 v9 v10 v11 v12 v13 v14 : V) (S : St) : Rs := loopK [5, 6, 8, 9, 10, 11, 12, 13, 14] (dr E0 self RL3 N (B3.r.r.r.r.l.r.r.r.l.r.l.l.r.l.l.r.r.l.r.l.l)) (mkK E0 self Try.f3 nk ek) n (fr 171 [(5, v5), (6, v6), (8, v8), (9, v9), (10, v10), (11, v11), (12, v12), (13, v13), (14, v14)]) S
theorem L3_139_eq (self : EV) (N : Nat) (nk : Ac → St → Rs) (ek : Nat → Ac → St → Rs) (n : Nat) ( v5 v6 v8 v9 v10 v11 v12 v13 v14 : V) (S : St) : L3_139 self N nk ek (n + 1) v5 v6 v8 v9 v10 v11 v12 v13 v14 S =
(lnS v6 S).bind fun p142 =>
(binV E0 .lss 3 false false v14 p142.1).bind fun t143 =>
ifK t143 (
(guardV false v13).bind fun g146 => (bif g146 then some v5 else some (.tuple [])).bind fun t146 =>
(guardV false v13).bind fun g147 => (bif g147 then some v6 else some (.tuple [])).bind fun t147 =>
(guardV false v13).bind fun g148 => (bif g148 then some v14 else some (.tuple [])).bind fun t148 =>
(guardV false v13).bind fun g149 => (bif g149 then some v14 else some (.tuple [])).bind fun t149 =>
(guardV false v13).bind fun g150 => (bif g150 then binV E0 .add 3 false true t149 (.int .i64 1) else some (.tuple [])).bind fun t150 =>
(guardV false v13).bind fun g151 => (bif g151 then sliceV E0 26 t147 (some t148) (some t150) none (onS p142.2) else some (.tuple [], (onS p142.2))).bind fun p151 =>
(guardV false v13).bind fun g152 => callD (planOf E0 (B3.r.r.r.r.l.r.r.r.l.r.l.l.r.l.l.r.r.l.r.l.l.r.l.l).ops) p142.2 8 [[], [], [], [], [], [], [], p151.2.log] (bif g152 then self.f 9 [t146, p151.1] (onS p151.2) else some (.ret (.tuple []), (onS p151.2))) fun t152 S152 =>
(guardV false v13).bind fun g153 => (bif g153 then some v5 else some (.tuple [])).bind fun t153 =>
(guardV false v13).bind fun g154 => (bif g154 then some v11 else some (.tuple [])).bind fun t154 =>
(guardV false v13).bind fun g155 => (bif g155 then ixP 4 t153 t154 else some (.tuple [])).bind fun t155 =>
(guardV false v13).bind fun g156 => (bif g156 then faP 0 false 1 t155 else some (.tuple [])).bind fun t156 =>
(guardV false v13).bind fun g157 => (bif g157 then ld1 t156 (onS S152) else some (.tuple [], (onS S152))).bind fun p157 =>
(guardV false v13).bind fun g158 => callD (planOf E0 (B3.r.r.r.r.l.r.r.r.l.r.l.l.r.l.l.r.r.l.r.l.l.r.l.l).ops) p142.2 14 [[], [], [], [], [], [], [], p151.2.log, S152.log, [], [], [], [], p157.2.log] (bif g158 then self.f 13 [t152, p157.1] (onS p157.2) else some (.ret (.tuple []), (onS p157.2))) fun t158 S158 =>
(pickV v13 (some (.bool true)) (some t158)).bind fun t159 =>
endP [(7, [13]), (8, [13])] p142.2 [[], [], [], [], [], [], [], p151.2.log, S152.log, [], [], [], [], p157.2.log, S158.log, [], []] (onS S158) fun S161 =>
(binV E0 .add 3 false true v14 (.int .i64 1)).bind fun t163 =>
L3_139 self N nk ek n v5 v6 v8 v9 v10 v11 v12 t159 t163 S161) (
ek 4 (fr 171 [(5, v5), (6, v6), (8, v8), (9, v9), (10, v10), (11, v11), (12, v12), (13, v13)]) p142.2) := by kernel_rfl
theorem L3_53_eq (self : EV) (N : Nat) (nk : Ac → St → Rs) (ek : Nat → Ac → St → Rs) (n : Nat) ( v5 v6 v8 v9 v10 v11 : V) (S : St) : L3_53 self N nk ek (n + 1) v5 v6 v8 v9 v10 v11 S =
(lnS v5 S).bind fun p56 =>
(binV E0 .lss 3 false false v11 p56.1).bind fun t57 =>
ifK t57 (
(ixP 4 v5 v11).bind fun t65 =>
(faP 0 false 1 t65).bind fun t66 =>
(ld1 t66 p56.2).bind fun p67 =>
callP (self.f 13 [v8, p67.1] p67.2) fun t68 S68 =>
L3_139 self N (R3_71 self N (R3_58 self N (N3_53 self N nk ek n) ek) (exB 3 (R3_58 self N (N3_53 self N nk ek n) ek) ek)) (exB 4 (R3_71 self N (R3_58 self N (N3_53 self N nk ek n) ek) (exB 3 (R3_58 self N (N3_53 self N nk ek n) ek) ek)) (exB 3 (R3_58 self N (N3_53 self N nk ek n) ek) ek)) N v5 v6 v8 v9 v10 v11 t68 (.bool false) (.int .i64 0) S68) (
ek 2 (fr 171 [(6, v6), (10, v10)]) p56.2) := by kernel_rfl
theorem N3_53_eq (self : EV) (N : Nat) (nk : Ac → St → Rs) (ek : Nat → Ac → St → Rs) (n : Nat) ( v5 v6 v8 v9 v10 v11 : V) (S : St) : N3_53 self N nk ek n (fr 171 [(5, v5), (6, v6), (8, v8), (9, v9), (10, v10), (11, v11)]) S = L3_53 self N nk ek n v5 v6 v8 v9 v10 v11 S := by kernel_rfl
theorem R3_5_eq (self : EV) (N : Nat) (nk : Ac → St → Rs) (ek : Nat → Ac → St → Rs) ( v5 v6 : V) (S : St) : R3_5 self N nk ek (fr 171 [(5, v5), (6, v6)]) S =
callP (self.f 9 [v5, v6] S) fun t8 S8 =>
callP (self.f 10 [v5, v6] S8) fun t11 S11 =>
(lnS t8 S11).bind fun p15 =>
(lnS t11 p15.2).bind fun p17 =>
(binV E0 .add 3 false false p15.1 p17.1).bind fun t18 =>
(lnS v5 p17.2).bind fun p20 =>
(binV E0 .neq 3 false false t18 p20.1).bind fun t21 =>
(guardV false t21).bind fun g23 => (bif g23 then some v5 else some (.tuple [])).bind fun t23 =>
(guardV false t21).bind fun g24 => (bif g24 then some t8 else some (.tuple [])).bind fun t24 =>
(guardV false t21).bind fun g25 => callP (bif g25 then self.f 9 [t23, t24] p20.2 else some (.ret (.tuple []), p20.2)) fun t25 S25 =>
(guardV false t21).bind fun g26 => callP (bif g26 then self.f 11 [t25] S25 else some (.ret (.tuple []), S25)) fun t26 S26 =>
(guardV false t21).bind fun g27 => (bif g27 then some t8 else some (.tuple [])).bind fun t27 =>
(guardV false t21).bind fun g28 => callP (bif g28 then self.f 11 [t27] S26 else some (.ret (.tuple []), S26)) fun t28 S28 =>
(guardV false t21).bind fun g29 => (bif g29 then binV E0 .neq 9 false false t26 t28 else some (.tuple [])).bind fun t29 =>
(pickV t21 (some (.bool true)) (some t29)).bind fun t30 =>
(guardV false t30).bind fun g32 => (bif g32 then some v5 else some (.tuple [])).bind fun t32 =>
(guardV false t30).bind fun g33 => callP (bif g33 then self.f 12 [t32] S28 else some (.ret (.tuple []), S28)) fun t33 S33 =>
(guardV false t30).bind fun g34 => (bif g34 then unV .not t33 else some (.tuple [])).bind fun t34 =>
(pickV t30 (some (.bool true)) (some t34)).bind fun t35 =>
ifK t35 (
some (.ret (.bool false), S33)) (
L3_53 self N (R3_38 self N (fun a s => projK [4] a fun a => nk a s) ek) (exB 2 (R3_38 self N (fun a s => projK [4] a fun a => nk a s) ek) ek) N v5 v6 t8 t11 .nilslice (.int .i64 0) S33) := by kernel_rfl
noncomputable def L3_166 (self : EV) (N : Nat) (nk : Ac → St → Rs) (ek : Nat → Ac → St → Rs) (n : Nat) ( v1 v5 v6 v7 : V) (S : St) : Rs := loopK [1, 5, 6, 7] (dr E0 self RL3 N (B3.r.r.r.l.r.l.l)) (mkK E0 self Try.f3 nk ek) n (fr 171 [(1, v1), (5, v5), (6, v6), (7, v7)]) S
theorem L3_166_eq (self : EV) (N : Nat) (nk : Ac → St → Rs) (ek : Nat → Ac → St → Rs) (n : Nat) ( v1 v5 v6 v7 : V) (S : St) : L3_166 self N nk ek (n + 1) v1 v5 v6 v7 S =
(lnS v5 S).bind fun p169 =>
(binV E0 .lss 3 false false v7 p169.1).bind fun t170 =>
ifK t170 (
(binV E0 .shr 23 false false v1 v7).bind fun t173 =>
(binV E0 .rem 23 false true t173 (.int .u16 2)).bind fun t174 =>
(binV E0 .eql 23 false true t174 (.int .u16 1)).bind fun t175 =>
ifK t175 (
(ixP 4 v5 v7).bind fun t179 =>
(faP 0 false 1 t179).bind fun t180 =>
(ld1 t180 p169.2).bind fun p181 =>
(bsP 9 1 1 (Go.Proofs.Ytginkdeicmdmaaa.Ev.one (sv [])) [(0, p181.1)] p181.2).bind fun p182 =>
(apP 9 1 16 v6 p182.1 p182.2).bind fun p183 =>
(binV E0 .add 3 false true v7 (.int .i64 1)).bind fun t186 =>
L3_166 self N nk ek n v1 v5 p183.1 t186 p183.2) (
(binV E0 .add 3 false true v7 (.int .i64 1)).bind fun t189 =>
L3_166 self N nk ek n v1 v5 v6 t189 p169.2)) (
ek 0 (fr 171 [(5, v5), (6, v6)]) p169.2) := by kernel_rfl
noncomputable def F3 (self : EV) (N : Nat) (x0 x1 : V) (S : St) : Rs := runF E0 self N Try.f3 B3 [x0, x1] S
theorem F3_eq (self : EV) (N : Nat) (x0 x1 : V) (S : St) : F3 self N x0 x1 S =
callP (self.f 8 [x0, (.bool false)] S) fun t2 S2 =>
L3_166 self N (R3_5 self N (finN E0 self Try.f3) noEx) (exB 0 (R3_5 self N (finN E0 self Try.f3) noEx) noEx) N x1 t2 .nilslice (.int .i64 0) S2 := by kernel_rfl
end
end Go.Proofs.Ytginkdeicmdmaaa.W
namespace Go.Proofs.Ytginkdeicmdmaaa.W
open Go.Proofs.Ytginkdeicmdmaaa.Ev
set_option maxRecDepth 100000
noncomputable section
end
end Go.Proofs.Ytginkdeicmdmaaa.W
namespace Go.Proofs.Ytginkdeicmdmaaa.W
open Go.Proofs.Ytginkdeicmdmaaa.Ev Go.RowKit
abbrev Bs := List UInt8
noncomputable def kfTrue : KF := specKF (fun _ : Unit => []) (fun _ => En.ret (.bool true))
theorem kfTrue_run (S : St) : kfTrue.run [] S = some (.ret (.bool true), S) := specKF_run (enc := fun _ : Unit => []) (out := fun _ => En.ret (.bool true)) (fun _ _ _ => rfl) () S
noncomputable def KA := knAdd (fun _ => none) 44 (kfSorted [53, 54] 9)
noncomputable def KB := knAdd KA 12 kfClosed
noncomputable def KD := knAdd KB 14 kfTrue
theorem lgD : Lg.KnLoc KD := (((Lg.knLoc_nil).add 44 fun _ => kfSorted_lg _ _ _).add 12 fun _ => kfClosed_lg _).add 14 fun _ => Lg.specKF_lg _
theorem ext_none {f : FuncId} (h : f ≠ 48) : E0.ext.get f = none := by
 cases hx : E0.ext.get f with
 | none => rfl
 | some k =>
  have : (f, k) ∈ [(48, 2)] := kinds_get (l := [(48, 2)]) hx
  simp at this
  exact absurd this.1 h
theorem callK_fn {E : Env} {self : EV} {f : FuncId} (h : E.ext.get f = none) (hb : hasBody E f = true) (x y args : List V) (S : St) : callK E self (.fn (.func f) x y) args S = self.f f (x ++ args ++ y) S := by
 show (match E.ext.get f with | some k => _ | none => _) = _
 rw [h]
 show (bif hasBody E f then self.f f (x ++ args ++ y) S else none) = _
 rw [hb]; rfl
theorem drop_at {α : Type} {l r : List α} {i : Nat} {y : α} (h : l.drop i = y :: r) : ∃ hlt : i < l.length, l[i] = y ∧ l.drop (i + 1) = r ∧ y ∈ l := by
 have hlt : i < l.length := by
  by_cases hh : i < l.length
  · exact hh
  · rw [List.drop_of_length_le (by omega)] at h; cases h
 rw [List.drop_eq_getElem_cons hlt] at h
 injection h with h1 h2
 exact ⟨hlt, h1, h2, by rw [← h1]; exact List.getElem_mem hlt⟩
theorem drop_end {α : Type} {l : List α} {i : Nat} (h : l.drop i = []) : l.length ≤ i := List.drop_eq_nil_iff.1 h
theorem dec_lt {a b : Nat} (h : a < b) : decide ((a : Int) < (b : Int)) = true := by simp; omega
theorem dec_ge {a b : Nat} (h : b ≤ a) : decide ((a : Int) < (b : Int)) = false := by simp; omega
theorem wrap_succ {i : Nat} (h : i < 9223372036854775807) : IntKind.i64.wrap ((i : Int) + 1) = ((i + 1 : Nat) : Int) := by
 rw [wrap_i64 (by omega) (by omega)]; omega
theorem gTT : guardV true (.bool true) = some true := rfl
theorem gTF : guardV true (.bool false) = some false := rfl
theorem gFT : guardV false (.bool true) = some false := rfl
theorem gFF : guardV false (.bool false) = some true := rfl
theorem big1 : 1 < big := by unfold big; decide
theorem und46 : und E0 46 = some (.map 9 3) := by kernel_rfl
theorem zero3 : zeroT E0 3 = some (.int .i64 0) := by kernel_rfl
theorem faPg (off k o : Nat) (g : Bool) (b : Nat) : faP off g (k + 1) (.ptr b o) = some (.ptr b (o + off)) := faP_ptr off g k b o
section
variable {S T U : St}
theorem Bx.ldv (ho : S.on = false) {x e : Nat} {l : List V} (h : Bx S x e l) (hl : l.length < big) {i : Nat} {v : V} (hv : l[i]? = some v) : ld1 (.ptr x i) S = some (v, S) := by
 obtain ⟨hi, he⟩ := List.getElem?_eq_some_iff.1 hv
 rw [h.ld1 ho i hi hl, he]
def rowOf (l : List Bs) : List (Tr V) := l.map fun a => Go.Proofs.Ytginkdeicmdmaaa.Ev.one (sv a)
theorem rowOf_length (l : List Bs) : (rowOf l).length = l.length := by unfold rowOf; rw [List.length_map]
theorem rowOf_get {l : List Bs} {i : Nat} {a : Bs} (h : l[i]? = some a) : (rowOf l)[i]? = some (Go.Proofs.Ytginkdeicmdmaaa.Ev.one (sv a)) := by unfold rowOf; rw [List.getElem?_map, h]; rfl
theorem rowOf_append (l m : List Bs) : rowOf (l ++ m) = rowOf l ++ rowOf m := by unfold rowOf; rw [List.map_append]
def blkOf : V → Option Nat
 | .slice r _ _ _ => some r
 | .oslice r _ _ _ => some r
 | _ => none
def TL (S : St) (v : V) (l : List Bs) : Prop := (l = [] ∧ (v = .nilslice ∨ v = .eslice ∨ ∃ r c, v = .slice r 0 0 c)) ∨
 ∃ r off L, RowAt S r 9 1 (rowOf L) ∧ r < S.next ∧ off + l.length ≤ L.length ∧ (L.drop off).take l.length = l ∧ (v = .oslice r off l.length 1 ∨ ∃ c, v = .slice r off l.length c)
theorem TL.nil : TL S .nilslice [] := .inl ⟨rfl, .inl rfl⟩
theorem TL.own {r : Nat} {l : List Bs} (h : RowAt S r 9 1 (rowOf l)) (hr : r < S.next) : TL S (.oslice r 0 l.length 1) l := .inr ⟨r, 0, l, h, hr, by omega, by simp, .inl rfl⟩
theorem TL.grew {W : Nat → Prop} {v : V} {l : List Bs} (h : TL S v l) (hw : ∀ r e, blkOf v = some r → RowAt S r 9 1 e → ¬ W r) (g : Grew W S U) : TL U v l := by
 rcases h with h | ⟨r, off, L, h1, h2, h3, h4, h5⟩
 · exact .inl h
 · have hb : blkOf v = some r := by rcases h5 with rfl | ⟨c, rfl⟩ <;> rfl
   exact .inr ⟨r, off, L, h1.grew h2 (hw r _ hb h1) g, Nat.lt_of_lt_of_le h2 g.next, h3, h4, h5⟩
theorem TL.grew0 {v : V} {l : List Bs} (h : TL S v l) (g : Grew (fun _ => False) S U) : TL U v l := h.grew (fun _ _ _ _ h => h) g
theorem TL.same {v : V} {l : List Bs} (h : TL S v l) (h1 : U.heap = S.heap) (h2 : U.next = S.next) : TL U v l := by
 rcases h with h | ⟨r, off, L, a1, a2, a3, a4, a5⟩
 · exact .inl h
 · exact .inr ⟨r, off, L, a1.same h1, by omega, a3, a4, a5⟩
theorem TL.lenV {v : V} {l : List Bs} (h : TL S v l) : Go.Proofs.Ytginkdeicmdmaaa.Ev.lenV v = some l.length := by
 rcases h with ⟨rfl, rfl | rfl | ⟨r, c, rfl⟩⟩ | ⟨r, off, L, h1, h2, h3, h4, rfl | ⟨c, rfl⟩⟩ <;> rfl
theorem TL.notStr {v : V} {l : List Bs} (h : TL S v l) : ∀ a b, v ≠ .str a b := by
 rcases h with ⟨rfl, rfl | rfl | ⟨r, c, rfl⟩⟩ | ⟨r, off, L, h1, h2, h3, h4, rfl | ⟨c, rfl⟩⟩ <;> intro a b e <;> cases e
theorem TL.len {v : V} {l : List Bs} (h : TL S v l) (U : St) : lnS v U = some (.int .i64 (l.length : Int), U) := lnS_of h.notStr h.lenV
theorem TL.ix {v : V} {l : List Bs} (h : TL S v l) {i : Nat} {a : Bs} (ha : l[i]? = some a) : ∃ r o L, ixP 1 v (.int .i64 (i : Int)) = some (.ptr r o) ∧ RowAt S r 9 1 L ∧ L[o]? = some (Go.Proofs.Ytginkdeicmdmaaa.Ev.one (sv a)) := by
 obtain ⟨hi, he⟩ := List.getElem?_eq_some_iff.1 ha
 rcases h with ⟨rfl, _⟩ | ⟨r, off, L, h1, h2, h3, h4, h5⟩
 · cases hi
 · refine ⟨r, off + i * 1, rowOf L, ?_, h1, ?_⟩
   · have : ixP 1 v (.int .i64 (i : Int)) = bif Nat.blt i l.length then some (V.ptr r (off + i * 1)) else none := by rcases h5 with rfl | ⟨c, rfl⟩ <;> rfl
     rw [this, blt_true.2 hi]; rfl
   · refine rowOf_get ?_
     rw [Nat.mul_one]
     have : ((L.drop off).take l.length)[i]? = some a := by rw [h4]; exact ha
     rw [List.getElem?_take, if_pos hi, List.getElem?_drop] at this
     exact this
theorem TL.ld {v : V} {l : List Bs} (h : TL S v l) (ho : S.on = false) {i : Nat} {a : Bs} (ha : l[i]? = some a) : ∃ p, ixP 1 v (.int .i64 (i : Int)) = some p ∧ ld1 p S = some (sv a, S) := by
 obtain ⟨r, o, L, h1, h2, h3⟩ := h.ix ha
 exact ⟨_, h1, h2.ld1 ho h3⟩
def TLo (S : St) (v : V) (l : List Bs) (N : Nat) : Prop := (l = [] ∧ v = .nilslice) ∨ ∃ r, v = .oslice r 0 l.length 1 ∧ RowAt S r 9 1 (rowOf l) ∧ r < S.next ∧ N ≤ r ∧ 0 < l.length
theorem TLo.nil {N : Nat} : TLo S .nilslice [] N := .inl ⟨rfl, rfl⟩
theorem TLo.tl {v : V} {l : List Bs} {N : Nat} (h : TLo S v l N) : TL S v l := by
 rcases h with ⟨rfl, rfl⟩ | ⟨r, rfl, h1, h2, _⟩
 · exact .nil
 · exact .own h1 h2
theorem TLo.grew {v : V} {l : List Bs} {N : Nat} (h : TLo S v l N) (g : Grew (fun _ => False) S U) : TLo U v l N := by
 rcases h with h | ⟨r, h0, h1, h2, h3⟩
 · exact .inl h
 · exact .inr ⟨r, h0, h1.grew h2 (fun h => h) g, Nat.lt_of_lt_of_le h2 g.next, h3⟩
theorem TLo.push (ho : S.on = false) {v : V} {l : List Bs} {N : Nat} (h : TLo S v l N) (hN : N ≤ S.next) (hl : l.length < 100000) (a : Bs) :
 ∃ y W v' U, bsP 9 1 1 (Go.Proofs.Ytginkdeicmdmaaa.Ev.one (sv [])) [(0, sv a)] S = some (y, W) ∧ apP 9 1 16 v y W = some (v', U) ∧ TLo U v' (l ++ [a]) N ∧ Grew (fun x => N ≤ x) S U := by
 obtain ⟨W, h1, h2, h3, h4⟩ := bsP_one ho 9 (Go.Proofs.Ytginkdeicmdmaaa.Ev.one (sv [])) (oneV_sv a)
 have on1 := h3.on.trans ho
 have hlm : (l ++ [a]).length = l.length + 1 := by rw [List.length_append]; rfl
 rcases h with ⟨rfl, rfl⟩ | ⟨r, rfl, hr, hr2, hr3, h0⟩
 · obtain ⟨U, k1, k2, k3, k4⟩ := ap1_first (B := 16) on1 h2 (by unfold maxCells; omega)
   exact ⟨_, W, _, U, h1, k1, .inr ⟨W.next, rfl, k2, by omega, by omega, by simp⟩, (h3.trans k3).mono fun _ _ h => h.elim⟩
 · have hrow := hr.grew hr2 (fun h => h) h3
   obtain ⟨U, k1, k2, k3, k4⟩ := ap1_more (B := 16) on1 h2 hrow (by rw [rowOf_length]; unfold maxCells; omega) (by rw [rowOf_length]; unfold big; omega)
   rw [rowOf_length] at k1
   refine ⟨_, W, _, U, h1, k1, .inr ⟨W.next, by rw [hlm], ?_, by omega, by omega, by omega⟩, (h3.mono fun _ _ h => h.elim).trans (k3.mono fun x _ e => by subst e; exact hr3)⟩
   rw [rowOf_append]
   exact k2
end
end Go.Proofs.Ytginkdeicmdmaaa.W
namespace Go.Proofs.Ytginkdeicmdmaaa.W
open Go.Proofs.Ytginkdeicmdmaaa.Ev Go.RowKit
theorem bless_iff : ∀ {x y : Bs}, Op.bytesLess x y = true ↔ x < y
 | [], [] => by simp [Op.bytesLess]
 | _ :: _, [] => by simp [Op.bytesLess]
 | [], _ :: _ => by simp [Op.bytesLess]
 | a :: x, b :: y => by
  simp only [Op.bytesLess, Bool.or_eq_true, decide_eq_true_eq, Bool.and_eq_true, beq_iff_eq]
  rw [List.cons_lt_cons_iff, bless_iff (x := x) (y := y)]
def insB (x : Bs) : List Bs → List Bs
 | [] => [x]
 | y :: l => if y < x then y :: insB x l else x :: y :: l
def sortB : List Bs → List Bs
 | [] => []
 | x :: l => insB x (sortB l)
theorem insB_perm (x : Bs) : ∀ l : List Bs, (insB x l).Perm (x :: l)
 | [] => .refl _
 | y :: l => by
  unfold insB
  split
  · exact ((insB_perm x l).cons y).trans (.swap x y l)
  · exact .refl _
theorem sortB_perm : ∀ l : List Bs, (sortB l).Perm l
 | [] => .refl _
 | x :: l => (insB_perm x (sortB l)).trans ((sortB_perm l).cons x)
theorem insB_pw {x : Bs} : ∀ {l : List Bs}, l.Pairwise (· < ·) → x ∉ l → (insB x l).Pairwise (· < ·)
 | [], _, _ => by simp [insB]
 | y :: l, h, hx => by
  unfold insB
  rw [List.pairwise_cons] at h
  simp only [List.mem_cons, not_or] at hx
  split
  · rename_i hlt
    refine List.pairwise_cons.2 ⟨fun z hz => ?_, insB_pw h.2 hx.2⟩
    rcases List.mem_cons.1 ((insB_perm x l).mem_iff.1 hz) with rfl | hz
    · exact hlt
    · exact h.1 z hz
  · rename_i hlt
    have hxy : x < y := by
     rcases List.le_iff_lt_or_eq.1 (List.not_lt.1 hlt) with h | h
     · exact h
     · exact absurd h hx.1
    refine List.pairwise_cons.2 ⟨fun z hz => ?_, List.pairwise_cons.2 h⟩
    rcases List.mem_cons.1 hz with rfl | hz
    · exact hxy
    · exact List.lt_trans hxy (h.1 z hz)
theorem sortB_pw : ∀ {l : List Bs}, l.Nodup → (sortB l).Pairwise (· < ·)
 | [], _ => .nil
 | x :: l, h => by
  rw [List.nodup_cons] at h
  exact insB_pw (sortB_pw h.2) fun hm => h.1 ((sortB_perm l).mem_iff.1 hm)
theorem mem_sortB {l : List Bs} {x : Bs} : x ∈ sortB l ↔ x ∈ l := (sortB_perm l).mem_iff
theorem rise_eq : ∀ {l m : List Bs}, l.Pairwise (· < ·) → m.Pairwise (· < ·) → (∀ x, x ∈ l ↔ x ∈ m) → l = m
 | [], [], _, _, _ => rfl
 | [], y :: m, _, _, h => absurd ((h y).2 (List.mem_cons_self ..)) (by simp)
 | x :: l, [], _, _, h => absurd ((h x).1 (List.mem_cons_self ..)) (by simp)
 | x :: l, y :: m, hl, hm, h => by
  rw [List.pairwise_cons] at hl hm
  have hxy : x = y := by
   rcases List.mem_cons.1 ((h x).1 (List.mem_cons_self ..)) with e | e
   · exact e
   · rcases List.mem_cons.1 ((h y).2 (List.mem_cons_self ..)) with e2 | e2
     · exact e2.symm
     · exact absurd (List.lt_trans (hm.1 x e) (hl.1 y e2)) (List.lt_irrefl _)
  subst hxy
  rw [rise_eq hl.2 hm.2 fun z => ⟨fun hz => ?_, fun hz => ?_⟩]
  · rcases List.mem_cons.1 ((h z).1 (List.mem_cons_of_mem _ hz)) with e | e
    · subst e; exact absurd (hl.1 z hz) (List.lt_irrefl _)
    · exact e
  · rcases List.mem_cons.1 ((h z).2 (List.mem_cons_of_mem _ hz)) with e | e
    · subst e; exact absurd (hm.1 z hz) (List.lt_irrefl _)
    · exact e
def esKV (es : List ME) : List (V × V) := es.map fun e => (e.k, e.v)
def kvS (kv : List (Bs × V)) : List (V × V) := kv.map fun p => (sv p.1, p.2)
theorem insS_ins (x : Bs) : ∀ l : List Bs, insS x.length (pack x) (l.map kp) = (insB x l).map kp
 | [] => rfl
 | y :: l => by
  rw [List.map_cons]
  unfold insS insB
  rw [show sLess (kp y).1 (kp y).1 (kp y).2 x.length (pack x) = Op.bytesLess y x from sLess_eq y x]
  by_cases h : y < x
  · rw [bless_iff.2 h, if_pos h, cond_true, insS_ins x l]; rfl
  · rw [if_neg h, show Op.bytesLess y x = false from by rw [Bool.eq_false_iff]; exact fun e => h (bless_iff.1 e)]; rfl
theorem keysS_sort : ∀ {kv : List (Bs × V)} {es : List ME}, esKV es = kvS kv → keysS es = some ((sortB (kv.map (·.1))).map kp)
 | [], [], _ => rfl
 | [], e :: es, h => by simp [esKV, kvS] at h
 | p :: kv, [], h => by simp [esKV, kvS] at h
 | p :: kv, e :: es, h => by
  simp only [esKV, kvS, List.map_cons, List.cons.injEq, pM] at h
  obtain ⟨⟨h1, _⟩, h3⟩ := h
  unfold keysS
  rw [h1, keysS_sort (kv := kv) (es := es) h3]
  show ((some ((sortB (kv.map (·.1))).map kp)).bind fun q => some (insS p.1.length (pack p.1) q)) = _
  rw [oB, insS_ins]; rfl
theorem rising_of : ∀ {l : List Bs}, l.Pairwise (· < ·) → rising (l.map kp) = true
 | [], _ => rfl
 | [x], _ => rfl
 | x :: y :: l, h => by
  rw [List.pairwise_cons] at h
  have h2 := rising_of h.2
  rw [List.map_cons] at h2
  rw [List.map_cons, List.map_cons]
  unfold rising
  rw [h2, show sLess (kp x).1 (kp x).1 (kp x).2 (kp y).1 (kp y).2 = Op.bytesLess x y from sLess_eq x y, bless_iff.2 (h.1 y (List.mem_cons_self ..))]
  rfl
theorem shortKeys_of : ∀ {kv : List (Bs × V)} {es : List ME}, esKV es = kvS kv → (∀ p ∈ kv, p.1.length < 4611686018427387904) → shortKeys es = true
 | [], [], _, _ => rfl
 | [], e :: es, h, _ => by simp [esKV, kvS] at h
 | p :: kv, [], h, _ => by simp [esKV, kvS] at h
 | p :: kv, e :: es, h, hs => by
  simp only [esKV, kvS, List.map_cons, List.cons.injEq, pM] at h
  obtain ⟨⟨h1, _⟩, h3⟩ := h
  unfold shortKeys
  rw [h1, shortKeys_of (kv := kv) (es := es) h3 fun q hq => hs q (List.mem_cons_of_mem _ hq)]
  show (Nat.blt p.1.length 4611686018427387904 && true) = true
  rw [blt_true.2 (hs p (List.mem_cons_self ..))]; rfl
section
variable {S T U : St}
def MapS (S : St) (r : Nat) (kv : List (Bs × V)) : Prop := ∃ es clock, S.heap.get r = some (.map es clock) ∧ esKV es = kvS kv ∧ stampsR 0 es = true ∧ lastStamp es 0 ≤ clock
theorem MapS.grew {W : Nat → Prop} {r : Nat} {kv : List (Bs × V)} (h : MapS S r kv) (hr : r < S.next) (hw : ¬ W r) (g : Grew W S T) : MapS T r kv := by
 obtain ⟨es, c, h1, h2⟩ := h
 exact ⟨es, c, by rw [g.keep r hr hw]; exact h1, h2⟩
theorem MapS.same {r : Nat} {kv : List (Bs × V)} (h : MapS S r kv) (hh : T.heap = S.heap) : MapS T r kv := by
 obtain ⟨es, c, h1, h2⟩ := h
 exact ⟨es, c, by rw [hh]; exact h1, h2⟩
theorem MapS.noRow {r e z : Nat} {kv : List (Bs × V)} {l : List (Tr V)} (h : MapS S r kv) (hr : RowAt S r e z l) : False := by
 obtain ⟨es, c, h1, _⟩ := h
 obtain ⟨c, h2, _⟩ := hr.row
 rw [h1] at h2; cases h2
def lkS (a : Bs) : List (Bs × V) → Option V
 | [] => none
 | p :: l => if a = p.1 then some p.2 else lkS a l
def ixB (a : Bs) : List (Bs × V) → Nat
 | [] => 0
 | p :: l => if a = p.1 then 0 else ixB a l + 1
theorem mfind_str (a : Bs) : ∀ (kv : List (Bs × V)) (es : List ME) (i : Nat), esKV es = kvS kv → mfind (sv a) es i = some ((lkS a kv).map fun v => (i + ixB a kv, v))
 | [], es, i, h => by
  cases es with
  | nil => rfl
  | cons e es => simp [esKV, kvS] at h
 | p :: kv, [], i, h => by simp [esKV, kvS] at h
 | p :: kv, e :: es, i, h => by
  simp only [esKV, kvS, List.map_cons, List.cons.injEq, pM] at h
  obtain ⟨⟨h1, h2⟩, h3⟩ := h
  have hm : mfind (sv a) (e :: es) i = bif a == p.1 then some (some (i, e.v)) else mfind (sv a) es (i + 1) := by
   show (match e.k with | .str l' b => bif sEq a.length (pack a) l' b then some (some (i, e.v)) else mfind (sv a) es (i + 1) | _ => none) = _
   rw [h1]
   show (bif sEq a.length (pack a) p.1.length (pack p.1) then some (some (i, e.v)) else mfind (sv a) es (i + 1)) = _
   rw [sEq_eq]
  rw [hm]
  unfold lkS ixB
  by_cases hc : a = p.1
  · rw [if_pos hc, if_pos hc, show (a == p.1) = true by simp [hc], cond_true, h2]; rfl
  · rw [if_neg hc, if_neg hc, show (a == p.1) = false from beq_false_of_ne hc, cond_false, mfind_str a kv es (i + 1) h3]
    cases lkS a kv with
    | none => rfl
    | some v => simp only [Option.map_some, show i + 1 + ixB a kv = i + (ixB a kv + 1) by omega]
theorem look_two (ho : S.on = false) {r : Nat} {kv : List (Bs × V)} (h : MapS S r kv) (a : Bs) :
 lookupV E0 48 (.map r) (sv a) true S = some (.tuple [(lkS a kv).getD .nilslice, .bool (lkS a kv).isSome], S) := by
 obtain ⟨es, c, h1, h2, _⟩ := h
 unfold lookupV
 rw [und48, oB]
 simp only
 rw [und9, oB]
 simp only [sv, keyOk, cond_true]
 rw [getO_off ho h1, oB]
 simp only
 rw [oB]
 dsimp only
 have hm := mfind_str a kv es 0 h2
 unfold sv at hm
 rw [hm, oB]
 cases lkS a kv with
 | none => simp only [Option.map_none]; rw [zero26]; rfl
 | some v => rfl
theorem look_one (ho : S.on = false) {r : Nat} {kv : List (Bs × V)} (h : MapS S r kv) (a : Bs) :
 lookupV E0 46 (.map r) (sv a) false S = some ((lkS a kv).getD (.int .i64 0), S) := by
 obtain ⟨es, c, h1, h2, _⟩ := h
 unfold lookupV
 rw [und46, oB]
 simp only
 rw [und9, oB]
 simp only [sv, keyOk, cond_true]
 rw [getO_off ho h1, oB]
 simp only
 rw [oB]
 dsimp only
 have hm := mfind_str a kv es 0 h2
 unfold sv at hm
 rw [hm, oB]
 cases lkS a kv with
 | none => simp only [Option.map_none]; rw [zero3]; rfl
 | some v => rfl
theorem stampsR_push : ∀ (es : List ME) (m c : Nat) (k v : V), stampsR m es = true → lastStamp es m ≤ c → stampsR m (es ++ [{ k := k, v := v, born := c }]) = true ∧ lastStamp (es ++ [{ k := k, v := v, born := c }]) m = c + 1
 | [], m, c, k, v, _, h => by
  unfold lastStamp at h
  refine ⟨?_, rfl⟩
  show (Nat.ble m c && true) = true
  rw [ble_true.2 h]; rfl
 | e :: es, m, c, k, v, h1, h2 => by
  unfold stampsR at h1
  unfold lastStamp at h2
  simp only [Bool.and_eq_true] at h1
  obtain ⟨q1, q2⟩ := stampsR_push es (e.born + 1) c k v h1.2 h2
  rw [List.cons_append]
  unfold stampsR lastStamp
  exact ⟨by rw [h1.1, q1]; rfl, q2⟩
theorem upd_new (ho : S.on = false) {t et : TypeId} (ht : und E0 t = some (.map 9 et)) {r : Nat} {kv : List (Bs × V)} (h : MapS S r kv) {a : Bs} (ha : lkS a kv = none) (v : V) :
 ∃ o, updateV E0 t (.map r) (sv a) v S = some (S.put r o) ∧ MapS (S.put r o) r (kv ++ [(a, v)]) := by
 obtain ⟨es, c, h1, h2, h3, h4⟩ := h
 have hm := mfind_str a kv es 0 h2
 rw [ha] at hm
 obtain ⟨q1, q2⟩ := stampsR_push es 0 c (sv a) v h3 h4
 refine ⟨.map (es ++ [{ k := sv a, v := v, born := c }]) (c + 1), ?_, es ++ [{ k := sv a, v := v, born := c }], c + 1, by rw [put_get, if_pos rfl], ?_, q1, by rw [q2]; exact Nat.le_refl _⟩
 · unfold updateV
   rw [ht, oB]
   simp only
   rw [und9, oB]
   simp only [sv, keyOk, cond_true]
   rw [getO_off ho h1, oB]
   unfold sv at hm
   simp only
   rw [hm, Option.map_none, oB]
   simp only
   rw [setO_off ho]
 · unfold esKV kvS at h2 ⊢
   rw [List.map_append, List.map_append, h2]; rfl
theorem MapS.new (ho : S.on = false) : MapS (nw S (.map [] 0)) S.next [] := ⟨[], 0, by rw [nw_get, if_pos rfl], rfl, rfl, Nat.le_refl _⟩
theorem sorted_run (n : Nat) (ho : S.on = false) {g b r e : Nat} (hg : g = 53 ∨ g = 54) (hb : Bx S b e [.map r]) {kv : List (Bs × V)} (h : MapS S r kv) (hn : (kv.map (·.1)).Nodup) (hs : ∀ p ∈ kv, p.1.length < 4611686018427387904) (hl : kv.length < 1000000) :
 ∃ v U, (ev E0 KD (n + 1)).f 44 [.fn (.func g) [] [.ptr b 0]] S = some (.ret v, U) ∧ TL U v (sortB (kv.map (·.1))) ∧ Grew (fun _ => False) S U := by
 obtain ⟨es, c, h1, h2, h3, h4⟩ := h
 have hlen : es.length = kv.length := by
  have := congrArg List.length h2
  simpa [esKV, kvS] using this
 have hso : sortedOf es c = some ((sortB (kv.map (·.1))).map kp) := by
  unfold sortedOf
  rw [h3, ble_true.2 h4, shortKeys_of h2 hs, blt_true.2 (by omega : es.length < 1000000)]
  simp only [Bool.and_self, cond_true]
  rw [keysS_sort h2, oB, rising_of (sortB_pw hn)]; rfl
 have hk : (kfSorted [53, 54] 9).run [.fn (.func g) [] [.ptr b 0]] S = sortedK 9 (.map r) S := by
  show (bif memN g [53, 54] && Nat.beq 0 0 then (ld S b 0).bind fun q => sortedK 9 q.1 q.2 else none) = _
  have hl := Bx.ldv ho hb big1 (i := 0) rfl
  rw [show ld S b 0 = some (.map r, S) from hl]
  rcases hg with rfl | rfl <;> rfl
 have hev : ∀ R, (kfSorted [53, 54] 9).run [.fn (.func g) [] [.ptr b 0]] S = some R → (ev E0 KD (n + 1)).f 44 [.fn (.func g) [] [.ptr b 0]] S = some R := fun R hR => by
  rw [ev_known (K := KD) (f := 44) (g := kfSorted [53, 54] 9) (by rfl)]
  exact hR
 have hsk : sortedK 9 (.map r) S = (match (sortB (kv.map (·.1))).map kp with
  | [] => some (.ret .nilslice, S)
  | x :: l => some (.ret (.oslice S.next 0 (l.length + 1) 1), newCells S 9 1 (rowKeys (x :: l)))) := by
  unfold sortedK
  simp only
  rw [getO_off ho h1, oB]
  simp only
  rw [hso, oB]
  generalize (sortB (kv.map (·.1))).map kp = L
  cases L <;> rfl
 rw [hsk] at hk
 cases hq : sortB (kv.map (·.1)) with
 | nil =>
  rw [hq] at hk
  exact ⟨_, S, hev _ hk, .nil, Grew.refl _ _⟩
 | cons x l =>
  rw [hq] at hk
  refine ⟨_, _, hev _ hk, ?_, grew_nw ho _ _⟩
  have hll : (x :: l).length = (l.map kp).length + 1 := by rw [List.length_map]; rfl
  rw [← hll]
  refine .own ?_ (by show S.next < S.next + 1; omega)
  have hrk : rowKeys ((x :: l).map kp) = rowOf (x :: l) := by
   unfold rowKeys rowOf
   rw [List.map_map]; rfl
  have hlt : (x :: l).length < 1000000 := by rw [← hq, (sortB_perm _).length_eq, List.length_map]; exact hl
  have := rowAt_newCells (e := 9) (z := 1) (l := rowOf (x :: l)) ho (by omega) (by rw [rowOf_length, Nat.one_mul]; unfold big; omega)
  rw [← hrk] at this
  rw [← hrk]
  exact this
end
end Go.Proofs.Ytginkdeicmdmaaa.W
