/-
  WHAT THE FUNCTIONS COME TO: each is read by the evaluator, printed, and told as a function of data, part 2 of 7 (no condition).
-/
import Derived.Test.YtginkdeicmdmaaaW1
import Derived.Test.YtginkdeicmdmaaaProg
import Derived.KernelRfl
namespace Go.Proofs.Ytginkdeicmdmaaa.W
open Go.Proofs.Ytginkdeicmdmaaa.Ev
set_option maxRecDepth 100000
noncomputable section
noncomputable def C5 : Code := Try.f5.body.getD .skip
noncomputable def B5 : D := (annot C5 [[], [], [], [], [], [], [], [0, 5], [], [0], [], [], [], [], [0, 0], [4], []]).1
noncomputable def RL5 : List Nat := cellsOf Try.f5.results.toList
noncomputable def R5_41 (self : EV) (N : Nat) (nk : Ac → St → Rs) (ek : Nat → Ac → St → Rs) (a : Ac) (S : St) : Rs := projK [0] a fun a => dr E0 self RL5 N (B5.r.r.r.r).r (mkK E0 self Try.f5 nk ek) a S
theorem R5_41_eq (self : EV) (N : Nat) (nk : Ac → St → Rs) (ek : Nat → Ac → St → Rs) ( v0 : V) (S : St) : R5_41 self N nk ek (fr 73 [(0, v0)]) S =
callP (self.f 23 [v0, (sv [110, 111, 110, 101])] S) fun t43 S43 =>
callP (self.f 24 [v0, (sv [110, 111, 110, 101])] S43) fun t45 S45 =>
callP (self.f 17 [t43, t45] S45) fun t46 S46 =>
(guardV true t46).bind fun g48 => callP (bif g48 then self.f 14 [] S46 else some (.ret (.tuple []), S46)) fun t48 S48 =>
(pickV t46 (some t48) (some (.bool false))).bind fun t49 =>
some (.ret t49, S48) := by kernel_rfl
noncomputable def L5_52 (self : EV) (N : Nat) (nk : Ac → St → Rs) (ek : Nat → Ac → St → Rs) (n : Nat) ( v0 v5 : V) (S : St) : Rs := loopK [0, 5] (dr E0 self RL5 N (B5.r.r.r.r.l.r.l.l)) (mkK E0 self Try.f5 nk ek) n (fr 73 [(0, v0), (5, v5)]) S
theorem L5_52_eq (self : EV) (N : Nat) (nk : Ac → St → Rs) (ek : Nat → Ac → St → Rs) (n : Nat) ( v0 v5 : V) (S : St) : L5_52 self N nk ek (n + 1) v0 v5 S =
(lnS v0 S).bind fun p55 =>
(binV E0 .lss 3 false false v5 p55.1).bind fun t56 =>
ifK t56 (
(ixP 4 v0 v5).bind fun t60 =>
(faP 0 false 1 t60).bind fun t61 =>
(ld1 t61 (onS p55.2)).bind fun p62 =>
callD (planOf E0 (B5.r.r.r.r.l.r.l.l.r.l.l.l).ops) p55.2 6 [[], [], [], [], [], p62.2.log] (self.f 23 [v0, p62.1] (onS p62.2)) fun t63 S63 =>
(ixP 4 v0 v5).bind fun t67 =>
(faP 0 false 1 t67).bind fun t68 =>
(ld1 t68 (onS S63)).bind fun p69 =>
callD (planOf E0 (B5.r.r.r.r.l.r.l.l.r.l.l.l).ops) p55.2 13 [[], [], [], [], [], p62.2.log, S63.log, [], [], [], [], [], p69.2.log] (self.f 24 [v0, p69.1] (onS p69.2)) fun t70 S70 =>
callD (planOf E0 (B5.r.r.r.r.l.r.l.l.r.l.l.l).ops) p55.2 14 [[], [], [], [], [], p62.2.log, S63.log, [], [], [], [], [], p69.2.log, S70.log] (self.f 17 [t63, t70] (onS S70)) fun t71 S71 =>
(unV .not t71).bind fun t72 =>
endP [(5, [12]), (6, [12])] p55.2 [[], [], [], [], [], p62.2.log, S63.log, [], [], [], [], [], p69.2.log, S70.log, S71.log, []] (onS S71) fun S73 =>
ifK t72 (
some (.ret (.bool false), S73)) (
(binV E0 .add 3 false true v5 (.int .i64 1)).bind fun t76 =>
L5_52 self N nk ek n v0 t76 S73)) (
ek 0 (fr 73 [(0, v0)]) p55.2) := by kernel_rfl
noncomputable def F5 (self : EV) (N : Nat) (x0 x1 : V) (S : St) : Rs := runF E0 self N Try.f5 B5 [x0, x1] S
theorem F5_eq (self : EV) (N : Nat) (x0 x1 : V) (S : St) : F5 self N x0 x1 S =
callP (self.f 15 [x0] S) fun t2 S2 =>
callP (self.f 16 [x1] S2) fun t5 S5 =>
callP (self.f 9 [t2, t5] S5) fun t9 S9 =>
callP (self.f 18 [t2, t5] S9) fun t12 S12 =>
callP (self.f 17 [t9, t12] S12) fun t13 S13 =>
(unV .not t13).bind fun t14 =>
(guardV false t14).bind fun g16 => (bif g16 then some t2 else some (.tuple [])).bind fun t16 =>
(guardV false t14).bind fun g17 => (bif g17 then some t5 else some (.tuple [])).bind fun t17 =>
(guardV false t14).bind fun g18 => callP (bif g18 then self.f 10 [t16, t17] S13 else some (.ret (.tuple []), S13)) fun t18 S18 =>
(guardV false t14).bind fun g19 => (bif g19 then some t2 else some (.tuple [])).bind fun t19 =>
(guardV false t14).bind fun g20 => (bif g20 then some t5 else some (.tuple [])).bind fun t20 =>
(guardV false t14).bind fun g21 => callP (bif g21 then self.f 19 [t19, t20] S18 else some (.ret (.tuple []), S18)) fun t21 S21 =>
(guardV false t14).bind fun g22 => callP (bif g22 then self.f 17 [t18, t21] S21 else some (.ret (.tuple []), S21)) fun t22 S22 =>
(guardV false t14).bind fun g23 => (bif g23 then unV .not t22 else some (.tuple [])).bind fun t23 =>
(pickV t14 (some (.bool true)) (some t23)).bind fun t24 =>
(guardV false t24).bind fun g26 => (bif g26 then some t2 else some (.tuple [])).bind fun t26 =>
(guardV false t24).bind fun g27 => callP (bif g27 then self.f 12 [t26] S22 else some (.ret (.tuple []), S22)) fun t27 S27 =>
(guardV false t24).bind fun g28 => (bif g28 then some t2 else some (.tuple [])).bind fun t28 =>
(guardV false t24).bind fun g29 => callP (bif g29 then self.f 20 [t28] S27 else some (.ret (.tuple []), S27)) fun t29 S29 =>
(guardV false t24).bind fun g30 => (bif g30 then binV E0 .neq 4 false false t27 t29 else some (.tuple [])).bind fun t30 =>
(pickV t24 (some (.bool true)) (some t30)).bind fun t31 =>
(guardV false t31).bind fun g33 => (bif g33 then some t2 else some (.tuple [])).bind fun t33 =>
(guardV false t31).bind fun g34 => callP (bif g34 then self.f 21 [t33] S29 else some (.ret (.tuple []), S29)) fun t34 S34 =>
(guardV false t31).bind fun g35 => (bif g35 then some t2 else some (.tuple [])).bind fun t35 =>
(guardV false t31).bind fun g36 => callP (bif g36 then self.f 22 [t35] S34 else some (.ret (.tuple []), S34)) fun t36 S36 =>
(guardV false t31).bind fun g37 => callP (bif g37 then self.f 17 [t34, t36] S36 else some (.ret (.tuple []), S36)) fun t37 S37 =>
(guardV false t31).bind fun g38 => (bif g38 then unV .not t37 else some (.tuple [])).bind fun t38 =>
(pickV t31 (some (.bool true)) (some t38)).bind fun t39 =>
ifK t39 (
some (.ret (.bool false), S37)) (
L5_52 self N (R5_41 self N (finN E0 self Try.f5) noEx) (exB 0 (R5_41 self N (finN E0 self Try.f5) noEx) noEx) N t2 (.int .i64 0) S37) := by kernel_rfl
noncomputable def C15 : Code := Try.f15.body.getD .skip
noncomputable def B15 : D := (annot C15 [[], [], [], [0, 3, 4], [], [3], [], [], [0, 3], [2], []]).1
noncomputable def RL15 : List Nat := cellsOf Try.f15.results.toList
noncomputable def R15_2 (self : EV) (N : Nat) (nk : Ac → St → Rs) (ek : Nat → Ac → St → Rs) (a : Ac) (S : St) : Rs := projK [3] a fun a => dr E0 self RL15 N (B15.r.r).r (mkK E0 self Try.f15 nk ek) a S
theorem R15_2_eq (self : EV) (N : Nat) (nk : Ac → St → Rs) (ek : Nat → Ac → St → Rs) ( v3 : V) (S : St) : R15_2 self N nk ek (fr 39 [(3, v3)]) S =
some (.ret v3, S) := by kernel_rfl
noncomputable def L15_6 (self : EV) (N : Nat) (nk : Ac → St → Rs) (ek : Nat → Ac → St → Rs) (n : Nat) ( v0 v3 v4 : V) (S : St) : Rs := loopK [0, 3, 4] (dr E0 self RL15 N (B15.r.r.l.r.l.l)) (mkK E0 self Try.f15 nk ek) n (fr 39 [(0, v0), (3, v3), (4, v4)]) S
theorem L15_6_eq (self : EV) (N : Nat) (nk : Ac → St → Rs) (ek : Nat → Ac → St → Rs) (n : Nat) ( v0 v3 v4 : V) (S : St) : L15_6 self N nk ek (n + 1) v0 v3 v4 S =
(lnS v0 S).bind fun p9 =>
(binV E0 .lss 3 false false v4 p9.1).bind fun t10 =>
(guardV true t10).bind fun g12 => (bif g12 then some v4 else some (.tuple [])).bind fun t12 =>
(guardV true t10).bind fun g13 => (bif g13 then binV E0 .lss 3 false true t12 (.int .i64 25) else some (.tuple [])).bind fun t13 =>
(pickV t10 (some t13) (some (.bool false))).bind fun t14 =>
ifK t14 (
(ixP 4 v0 v4).bind fun t18 =>
(faP 0 false 1 t18).bind fun t19 =>
(ld1 t19 (onS p9.2)).bind fun p20 =>
(ixP 4 v0 v4).bind fun t23 =>
(faP 0 false 1 t23).bind fun t24 =>
(ld1 t24 (onS p20.2)).bind fun p25 =>
(lnStr p25.1 (onS p25.2)).bind fun p26 =>
(foldK minV p26.1 [(.int .i64 60)] (onS p26.2)).bind fun p27 =>
(sliceV E0 9 p20.1 none (some p27.1) none (onS p27.2)).bind fun p28 =>
(ixP 4 v0 v4).bind fun t31 =>
(faP 1 false 1 t31).bind fun t32 =>
(ld1 t32 (onS p28.2)).bind fun p33 =>
callD (planOf E0 (B15.r.r.l.r.l.l.r.l.l).ops) p9.2 19 [[], [], [], [], [], p20.2.log, [], [], [], [], p25.2.log, p26.2.log, p27.2.log, p28.2.log, [], [], [], [], p33.2.log] (self.f 16 [p33.1] (onS p33.2)) fun t34 S34 =>
(buildV E0 28 [(0, p28.1), (1, t34)]).bind fun t35 =>
(bsP 28 4 1 (Tr.ofListFrom .nil [(sv []), .nilslice, (sv []), (sv [])] 0) [(0, t35)] (onS S34)).bind fun p36 =>
(apP 28 4 72 v3 p36.1 (onS p36.2)).bind fun p37 =>
endP [(5, [10, 11, 12, 18, 19]), (10, [18, 19]), (11, [18, 19]), (12, [18, 19]), (13, [18, 19])] p9.2 [[], [], [], [], [], p20.2.log, [], [], [], [], p25.2.log, p26.2.log, p27.2.log, p28.2.log, [], [], [], [], p33.2.log, S34.log, [], p36.2.log, p37.2.log, []] (onS p37.2) fun S39 =>
(binV E0 .add 3 false true v4 (.int .i64 1)).bind fun t41 =>
L15_6 self N nk ek n v0 p37.1 t41 S39) (
ek 0 (fr 39 [(3, v3)]) p9.2) := by kernel_rfl
noncomputable def F15 (self : EV) (N : Nat) (x0 : V) (S : St) : Rs := runF E0 self N Try.f15 B15 [x0] S
theorem F15_eq (self : EV) (N : Nat) (x0 : V) (S : St) : F15 self N x0 S =
L15_6 self N (R15_2 self N (finN E0 self Try.f15) noEx) (exB 0 (R15_2 self N (finN E0 self Try.f15) noEx) noEx) N x0 .nilslice (.int .i64 0) S := by kernel_rfl
noncomputable def C16 : Code := Try.f16.body.getD .skip
noncomputable def B16 : D := (annot C16 [[], [], [], [0, 3, 4], [], [3], [], [], [0, 3], [2], []]).1
noncomputable def RL16 : List Nat := cellsOf Try.f16.results.toList
noncomputable def R16_2 (self : EV) (N : Nat) (nk : Ac → St → Rs) (ek : Nat → Ac → St → Rs) (a : Ac) (S : St) : Rs := projK [3] a fun a => dr E0 self RL16 N (B16.r.r).r (mkK E0 self Try.f16 nk ek) a S
theorem R16_2_eq (self : EV) (N : Nat) (nk : Ac → St → Rs) (ek : Nat → Ac → St → Rs) ( v3 : V) (S : St) : R16_2 self N nk ek (fr 30 [(3, v3)]) S =
some (.ret v3, S) := by kernel_rfl
noncomputable def L16_6 (self : EV) (N : Nat) (nk : Ac → St → Rs) (ek : Nat → Ac → St → Rs) (n : Nat) ( v0 v3 v4 : V) (S : St) : Rs := loopK [0, 3, 4] (dr E0 self RL16 N (B16.r.r.l.r.l.l)) (mkK E0 self Try.f16 nk ek) n (fr 30 [(0, v0), (3, v3), (4, v4)]) S
theorem L16_6_eq (self : EV) (N : Nat) (nk : Ac → St → Rs) (ek : Nat → Ac → St → Rs) (n : Nat) ( v0 v3 v4 : V) (S : St) : L16_6 self N nk ek (n + 1) v0 v3 v4 S =
(lnS v0 S).bind fun p9 =>
(binV E0 .lss 3 false false v4 p9.1).bind fun t10 =>
(guardV true t10).bind fun g12 => (bif g12 then some v4 else some (.tuple [])).bind fun t12 =>
(guardV true t10).bind fun g13 => (bif g13 then binV E0 .lss 3 false true t12 (.int .i64 10) else some (.tuple [])).bind fun t13 =>
(pickV t10 (some t13) (some (.bool false))).bind fun t14 =>
ifK t14 (
(ixP 1 v0 v4).bind fun t18 =>
(ld1 t18 (onS p9.2)).bind fun p19 =>
(ixP 1 v0 v4).bind fun t22 =>
(ld1 t22 (onS p19.2)).bind fun p23 =>
(lnStr p23.1 (onS p23.2)).bind fun p24 =>
(foldK minV p24.1 [(.int .i64 60)] (onS p24.2)).bind fun p25 =>
(sliceV E0 9 p19.1 none (some p25.1) none (onS p25.2)).bind fun p26 =>
(bsP 9 1 1 (Go.Proofs.Ytginkdeicmdmaaa.Ev.one (sv [])) [(0, p26.1)] (onS p26.2)).bind fun p27 =>
(apP 9 1 16 v3 p27.1 (onS p27.2)).bind fun p28 =>
endP [(4, [8, 9, 10])] p9.2 [[], [], [], [], p19.2.log, [], [], [], p23.2.log, p24.2.log, p25.2.log, p26.2.log, p27.2.log, p28.2.log, []] (onS p28.2) fun S30 =>
(binV E0 .add 3 false true v4 (.int .i64 1)).bind fun t32 =>
L16_6 self N nk ek n v0 p28.1 t32 S30) (
ek 0 (fr 30 [(3, v3)]) p9.2) := by kernel_rfl
noncomputable def F16 (self : EV) (N : Nat) (x0 : V) (S : St) : Rs := runF E0 self N Try.f16 B16 [x0] S
theorem F16_eq (self : EV) (N : Nat) (x0 : V) (S : St) : F16 self N x0 S =
L16_6 self N (R16_2 self N (finN E0 self Try.f16) noEx) (exB 0 (R16_2 self N (finN E0 self Try.f16) noEx) noEx) N x0 .nilslice (.int .i64 0) S := by kernel_rfl
noncomputable def C17 : Code := Try.f17.body.getD .skip
noncomputable def B17 : D := (annot C17 [[], [], [], [], [], [0, 1, 5], [], [], [], [], [], [], [0], [4], []]).1
noncomputable def RL17 : List Nat := cellsOf Try.f17.results.toList
noncomputable def R17_7 (self : EV) (N : Nat) (nk : Ac → St → Rs) (ek : Nat → Ac → St → Rs) (a : Ac) (S : St) : Rs := projK [] a fun a => dr E0 self RL17 N (B17.r.r).r (mkK E0 self Try.f17 nk ek) a S
theorem R17_7_eq (self : EV) (N : Nat) (nk : Ac → St → Rs) (ek : Nat → Ac → St → Rs) (S : St) : R17_7 self N nk ek (fr 26 []) S =
some (.ret (.bool true), S) := by kernel_rfl
noncomputable def L17_10 (self : EV) (N : Nat) (nk : Ac → St → Rs) (ek : Nat → Ac → St → Rs) (n : Nat) ( v0 v1 v5 : V) (S : St) : Rs := loopK [0, 1, 5] (dr E0 self RL17 N (B17.r.r.l.r.l.l)) (mkK E0 self Try.f17 nk ek) n (fr 26 [(0, v0), (1, v1), (5, v5)]) S
theorem L17_10_eq (self : EV) (N : Nat) (nk : Ac → St → Rs) (ek : Nat → Ac → St → Rs) (n : Nat) ( v0 v1 v5 : V) (S : St) : L17_10 self N nk ek (n + 1) v0 v1 v5 S =
(lnS v0 S).bind fun p13 =>
(binV E0 .lss 3 false false v5 p13.1).bind fun t14 =>
ifK t14 (
(ixP 1 v0 v5).bind fun t17 =>
(ld1 t17 (onS p13.2)).bind fun p18 =>
(ixP 1 v1 v5).bind fun t21 =>
(ld1 t21 (onS p18.2)).bind fun p22 =>
(binV E0 .neq 9 false false p18.1 p22.1).bind fun t23 =>
endP [(3, [7])] p13.2 [[], [], [], p18.2.log, [], [], [], p22.2.log, []] (onS p22.2) fun S24 =>
ifK t23 (
some (.ret (.bool false), S24)) (
(binV E0 .add 3 false true v5 (.int .i64 1)).bind fun t27 =>
L17_10 self N nk ek n v0 v1 t27 S24)) (
ek 0 (fr 26 []) p13.2) := by kernel_rfl
noncomputable def F17 (self : EV) (N : Nat) (x0 x1 : V) (S : St) : Rs := runF E0 self N Try.f17 B17 [x0, x1] S
theorem F17_eq (self : EV) (N : Nat) (x0 x1 : V) (S : St) : F17 self N x0 x1 S =
(lnS x0 S).bind fun p2 =>
(lnS x1 p2.2).bind fun p4 =>
(binV E0 .neq 3 false false p2.1 p4.1).bind fun t5 =>
ifK t5 (
some (.ret (.bool false), p4.2)) (
L17_10 self N (R17_7 self N (finN E0 self Try.f17) noEx) (exB 0 (R17_7 self N (finN E0 self Try.f17) noEx) noEx) N x0 x1 (.int .i64 0) p4.2) := by kernel_rfl
noncomputable def C18 : Code := Try.f18.body.getD .skip
noncomputable def B18 : D := (annot C18 [[], [], [], [0, 1, 5, 6], [], [0, 5], [], [], [], [0, 0, 5], [4], [0, 5], [], [], [], [0, 5, 7, 8, 9], [], [0, 7, 8], [], [], [], [0, 5, 7, 8, 9, 10, 11], [], [0, 5, 7, 8, 9], [], [], [], [0, 0, 5, 7, 8, 9], [0, 5, 7, 8, 9], [0, 0, 7, 8], [0, 5], [], [], []]).1
noncomputable def RL18 : List Nat := cellsOf Try.f18.results.toList
noncomputable def R18_2 (self : EV) (N : Nat) (nk : Ac → St → Rs) (ek : Nat → Ac → St → Rs) (a : Ac) (S : St) : Rs := projK [0, 5] a fun a => dr E0 self RL18 N (B18.r.r).r (mkK E0 self Try.f18 nk ek) a S
noncomputable def N18_3 (self : EV) (N : Nat) (nk : Ac → St → Rs) (ek : Nat → Ac → St → Rs) (n : Nat) : Ac → St → Rs := fun a S => projK [0, 5] a fun a => loopK [0, 5] (dr E0 self RL18 N (B18.r.r.r.l.l.l)) (mkK E0 self Try.f18 nk ek) n a S
noncomputable def L18_3 (self : EV) (N : Nat) (nk : Ac → St → Rs) (ek : Nat → Ac → St → Rs) (n : Nat) ( v0 v5 : V) (S : St) : Rs := loopK [0, 5] (dr E0 self RL18 N (B18.r.r.r.l.l.l)) (mkK E0 self Try.f18 nk ek) n (fr 77 [(0, v0), (5, v5)]) S
noncomputable def R18_9 (self : EV) (N : Nat) (nk : Ac → St → Rs) (ek : Nat → Ac → St → Rs) (a : Ac) (S : St) : Rs := projK [0, 7, 8] a fun a => dr E0 self RL18 N (B18.r.r.r.l.l.l.l.r.r).r (mkK E0 self Try.f18 nk ek) a S
theorem R18_9_eq (self : EV) (N : Nat) (nk : Ac → St → Rs) (ek : Nat → Ac → St → Rs) ( v0 v7 v8 : V) (S : St) : R18_9 self N nk ek (fr 77 [(0, v0), (7, v7), (8, v8)]) S =
(lnS v8 S).bind fun p13 =>
(binV E0 .eql 3 false false p13.1 v7).bind fun t15 =>
ifK t15 (
some (.ret v8, p13.2)) (
nk (fr 77 [(0, v0), (5, v8)]) p13.2) := by kernel_rfl
noncomputable def N18_19 (self : EV) (N : Nat) (nk : Ac → St → Rs) (ek : Nat → Ac → St → Rs) (n : Nat) : Ac → St → Rs := fun a S => projK [0, 5, 7, 8, 9] a fun a => loopK [0, 5, 7, 8, 9] (dr E0 self RL18 N (B18.r.r.r.l.l.l.l.r.r.l.r.l.l)) (mkK E0 self Try.f18 nk ek) n a S
noncomputable def L18_19 (self : EV) (N : Nat) (nk : Ac → St → Rs) (ek : Nat → Ac → St → Rs) (n : Nat) ( v0 v5 v7 v8 v9 : V) (S : St) : Rs := loopK [0, 5, 7, 8, 9] (dr E0 self RL18 N (B18.r.r.r.l.l.l.l.r.r.l.r.l.l)) (mkK E0 self Try.f18 nk ek) n (fr 77 [(0, v0), (5, v5), (7, v7), (8, v8), (9, v9)]) S
noncomputable def R18_24 (self : EV) (N : Nat) (nk : Ac → St → Rs) (ek : Nat → Ac → St → Rs) (a : Ac) (S : St) : Rs := projK [0, 5, 7, 8, 9] a fun a => dr E0 self RL18 N (B18.r.r.r.l.l.l.l.r.r.l.r.l.l.r).r (mkK E0 self Try.f18 nk ek) a S
theorem R18_24_eq (self : EV) (N : Nat) (nk : Ac → St → Rs) (ek : Nat → Ac → St → Rs) ( v0 v5 v7 v8 v9 : V) (S : St) : R18_24 self N nk ek (fr 77 [(0, v0), (5, v5), (7, v7), (8, v8), (9, v9)]) S =
(binV E0 .add 3 false true v9 (.int .i64 1)).bind fun t26 =>
nk (fr 77 [(0, v0), (5, v5), (7, v7), (8, v8), (9, t26)]) S := by kernel_rfl
noncomputable def L18_40 (self : EV) (N : Nat) (nk : Ac → St → Rs) (ek : Nat → Ac → St → Rs) (n : Nat) ( v0 v5 v7 v8 v9 v10 v11 : V) (S : St) : Rs := loopK [0, 5, 7, 8, 9, 10, 11] (dr E0 self RL18 N (B18.r.r.r.l.l.l.l.r.r.l.r.l.l.r.l.l.r.r.l.l)) (mkK E0 self Try.f18 nk ek) n (fr 77 [(0, v0), (5, v5), (7, v7), (8, v8), (9, v9), (10, v10), (11, v11)]) S
theorem L18_40_eq (self : EV) (N : Nat) (nk : Ac → St → Rs) (ek : Nat → Ac → St → Rs) (n : Nat) ( v0 v5 v7 v8 v9 v10 v11 : V) (S : St) : L18_40 self N nk ek (n + 1) v0 v5 v7 v8 v9 v10 v11 S =
(faP 1 false 1 v10).bind fun t42 =>
(ld1 t42 S).bind fun p43 =>
(lnS p43.1 p43.2).bind fun p44 =>
(binV E0 .lss 3 false false v11 p44.1).bind fun t45 =>
ifK t45 (
(faP 1 false 1 v10).bind fun t47 =>
(ld1 t47 p44.2).bind fun p48 =>
(ixP 1 p48.1 v11).bind fun t50 =>
(ld1 t50 p48.2).bind fun p51 =>
callP (self.f 32 [v0, p51.1] p51.2) fun t52 S52 =>
(binV E0 .geq 3 false true t52 (.int .i64 0)).bind fun t53 =>
ifK t53 (
(faP 1 false 1 v10).bind fun t55 =>
(ld1 t55 S52).bind fun p56 =>
(ixP 1 p56.1 v11).bind fun t58 =>
(ld1 t58 p56.2).bind fun p59 =>
callP (self.f 33 [v8, p59.1] p59.2) fun t60 S60 =>
(binV E0 .add 3 false true v11 (.int .i64 1)).bind fun t63 =>
L18_40 self N nk ek n v0 v5 v7 t60 v9 v10 t63 S60) (
(binV E0 .add 3 false true v11 (.int .i64 1)).bind fun t66 =>
L18_40 self N nk ek n v0 v5 v7 v8 v9 v10 t66 S52)) (
ek 6 (fr 77 [(0, v0), (5, v5), (7, v7), (8, v8), (9, v9)]) p44.2) := by kernel_rfl
theorem L18_19_eq (self : EV) (N : Nat) (nk : Ac → St → Rs) (ek : Nat → Ac → St → Rs) (n : Nat) ( v0 v5 v7 v8 v9 : V) (S : St) : L18_19 self N nk ek (n + 1) v0 v5 v7 v8 v9 S =
(lnS v5 S).bind fun p22 =>
(binV E0 .lss 3 false false v9 p22.1).bind fun t23 =>
ifK t23 (
(ixP 1 v5 v9).bind fun t32 =>
(ld1 t32 p22.2).bind fun p33 =>
callP (self.f 32 [v0, p33.1] p33.2) fun t34 S34 =>
(ixP 4 v0 t34).bind fun t35 =>
(ldA 4 t35 S34).bind fun p36 =>
(some (nwP 28 4 (Tr.ofListFrom .nil [(sv []), .nilslice, (sv []), (sv [])] 0) p36.2)).bind fun p37 =>
(stP 4 p37.1 p36.1 p37.2).bind fun p38 =>
L18_40 self N (R18_24 self N (N18_19 self N nk ek n) ek) (exB 6 (R18_24 self N (N18_19 self N nk ek n) ek) (exB 5 (R18_24 self N (N18_19 self N nk ek n) ek) ek)) N v0 v5 v7 v8 v9 p37.1 (.int .i64 0) p38.2) (
ek 4 (fr 77 [(0, v0), (7, v7), (8, v8)]) p22.2) := by kernel_rfl
theorem N18_19_eq (self : EV) (N : Nat) (nk : Ac → St → Rs) (ek : Nat → Ac → St → Rs) (n : Nat) ( v0 v5 v7 v8 v9 : V) (S : St) : N18_19 self N nk ek n (fr 77 [(0, v0), (5, v5), (7, v7), (8, v8), (9, v9)]) S = L18_19 self N nk ek n v0 v5 v7 v8 v9 S := by kernel_rfl
theorem L18_3_eq (self : EV) (N : Nat) (nk : Ac → St → Rs) (ek : Nat → Ac → St → Rs) (n : Nat) ( v0 v5 : V) (S : St) : L18_3 self N nk ek (n + 1) v0 v5 S =
(lnS v5 S).bind fun p5 =>
L18_19 self N (R18_9 self N (N18_3 self N nk ek n) (exB 3 (N18_3 self N nk ek n) ek)) (exB 4 (R18_9 self N (N18_3 self N nk ek n) (exB 3 (N18_3 self N nk ek n) ek)) (exB 3 (N18_3 self N nk ek n) ek)) N v0 v5 p5.1 v5 (.int .i64 0) p5.2 := by kernel_rfl
theorem N18_3_eq (self : EV) (N : Nat) (nk : Ac → St → Rs) (ek : Nat → Ac → St → Rs) (n : Nat) ( v0 v5 : V) (S : St) : N18_3 self N nk ek n (fr 77 [(0, v0), (5, v5)]) S = L18_3 self N nk ek n v0 v5 S := by kernel_rfl
theorem R18_2_eq (self : EV) (N : Nat) (nk : Ac → St → Rs) (ek : Nat → Ac → St → Rs) ( v0 v5 : V) (S : St) : R18_2 self N nk ek (fr 77 [(0, v0), (5, v5)]) S =
L18_3 self N (fun a s => projK [4] a fun a => nk a s) (exB 2 (fun a s => projK [4] a fun a => nk a s) ek) N v0 v5 S := by kernel_rfl
noncomputable def L18_69 (self : EV) (N : Nat) (nk : Ac → St → Rs) (ek : Nat → Ac → St → Rs) (n : Nat) ( v0 v1 v5 v6 : V) (S : St) : Rs := loopK [0, 1, 5, 6] (dr E0 self RL18 N (B18.r.r.l.r.l.l)) (mkK E0 self Try.f18 nk ek) n (fr 77 [(0, v0), (1, v1), (5, v5), (6, v6)]) S
theorem L18_69_eq (self : EV) (N : Nat) (nk : Ac → St → Rs) (ek : Nat → Ac → St → Rs) (n : Nat) ( v0 v1 v5 v6 : V) (S : St) : L18_69 self N nk ek (n + 1) v0 v1 v5 v6 S =
(lnS v1 S).bind fun p72 =>
(binV E0 .lss 3 false false v6 p72.1).bind fun t73 =>
ifK t73 (
(ixP 1 v1 v6).bind fun t77 =>
(ld1 t77 p72.2).bind fun p78 =>
callP (self.f 32 [v0, p78.1] p78.2) fun t79 S79 =>
(binV E0 .geq 3 false true t79 (.int .i64 0)).bind fun t80 =>
ifK t80 (
(ixP 1 v1 v6).bind fun t84 =>
(ld1 t84 S79).bind fun p85 =>
callP (self.f 33 [v5, p85.1] p85.2) fun t86 S86 =>
(binV E0 .add 3 false true v6 (.int .i64 1)).bind fun t89 =>
L18_69 self N nk ek n v0 v1 t86 t89 S86) (
(binV E0 .add 3 false true v6 (.int .i64 1)).bind fun t92 =>
L18_69 self N nk ek n v0 v1 v5 t92 S79)) (
ek 0 (fr 77 [(0, v0), (5, v5)]) p72.2) := by kernel_rfl
noncomputable def F18 (self : EV) (N : Nat) (x0 x1 : V) (S : St) : Rs := runF E0 self N Try.f18 B18 [x0, x1] S
theorem F18_eq (self : EV) (N : Nat) (x0 x1 : V) (S : St) : F18 self N x0 x1 S =
L18_69 self N (R18_2 self N (finN E0 self Try.f18) noEx) (exB 0 (R18_2 self N (finN E0 self Try.f18) noEx) noEx) N x0 x1 .nilslice (.int .i64 0) S := by kernel_rfl
end
end Go.Proofs.Ytginkdeicmdmaaa.W
namespace Go.Proofs.Ytginkdeicmdmaaa.W
open Go.Proofs.Ytginkdeicmdmaaa.Ev
set_option maxRecDepth 100000
noncomputable section
noncomputable def C36 : Code := Try.f36.body.getD .skip
noncomputable def B36 : D := (annot C36 [[], [], [], [], []]).1
noncomputable def F36 (self : EV) (N : Nat) (x0 : V) (S : St) : Rs := runF E0 self N Try.f36 B36 [x0] S
theorem F36_eq (self : EV) (N : Nat) (x0 : V) (S : St) : F36 self N x0 S =
(binV E0 .eql 48 false true x0 .nilmap).bind fun t2 =>
ifK t2 (
some (.ret .nilmap, S)) (
callP (callK E0 self (.fn (.func 48) [] []) [(.iface 48 x0)] S) fun t6 S6 =>
(assertK E0 48 false t6).bind fun t7 =>
some (.ret t7, S6)) := by kernel_rfl
noncomputable def C37 : Code := Try.f37.body.getD .skip
noncomputable def B37 : D := (annot C37 [[], []]).1
noncomputable def F37 (self : EV) (N : Nat) (x0 x1 x2 : V) (S : St) : Rs := runF E0 self N Try.f37 B37 [x0, x1, x2] S
theorem F37_eq (self : EV) (N : Nat) (x0 x1 x2 : V) (S : St) : F37 self N x0 x1 x2 S =
(boxK 9 x0 S).bind fun p0 =>
(ld1 x1 p0.2).bind fun p2 =>
(ld1 p0.1 p2.2).bind fun p3 =>
(lookupV E0 48 p2.1 p3.1 false p3.2).bind fun p4 =>
callP (self.f 38 [p4.1, (.fn (.func 39) [] [x2, p0.1])] p4.2) fun t6 S6 =>
(unV .not t6).bind fun t7 =>
some (.ret t7, S6) := by kernel_rfl
noncomputable def C38 : Code := Try.f38.body.getD .skip
noncomputable def B38 : D := (annot C38 [[], []]).1
noncomputable def F38 (self : EV) (N : Nat) (x0 x1 : V) (S : St) : Rs := runF E0 self N Try.f38 B38 [x0, x1] S
theorem F38_eq (self : EV) (N : Nat) (x0 x1 : V) (S : St) : F38 self N x0 x1 S =
callP (self.f 49 [x0, x1] S) fun t3 S3 =>
(binV E0 .geq 3 false true t3 (.int .i64 0)).bind fun t4 =>
some (.ret t4, S3) := by kernel_rfl
noncomputable def C39 : Code := Try.f39.body.getD .skip
noncomputable def B39 : D := (annot C39 [[], [], []]).1
noncomputable def F39 (self : EV) (N : Nat) (x0 x1 x2 : V) (S : St) : Rs := runF E0 self N Try.f39 B39 [x0, x1, x2] S
theorem F39_eq (self : EV) (N : Nat) (x0 x1 x2 : V) (S : St) : F39 self N x0 x1 x2 S =
(ld1 x1 S).bind fun p1 =>
(lookupV E0 48 p1.1 x0 true p1.2).bind fun p3 =>
(extractV p3.1 0).bind fun t5 =>
(extractV p3.1 1).bind fun t6 =>
(guardV true t6).bind fun g11 => (bif g11 then some x0 else some (.tuple [])).bind fun t11 =>
(guardV true t6).bind fun g12 => (bif g12 then ld1 x2 p3.2 else some (.tuple [], p3.2)).bind fun p12 =>
(guardV true t6).bind fun g13 => (bif g13 then binV E0 .neq 9 false false t11 p12.1 else some (.tuple [])).bind fun t13 =>
(pickV t6 (some t13) (some (.bool false))).bind fun t14 =>
some (.ret t14, p12.2) := by kernel_rfl
noncomputable def C40 : Code := Try.f40.body.getD .skip
noncomputable def B40 : D := (annot C40 [[], []]).1
noncomputable def F40 (self : EV) (N : Nat) (x0 : V) (S : St) : Rs := runF E0 self N Try.f40 B40 [x0] S
theorem F40_eq (self : EV) (N : Nat) (x0 : V) (S : St) : F40 self N x0 S =
some (.ret (.bool true), S) := by kernel_rfl
noncomputable def C42 : Code := Try.f42.body.getD .skip
noncomputable def B42 : D := (annot C42 [[], []]).1
noncomputable def F42 (self : EV) (N : Nat) (x0 x1 x2 : V) (S : St) : Rs := runF E0 self N Try.f42 B42 [x0, x1, x2] S
theorem F42_eq (self : EV) (N : Nat) (x0 x1 x2 : V) (S : St) : F42 self N x0 x1 x2 S =
(ld1 x1 S).bind fun p2 =>
(binV E0 .neq 9 false false x0 p2.1).bind fun t3 =>
(guardV true t3).bind fun g5 => (bif g5 then ld1 x2 p2.2 else some (.tuple [], p2.2)).bind fun p5 =>
(guardV true t3).bind fun g6 => (bif g6 then some x0 else some (.tuple [])).bind fun t6 =>
(guardV true t3).bind fun g7 => (bif g7 then lookupV E0 48 p5.1 t6 false p5.2 else some (.tuple [], p5.2)).bind fun p7 =>
(guardV true t3).bind fun g8 => (bif g8 then ld1 x1 p7.2 else some (.tuple [], p7.2)).bind fun p8 =>
(guardV true t3).bind fun g9 => callP (bif g9 then self.f 43 [p7.1, p8.1] p8.2 else some (.ret (.tuple []), p8.2)) fun t9 S9 =>
(pickV t3 (some t9) (some (.bool false))).bind fun t10 =>
some (.ret t10, S9) := by kernel_rfl
noncomputable def C43 : Code := Try.f43.body.getD .skip
noncomputable def B43 : D := (annot C43 [[], []]).1
noncomputable def F43 (self : EV) (N : Nat) (x0 x1 : V) (S : St) : Rs := runF E0 self N Try.f43 B43 [x0, x1] S
theorem F43_eq (self : EV) (N : Nat) (x0 x1 : V) (S : St) : F43 self N x0 x1 S =
callP (self.f 50 [x0, x1] S) fun t3 S3 =>
(binV E0 .geq 3 false true t3 (.int .i64 0)).bind fun t4 =>
some (.ret t4, S3) := by kernel_rfl
noncomputable def C49 : Code := Try.f49.body.getD .skip
noncomputable def B49 : D := (annot C49 [[], [], [0, 1, 7, 8], [], [], [], [], [], [], [], [0], [4], []]).1
noncomputable def RL49 : List Nat := cellsOf Try.f49.results.toList
noncomputable def R49_1 (self : EV) (N : Nat) (nk : Ac → St → Rs) (ek : Nat → Ac → St → Rs) (a : Ac) (S : St) : Rs := projK [] a fun a => dr E0 self RL49 N (B49.r).r (mkK E0 self Try.f49 nk ek) a S
theorem R49_1_eq (self : EV) (N : Nat) (nk : Ac → St → Rs) (ek : Nat → Ac → St → Rs) (S : St) : R49_1 self N nk ek (fr 19 []) S =
some (.ret (.int .i64 (-1)), S) := by kernel_rfl
noncomputable def L49_6 (self : EV) (N : Nat) (nk : Ac → St → Rs) (ek : Nat → Ac → St → Rs) (n : Nat) ( v0 v1 v7 v8 : V) (S : St) : Rs := loopK [0, 1, 7, 8] (dr E0 self RL49 N (B49.r.l.r.l.l)) (mkK E0 self Try.f49 nk ek) n (fr 19 [(0, v0), (1, v1), (7, v7), (8, v8)]) S
theorem L49_6_eq (self : EV) (N : Nat) (nk : Ac → St → Rs) (ek : Nat → Ac → St → Rs) (n : Nat) ( v0 v1 v7 v8 : V) (S : St) : L49_6 self N nk ek (n + 1) v0 v1 v7 v8 S =
(binV E0 .lss 3 false false v8 v7).bind fun t7 =>
ifK t7 (
(ixP 1 v0 v8).bind fun t13 =>
(ld1 t13 S).bind fun p14 =>
callP (callK E0 self v1 [p14.1] p14.2) fun t15 S15 =>
ifK t15 (
some (.ret v8, S15)) (
(binV E0 .add 3 false true v8 (.int .i64 1)).bind fun t18 =>
L49_6 self N nk ek n v0 v1 v7 t18 S15)) (
ek 0 (fr 19 []) S) := by kernel_rfl
noncomputable def F49 (self : EV) (N : Nat) (x0 x1 : V) (S : St) : Rs := runF E0 self N Try.f49 B49 [x0, x1] S
theorem F49_eq (self : EV) (N : Nat) (x0 x1 : V) (S : St) : F49 self N x0 x1 S =
(lnS x0 S).bind fun p4 =>
L49_6 self N (R49_1 self N (finN E0 self Try.f49) noEx) (exB 0 (R49_1 self N (finN E0 self Try.f49) noEx) noEx) N x0 x1 p4.1 (.int .i64 0) p4.2 := by kernel_rfl
noncomputable def C50 : Code := Try.f50.body.getD .skip
noncomputable def B50 : D := (annot C50 [[], [], [0, 1, 7, 8], [], [], [], [], [], [], [], [0], [4], []]).1
noncomputable def RL50 : List Nat := cellsOf Try.f50.results.toList
noncomputable def R50_1 (self : EV) (N : Nat) (nk : Ac → St → Rs) (ek : Nat → Ac → St → Rs) (a : Ac) (S : St) : Rs := projK [] a fun a => dr E0 self RL50 N (B50.r).r (mkK E0 self Try.f50 nk ek) a S
theorem R50_1_eq (self : EV) (N : Nat) (nk : Ac → St → Rs) (ek : Nat → Ac → St → Rs) (S : St) : R50_1 self N nk ek (fr 19 []) S =
some (.ret (.int .i64 (-1)), S) := by kernel_rfl
noncomputable def L50_6 (self : EV) (N : Nat) (nk : Ac → St → Rs) (ek : Nat → Ac → St → Rs) (n : Nat) ( v0 v1 v7 v8 : V) (S : St) : Rs := loopK [0, 1, 7, 8] (dr E0 self RL50 N (B50.r.l.r.l.l)) (mkK E0 self Try.f50 nk ek) n (fr 19 [(0, v0), (1, v1), (7, v7), (8, v8)]) S
theorem L50_6_eq (self : EV) (N : Nat) (nk : Ac → St → Rs) (ek : Nat → Ac → St → Rs) (n : Nat) ( v0 v1 v7 v8 : V) (S : St) : L50_6 self N nk ek (n + 1) v0 v1 v7 v8 S =
(binV E0 .lss 3 false false v8 v7).bind fun t7 =>
ifK t7 (
(ixP 1 v0 v8).bind fun t13 =>
(ld1 t13 S).bind fun p14 =>
(binV E0 .eql 9 false false v1 p14.1).bind fun t15 =>
ifK t15 (
some (.ret v8, p14.2)) (
(binV E0 .add 3 false true v8 (.int .i64 1)).bind fun t18 =>
L50_6 self N nk ek n v0 v1 v7 t18 p14.2)) (
ek 0 (fr 19 []) S) := by kernel_rfl
noncomputable def F50 (self : EV) (N : Nat) (x0 x1 : V) (S : St) : Rs := runF E0 self N Try.f50 B50 [x0, x1] S
theorem F50_eq (self : EV) (N : Nat) (x0 x1 : V) (S : St) : F50 self N x0 x1 S =
(lnS x0 S).bind fun p4 =>
L50_6 self N (R50_1 self N (finN E0 self Try.f50) noEx) (exB 0 (R50_1 self N (finN E0 self Try.f50) noEx) noEx) N x0 x1 p4.1 (.int .i64 0) p4.2 := by kernel_rfl
end
end Go.Proofs.Ytginkdeicmdmaaa.W
namespace Go.Proofs.Ytginkdeicmdmaaa.W
open Go.Proofs.Ytginkdeicmdmaaa.Ev
set_option maxRecDepth 100000
noncomputable section
noncomputable def C32 : Code := Try.f32.body.getD .skip
noncomputable def B32 : D := (annot C32 [[], [], [0, 1, 5], [], [], [], [], [], [], [0], [4], []]).1
noncomputable def RL32 : List Nat := cellsOf Try.f32.results.toList
noncomputable def R32_1 (self : EV) (N : Nat) (nk : Ac → St → Rs) (ek : Nat → Ac → St → Rs) (a : Ac) (S : St) : Rs := projK [] a fun a => dr E0 self RL32 N (B32.r).r (mkK E0 self Try.f32 nk ek) a S
theorem R32_1_eq (self : EV) (N : Nat) (nk : Ac → St → Rs) (ek : Nat → Ac → St → Rs) (S : St) : R32_1 self N nk ek (fr 20 []) S =
some (.ret (.int .i64 (-1)), S) := by kernel_rfl
noncomputable def L32_4 (self : EV) (N : Nat) (nk : Ac → St → Rs) (ek : Nat → Ac → St → Rs) (n : Nat) ( v0 v1 v5 : V) (S : St) : Rs := loopK [0, 1, 5] (dr E0 self RL32 N (B32.r.l.r.l.l)) (mkK E0 self Try.f32 nk ek) n (fr 20 [(0, v0), (1, v1), (5, v5)]) S
theorem L32_4_eq (self : EV) (N : Nat) (nk : Ac → St → Rs) (ek : Nat → Ac → St → Rs) (n : Nat) ( v0 v1 v5 : V) (S : St) : L32_4 self N nk ek (n + 1) v0 v1 v5 S =
(lnS v0 S).bind fun p7 =>
(binV E0 .lss 3 false false v5 p7.1).bind fun t8 =>
ifK t8 (
(ixP 4 v0 v5).bind fun t11 =>
(faP 0 false 1 t11).bind fun t12 =>
(ld1 t12 p7.2).bind fun p13 =>
(binV E0 .eql 9 false false p13.1 v1).bind fun t15 =>
ifK t15 (
some (.ret v5, p13.2)) (
(binV E0 .add 3 false true v5 (.int .i64 1)).bind fun t19 =>
L32_4 self N nk ek n v0 v1 t19 p13.2)) (
ek 0 (fr 20 []) p7.2) := by kernel_rfl
noncomputable def F32 (self : EV) (N : Nat) (x0 x1 : V) (S : St) : Rs := runF E0 self N Try.f32 B32 [x0, x1] S
theorem F32_eq (self : EV) (N : Nat) (x0 x1 : V) (S : St) : F32 self N x0 x1 S =
L32_4 self N (R32_1 self N (finN E0 self Try.f32) noEx) (exB 0 (R32_1 self N (finN E0 self Try.f32) noEx) noEx) N x0 x1 (.int .i64 0) S := by kernel_rfl
noncomputable def C33 : Code := Try.f33.body.getD .skip
noncomputable def B33 : D := (annot C33 [[], [], [0, 1, 5], [], [0, 1, 5], [], [0, 0, 1, 5], [4], [], [], [], [], [], [], []]).1
noncomputable def RL33 : List Nat := cellsOf Try.f33.results.toList
noncomputable def R33_2 (self : EV) (N : Nat) (nk : Ac → St → Rs) (ek : Nat → Ac → St → Rs) (a : Ac) (S : St) : Rs := projK [0, 1, 5] a fun a => dr E0 self RL33 N (B33.r.r).r (mkK E0 self Try.f33 nk ek) a S
theorem R33_2_eq (self : EV) (N : Nat) (nk : Ac → St → Rs) (ek : Nat → Ac → St → Rs) ( v0 v1 v5 : V) (S : St) : R33_2 self N nk ek (fr 48 [(0, v0), (1, v1), (5, v5)]) S =
(lnS v0 S).bind fun p5 =>
(binV E0 .lss 3 false false v5 p5.1).bind fun t6 =>
(guardV true t6).bind fun g8 => (bif g8 then some v0 else some (.tuple [])).bind fun t8 =>
(guardV true t6).bind fun g9 => (bif g9 then some v5 else some (.tuple [])).bind fun t9 =>
(guardV true t6).bind fun g10 => (bif g10 then ixP 1 t8 t9 else some (.tuple [])).bind fun t10 =>
(guardV true t6).bind fun g11 => (bif g11 then ld1 t10 p5.2 else some (.tuple [], p5.2)).bind fun p11 =>
(guardV true t6).bind fun g12 => (bif g12 then some v1 else some (.tuple [])).bind fun t12 =>
(guardV true t6).bind fun g13 => (bif g13 then binV E0 .eql 9 false false p11.1 t12 else some (.tuple [])).bind fun t13 =>
(pickV t6 (some t13) (some (.bool false))).bind fun t14 =>
ifK t14 (
some (.ret v0, p11.2)) (
(sliceV E0 26 v0 none (some v5) none p11.2).bind fun p21 =>
(apP 9 1 16 .nilslice p21.1 p21.2).bind fun p22 =>
(bsP 9 1 1 (Go.Proofs.Ytginkdeicmdmaaa.Ev.one (sv [])) [(0, v1)] p22.2).bind fun p26 =>
(apP 9 1 16 p22.1 p26.1 p26.2).bind fun p27 =>
(sliceV E0 26 v0 (some v5) none none p27.2).bind fun p32 =>
(apP 9 1 16 p27.1 p32.1 p32.2).bind fun p33 =>
some (.ret p33.1, p33.2)) := by kernel_rfl
noncomputable def L33_35 (self : EV) (N : Nat) (nk : Ac → St → Rs) (ek : Nat → Ac → St → Rs) (n : Nat) ( v0 v1 v5 : V) (S : St) : Rs := loopK [0, 1, 5] (dr E0 self RL33 N (B33.r.r.l.l.l)) (mkK E0 self Try.f33 nk ek) n (fr 48 [(0, v0), (1, v1), (5, v5)]) S
theorem L33_35_eq (self : EV) (N : Nat) (nk : Ac → St → Rs) (ek : Nat → Ac → St → Rs) (n : Nat) ( v0 v1 v5 : V) (S : St) : L33_35 self N nk ek (n + 1) v0 v1 v5 S =
(lnS v0 S).bind fun p38 =>
(binV E0 .lss 3 false false v5 p38.1).bind fun t39 =>
(guardV true t39).bind fun g41 => (bif g41 then some v0 else some (.tuple [])).bind fun t41 =>
(guardV true t39).bind fun g42 => (bif g42 then some v5 else some (.tuple [])).bind fun t42 =>
(guardV true t39).bind fun g43 => (bif g43 then ixP 1 t41 t42 else some (.tuple [])).bind fun t43 =>
(guardV true t39).bind fun g44 => (bif g44 then ld1 t43 p38.2 else some (.tuple [], p38.2)).bind fun p44 =>
(guardV true t39).bind fun g45 => (bif g45 then some v1 else some (.tuple [])).bind fun t45 =>
(guardV true t39).bind fun g46 => (bif g46 then binV E0 .lss 9 false false p44.1 t45 else some (.tuple [])).bind fun t46 =>
(pickV t39 (some t46) (some (.bool false))).bind fun t47 =>
ifK t47 (
(binV E0 .add 3 false true v5 (.int .i64 1)).bind fun t49 =>
L33_35 self N nk ek n v0 v1 t49 p44.2) (
ek 0 (fr 48 [(0, v0), (1, v1), (5, v5)]) p44.2) := by kernel_rfl
noncomputable def F33 (self : EV) (N : Nat) (x0 x1 : V) (S : St) : Rs := runF E0 self N Try.f33 B33 [x0, x1] S
theorem F33_eq (self : EV) (N : Nat) (x0 x1 : V) (S : St) : F33 self N x0 x1 S =
L33_35 self N (R33_2 self N (finN E0 self Try.f33) noEx) (exB 0 (R33_2 self N (finN E0 self Try.f33) noEx) noEx) N x0 x1 (.int .i64 0) S := by kernel_rfl
noncomputable def C34 : Code := Try.f34.body.getD .skip
noncomputable def B34 : D := (annot C34 [[], [], [], [0, 3, 4], [], [3], [], [], [0, 3], [2], []]).1
noncomputable def RL34 : List Nat := cellsOf Try.f34.results.toList
noncomputable def R34_2 (self : EV) (N : Nat) (nk : Ac → St → Rs) (ek : Nat → Ac → St → Rs) (a : Ac) (S : St) : Rs := projK [3] a fun a => dr E0 self RL34 N (B34.r.r).r (mkK E0 self Try.f34 nk ek) a S
theorem R34_2_eq (self : EV) (N : Nat) (nk : Ac → St → Rs) (ek : Nat → Ac → St → Rs) ( v3 : V) (S : St) : R34_2 self N nk ek (fr 19 [(3, v3)]) S =
some (.ret v3, S) := by kernel_rfl
noncomputable def L34_6 (self : EV) (N : Nat) (nk : Ac → St → Rs) (ek : Nat → Ac → St → Rs) (n : Nat) ( v0 v3 v4 : V) (S : St) : Rs := loopK [0, 3, 4] (dr E0 self RL34 N (B34.r.r.l.r.l.l)) (mkK E0 self Try.f34 nk ek) n (fr 19 [(0, v0), (3, v3), (4, v4)]) S
theorem L34_6_eq (self : EV) (N : Nat) (nk : Ac → St → Rs) (ek : Nat → Ac → St → Rs) (n : Nat) ( v0 v3 v4 : V) (S : St) : L34_6 self N nk ek (n + 1) v0 v3 v4 S =
(lnS v0 S).bind fun p9 =>
(binV E0 .lss 3 false false v4 p9.1).bind fun t10 =>
ifK t10 (
(ixP 4 v0 v4).bind fun t14 =>
(faP 0 false 1 t14).bind fun t15 =>
(ld1 t15 p9.2).bind fun p16 =>
callP (self.f 33 [v3, p16.1] p16.2) fun t17 S17 =>
(binV E0 .add 3 false true v4 (.int .i64 1)).bind fun t20 =>
L34_6 self N nk ek n v0 t17 t20 S17) (
ek 0 (fr 19 [(3, v3)]) p9.2) := by kernel_rfl
noncomputable def F34 (self : EV) (N : Nat) (x0 : V) (S : St) : Rs := runF E0 self N Try.f34 B34 [x0] S
theorem F34_eq (self : EV) (N : Nat) (x0 : V) (S : St) : F34 self N x0 S =
L34_6 self N (R34_2 self N (finN E0 self Try.f34) noEx) (exB 0 (R34_2 self N (finN E0 self Try.f34) noEx) noEx) N x0 .nilslice (.int .i64 0) S := by kernel_rfl
noncomputable def C35 : Code := Try.f35.body.getD .skip
noncomputable def B35 : D := (annot C35 [[], [], [0, 1, 5], [], [], [], [], [], [], [0], [4], []]).1
noncomputable def RL35 : List Nat := cellsOf Try.f35.results.toList
noncomputable def R35_1 (self : EV) (N : Nat) (nk : Ac → St → Rs) (ek : Nat → Ac → St → Rs) (a : Ac) (S : St) : Rs := projK [] a fun a => dr E0 self RL35 N (B35.r).r (mkK E0 self Try.f35 nk ek) a S
theorem R35_1_eq (self : EV) (N : Nat) (nk : Ac → St → Rs) (ek : Nat → Ac → St → Rs) (S : St) : R35_1 self N nk ek (fr 18 []) S =
some (.ret (.bool false), S) := by kernel_rfl
noncomputable def L35_4 (self : EV) (N : Nat) (nk : Ac → St → Rs) (ek : Nat → Ac → St → Rs) (n : Nat) ( v0 v1 v5 : V) (S : St) : Rs := loopK [0, 1, 5] (dr E0 self RL35 N (B35.r.l.r.l.l)) (mkK E0 self Try.f35 nk ek) n (fr 18 [(0, v0), (1, v1), (5, v5)]) S
theorem L35_4_eq (self : EV) (N : Nat) (nk : Ac → St → Rs) (ek : Nat → Ac → St → Rs) (n : Nat) ( v0 v1 v5 : V) (S : St) : L35_4 self N nk ek (n + 1) v0 v1 v5 S =
(lnS v0 S).bind fun p7 =>
(binV E0 .lss 3 false false v5 p7.1).bind fun t8 =>
ifK t8 (
(ixP 1 v0 v5).bind fun t11 =>
(ld1 t11 p7.2).bind fun p12 =>
(binV E0 .eql 9 false false p12.1 v1).bind fun t14 =>
ifK t14 (
some (.ret (.bool true), p12.2)) (
(binV E0 .add 3 false true v5 (.int .i64 1)).bind fun t17 =>
L35_4 self N nk ek n v0 v1 t17 p12.2)) (
ek 0 (fr 18 []) p7.2) := by kernel_rfl
noncomputable def F35 (self : EV) (N : Nat) (x0 x1 : V) (S : St) : Rs := runF E0 self N Try.f35 B35 [x0, x1] S
theorem F35_eq (self : EV) (N : Nat) (x0 x1 : V) (S : St) : F35 self N x0 x1 S =
L35_4 self N (R35_1 self N (finN E0 self Try.f35) noEx) (exB 0 (R35_1 self N (finN E0 self Try.f35) noEx) noEx) N x0 x1 (.int .i64 0) S := by kernel_rfl
noncomputable def C41 : Code := Try.f41.body.getD .skip
noncomputable def B41 : D := (annot C41 [[], [], [], [0, 1, 2, 7, 8], [], [], [], [], [], [], [0], [6], []]).1
noncomputable def RL41 : List Nat := cellsOf Try.f41.results.toList
noncomputable def R41_9 (self : EV) (N : Nat) (nk : Ac → St → Rs) (ek : Nat → Ac → St → Rs) (a : Ac) (S : St) : Rs := projK [] a fun a => dr E0 self RL41 N (B41.r.r).r (mkK E0 self Try.f41 nk ek) a S
theorem R41_9_eq (self : EV) (N : Nat) (nk : Ac → St → Rs) (ek : Nat → Ac → St → Rs) (S : St) : R41_9 self N nk ek (fr 49 []) S =
some (.ret (.bool true), S) := by kernel_rfl
noncomputable def L41_12 (self : EV) (N : Nat) (nk : Ac → St → Rs) (ek : Nat → Ac → St → Rs) (n : Nat) ( v0 v1 v2 v7 v8 : V) (S : St) : Rs := loopK [0, 1, 2, 7, 8] (dr E0 self RL41 N (B41.r.r.l.r.l.l)) (mkK E0 self Try.f41 nk ek) n (fr 49 [(0, v0), (1, v1), (2, v2), (7, v7), (8, v8)]) S
theorem L41_12_eq (self : EV) (N : Nat) (nk : Ac → St → Rs) (ek : Nat → Ac → St → Rs) (n : Nat) ( v0 v1 v2 v7 v8 : V) (S : St) : L41_12 self N nk ek (n + 1) v0 v1 v2 v7 v8 S =
(faP 1 false 1 v7).bind fun t14 =>
(ld1 t14 S).bind fun p15 =>
(lnS p15.1 p15.2).bind fun p16 =>
(binV E0 .lss 3 false false v8 p16.1).bind fun t17 =>
ifK t17 (
(faP 1 false 1 v7).bind fun t18 =>
(ld1 t18 p16.2).bind fun p19 =>
(ixP 1 p19.1 v8).bind fun t21 =>
(ld1 t21 p19.2).bind fun p22 =>
(binV E0 .neq 9 false false p22.1 v1).bind fun t24 =>
(guardV true t24).bind fun g26 => (bif g26 then some v0 else some (.tuple [])).bind fun t26 =>
(guardV true t24).bind fun g27 => (bif g27 then faP 1 false 1 v7 else some (.tuple [])).bind fun t27 =>
(guardV true t24).bind fun g28 => (bif g28 then ld1 t27 p22.2 else some (.tuple [], p22.2)).bind fun p28 =>
(guardV true t24).bind fun g29 => (bif g29 then some v8 else some (.tuple [])).bind fun t29 =>
(guardV true t24).bind fun g30 => (bif g30 then ixP 1 p28.1 t29 else some (.tuple [])).bind fun t30 =>
(guardV true t24).bind fun g31 => (bif g31 then ld1 t30 p28.2 else some (.tuple [], p28.2)).bind fun p31 =>
(guardV true t24).bind fun g32 => callP (bif g32 then self.f 32 [t26, p31.1] p31.2 else some (.ret (.tuple []), p31.2)) fun t32 S32 =>
(guardV true t24).bind fun g33 => (bif g33 then binV E0 .geq 3 false true t32 (.int .i64 0) else some (.tuple [])).bind fun t33 =>
(pickV t24 (some t33) (some (.bool false))).bind fun t34 =>
(guardV true t34).bind fun g36 => (bif g36 then some v2 else some (.tuple [])).bind fun t36 =>
(guardV true t34).bind fun g37 => (bif g37 then faP 1 false 1 v7 else some (.tuple [])).bind fun t37 =>
(guardV true t34).bind fun g38 => (bif g38 then ld1 t37 S32 else some (.tuple [], S32)).bind fun p38 =>
(guardV true t34).bind fun g39 => (bif g39 then some v8 else some (.tuple [])).bind fun t39 =>
(guardV true t34).bind fun g40 => (bif g40 then ixP 1 p38.1 t39 else some (.tuple [])).bind fun t40 =>
(guardV true t34).bind fun g41 => (bif g41 then ld1 t40 p38.2 else some (.tuple [], p38.2)).bind fun p41 =>
(guardV true t34).bind fun g42 => callP (bif g42 then self.f 35 [t36, p41.1] p41.2 else some (.ret (.tuple []), p41.2)) fun t42 S42 =>
(guardV true t34).bind fun g43 => (bif g43 then unV .not t42 else some (.tuple [])).bind fun t43 =>
(pickV t34 (some t43) (some (.bool false))).bind fun t44 =>
ifK t44 (
some (.ret (.bool false), S42)) (
(binV E0 .add 3 false true v8 (.int .i64 1)).bind fun t47 =>
L41_12 self N nk ek n v0 v1 v2 v7 t47 S42)) (
ek 0 (fr 49 []) p16.2) := by kernel_rfl
noncomputable def F41 (self : EV) (N : Nat) (x0 x1 x2 : V) (S : St) : Rs := runF E0 self N Try.f41 B41 [x0, x1, x2] S
theorem F41_eq (self : EV) (N : Nat) (x0 x1 x2 : V) (S : St) : F41 self N x0 x1 x2 S =
callP (self.f 32 [x0, x1] S) fun t4 S4 =>
(ixP 4 x0 t4).bind fun t5 =>
(ldA 4 t5 S4).bind fun p6 =>
(some (nwP 28 4 (Tr.ofListFrom .nil [(sv []), .nilslice, (sv []), (sv [])] 0) p6.2)).bind fun p7 =>
(stP 4 p7.1 p6.1 p7.2).bind fun p8 =>
L41_12 self N (R41_9 self N (finN E0 self Try.f41) noEx) (exB 0 (R41_9 self N (finN E0 self Try.f41) noEx) noEx) N x0 x1 x2 p7.1 (.int .i64 0) p8.2 := by kernel_rfl
noncomputable def C19 : Code := Try.f19.body.getD .skip
noncomputable def B19 : D := (annot C19 [[], [], [], [], [], [5, 6, 7, 8], [], [7], [], [], [], [0, 7], [4], []]).1
noncomputable def RL19 : List Nat := cellsOf Try.f19.results.toList
noncomputable def R19_9 (self : EV) (N : Nat) (nk : Ac → St → Rs) (ek : Nat → Ac → St → Rs) (a : Ac) (S : St) : Rs := projK [7] a fun a => dr E0 self RL19 N (B19.r.r.r.r).r (mkK E0 self Try.f19 nk ek) a S
theorem R19_9_eq (self : EV) (N : Nat) (nk : Ac → St → Rs) (ek : Nat → Ac → St → Rs) ( v7 : V) (S : St) : R19_9 self N nk ek (fr 35 [(7, v7)]) S =
some (.ret v7, S) := by kernel_rfl
noncomputable def L19_13 (self : EV) (N : Nat) (nk : Ac → St → Rs) (ek : Nat → Ac → St → Rs) (n : Nat) ( v5 v6 v7 v8 : V) (S : St) : Rs := loopK [5, 6, 7, 8] (dr E0 self RL19 N (B19.r.r.r.r.l.r.l.l)) (mkK E0 self Try.f19 nk ek) n (fr 35 [(5, v5), (6, v6), (7, v7), (8, v8)]) S
theorem L19_13_eq (self : EV) (N : Nat) (nk : Ac → St → Rs) (ek : Nat → Ac → St → Rs) (n : Nat) ( v5 v6 v7 v8 : V) (S : St) : L19_13 self N nk ek (n + 1) v5 v6 v7 v8 S =
(lnS v6 S).bind fun p16 =>
(binV E0 .lss 3 false false v8 p16.1).bind fun t17 =>
ifK t17 (
(ixP 1 v6 v8).bind fun t21 =>
(ld1 t21 p16.2).bind fun p22 =>
callP (self.f 35 [v5, p22.1] p22.2) fun t23 S23 =>
(unV .not t23).bind fun t24 =>
ifK t24 (
(ixP 1 v6 v8).bind fun t28 =>
(ld1 t28 S23).bind fun p29 =>
(bsP 9 1 1 (Go.Proofs.Ytginkdeicmdmaaa.Ev.one (sv [])) [(0, p29.1)] p29.2).bind fun p30 =>
(apP 9 1 16 v7 p30.1 p30.2).bind fun p31 =>
(binV E0 .add 3 false true v8 (.int .i64 1)).bind fun t34 =>
L19_13 self N nk ek n v5 v6 p31.1 t34 p31.2) (
(binV E0 .add 3 false true v8 (.int .i64 1)).bind fun t37 =>
L19_13 self N nk ek n v5 v6 v7 t37 S23)) (
ek 0 (fr 35 [(7, v7)]) p16.2) := by kernel_rfl
noncomputable def F19 (self : EV) (N : Nat) (x0 x1 : V) (S : St) : Rs := runF E0 self N Try.f19 B19 [x0, x1] S
theorem F19_eq (self : EV) (N : Nat) (x0 x1 : V) (S : St) : F19 self N x0 x1 S =
callP (self.f 18 [x0, x1] S) fun t3 S3 =>
callP (self.f 34 [x0] S3) fun t6 S6 =>
L19_13 self N (R19_9 self N (finN E0 self Try.f19) noEx) (exB 0 (R19_9 self N (finN E0 self Try.f19) noEx) noEx) N t3 t6 .nilslice (.int .i64 0) S6 := by kernel_rfl
noncomputable def C20 : Code := Try.f20.body.getD .skip
noncomputable def B20 : D := (annot C20 [[], [], [0, 3], [], [], [], [], [0, 3, 4], [], [0, 3], [], [], [], [], [0, 0, 3], [0, 3], [0], [2], []]).1
noncomputable def RL20 : List Nat := cellsOf Try.f20.results.toList
noncomputable def R20_1 (self : EV) (N : Nat) (nk : Ac → St → Rs) (ek : Nat → Ac → St → Rs) (a : Ac) (S : St) : Rs := projK [] a fun a => dr E0 self RL20 N (B20.r).r (mkK E0 self Try.f20 nk ek) a S
theorem R20_1_eq (self : EV) (N : Nat) (nk : Ac → St → Rs) (ek : Nat → Ac → St → Rs) (S : St) : R20_1 self N nk ek (fr 43 []) S =
some (.ret (.bool true), S) := by kernel_rfl
noncomputable def N20_4 (self : EV) (N : Nat) (nk : Ac → St → Rs) (ek : Nat → Ac → St → Rs) (n : Nat) : Ac → St → Rs := fun a S => projK [0, 3] a fun a => loopK [0, 3] (dr E0 self RL20 N (B20.r.l.r.l.l)) (mkK E0 self Try.f20 nk ek) n a S
noncomputable def L20_4 (self : EV) (N : Nat) (nk : Ac → St → Rs) (ek : Nat → Ac → St → Rs) (n : Nat) ( v0 v3 : V) (S : St) : Rs := loopK [0, 3] (dr E0 self RL20 N (B20.r.l.r.l.l)) (mkK E0 self Try.f20 nk ek) n (fr 43 [(0, v0), (3, v3)]) S
noncomputable def R20_9 (self : EV) (N : Nat) (nk : Ac → St → Rs) (ek : Nat → Ac → St → Rs) (a : Ac) (S : St) : Rs := projK [0, 3] a fun a => dr E0 self RL20 N (B20.r.l.r.l.l.r).r (mkK E0 self Try.f20 nk ek) a S
theorem R20_9_eq (self : EV) (N : Nat) (nk : Ac → St → Rs) (ek : Nat → Ac → St → Rs) ( v0 v3 : V) (S : St) : R20_9 self N nk ek (fr 43 [(0, v0), (3, v3)]) S =
(binV E0 .add 3 false true v3 (.int .i64 1)).bind fun t11 =>
nk (fr 43 [(0, v0), (3, t11)]) S := by kernel_rfl
noncomputable def L20_14 (self : EV) (N : Nat) (nk : Ac → St → Rs) (ek : Nat → Ac → St → Rs) (n : Nat) ( v0 v3 v4 : V) (S : St) : Rs := loopK [0, 3, 4] (dr E0 self RL20 N (B20.r.l.r.l.l.r.l.l.r.l.l)) (mkK E0 self Try.f20 nk ek) n (fr 43 [(0, v0), (3, v3), (4, v4)]) S
theorem L20_14_eq (self : EV) (N : Nat) (nk : Ac → St → Rs) (ek : Nat → Ac → St → Rs) (n : Nat) ( v0 v3 v4 : V) (S : St) : L20_14 self N nk ek (n + 1) v0 v3 v4 S =
(ixP 4 v0 v3).bind fun t18 =>
(faP 0 false 1 t18).bind fun t19 =>
(ld1 t19 S).bind fun p20 =>
callP (self.f 32 [v0, p20.1] p20.2) fun t21 S21 =>
(binV E0 .eql 3 false false t21 v3).bind fun t23 =>
(guardV true t23).bind fun g25 => (bif g25 then some v4 else some (.tuple [])).bind fun t25 =>
(guardV true t23).bind fun g26 => (bif g26 then some v0 else some (.tuple [])).bind fun t26 =>
(guardV true t23).bind fun g27 => (bif g27 then some v3 else some (.tuple [])).bind fun t27 =>
(guardV true t23).bind fun g28 => (bif g28 then ixP 4 t26 t27 else some (.tuple [])).bind fun t28 =>
(guardV true t23).bind fun g29 => (bif g29 then faP 1 false 1 t28 else some (.tuple [])).bind fun t29 =>
(guardV true t23).bind fun g30 => (bif g30 then ld1 t29 S21 else some (.tuple [], S21)).bind fun p30 =>
(guardV true t23).bind fun g31 => (bif g31 then lnS p30.1 p30.2 else some (.tuple [], p30.2)).bind fun p31 =>
(guardV true t23).bind fun g32 => (bif g32 then binV E0 .lss 3 false false t25 p31.1 else some (.tuple [])).bind fun t32 =>
(pickV t23 (some t32) (some (.bool false))).bind fun t33 =>
ifK t33 (
(ixP 4 v0 v3).bind fun t37 =>
(faP 1 false 1 t37).bind fun t38 =>
(ld1 t38 p31.2).bind fun p39 =>
(ixP 1 p39.1 v4).bind fun t41 =>
(ld1 t41 p39.2).bind fun p42 =>
callP (self.f 32 [v0, p42.1] p42.2) fun t43 S43 =>
(binV E0 .lss 3 false true t43 (.int .i64 0)).bind fun t44 =>
ifK t44 (
some (.ret (.bool false), S43)) (
(binV E0 .add 3 false true v4 (.int .i64 1)).bind fun t47 =>
L20_14 self N nk ek n v0 v3 t47 S43)) (
ek 2 (fr 43 [(0, v0), (3, v3)]) p31.2) := by kernel_rfl
theorem L20_4_eq (self : EV) (N : Nat) (nk : Ac → St → Rs) (ek : Nat → Ac → St → Rs) (n : Nat) ( v0 v3 : V) (S : St) : L20_4 self N nk ek (n + 1) v0 v3 S =
(lnS v0 S).bind fun p7 =>
(binV E0 .lss 3 false false v3 p7.1).bind fun t8 =>
ifK t8 (
L20_14 self N (R20_9 self N (N20_4 self N nk ek n) ek) (exB 2 (R20_9 self N (N20_4 self N nk ek n) ek) (exB 1 (R20_9 self N (N20_4 self N nk ek n) ek) ek)) N v0 v3 (.int .i64 0) p7.2) (
ek 0 (fr 43 []) p7.2) := by kernel_rfl
theorem N20_4_eq (self : EV) (N : Nat) (nk : Ac → St → Rs) (ek : Nat → Ac → St → Rs) (n : Nat) ( v0 v3 : V) (S : St) : N20_4 self N nk ek n (fr 43 [(0, v0), (3, v3)]) S = L20_4 self N nk ek n v0 v3 S := by kernel_rfl
noncomputable def F20 (self : EV) (N : Nat) (x0 : V) (S : St) : Rs := runF E0 self N Try.f20 B20 [x0] S
theorem F20_eq (self : EV) (N : Nat) (x0 : V) (S : St) : F20 self N x0 S =
L20_4 self N (R20_1 self N (finN E0 self Try.f20) noEx) (exB 0 (R20_1 self N (finN E0 self Try.f20) noEx) noEx) N x0 (.int .i64 0) S := by kernel_rfl
noncomputable def C22 : Code := Try.f22.body.getD .skip
noncomputable def B22 : D := (annot C22 [[], [], [], [0, 3, 4], [], [4], [], [], [], [], [0, 3, 4, 5, 6, 7, 8, 9], [], [0, 3, 4, 5, 6, 7, 8], [], [], [0, 3, 4, 5, 6, 7, 8, 9], [], [], [], [], [], [], [0, 0, 3, 4, 5, 6, 7, 8], [0, 3, 4], [], [], [0, 4], [2], []]).1
noncomputable def RL22 : List Nat := cellsOf Try.f22.results.toList
noncomputable def R22_5 (self : EV) (N : Nat) (nk : Ac → St → Rs) (ek : Nat → Ac → St → Rs) (a : Ac) (S : St) : Rs := projK [4] a fun a => dr E0 self RL22 N (B22.r.r.r).r (mkK E0 self Try.f22 nk ek) a S
theorem R22_5_eq (self : EV) (N : Nat) (nk : Ac → St → Rs) (ek : Nat → Ac → St → Rs) ( v4 : V) (S : St) : R22_5 self N nk ek (fr 56 [(4, v4)]) S =
some (.ret v4, S) := by kernel_rfl
noncomputable def N22_8 (self : EV) (N : Nat) (nk : Ac → St → Rs) (ek : Nat → Ac → St → Rs) (n : Nat) : Ac → St → Rs := fun a S => projK [0, 3, 4] a fun a => loopK [0, 3, 4] (dr E0 self RL22 N (B22.r.r.r.l.l.l)) (mkK E0 self Try.f22 nk ek) n a S
noncomputable def L22_8 (self : EV) (N : Nat) (nk : Ac → St → Rs) (ek : Nat → Ac → St → Rs) (n : Nat) ( v0 v3 v4 : V) (S : St) : Rs := loopK [0, 3, 4] (dr E0 self RL22 N (B22.r.r.r.l.l.l)) (mkK E0 self Try.f22 nk ek) n (fr 56 [(0, v0), (3, v3), (4, v4)]) S
noncomputable def R22_18 (self : EV) (N : Nat) (nk : Ac → St → Rs) (ek : Nat → Ac → St → Rs) (a : Ac) (S : St) : Rs := projK [0, 3, 4, 5, 6, 7, 8] a fun a => dr E0 self RL22 N (B22.r.r.r.l.l.l.r.l.r.r).r (mkK E0 self Try.f22 nk ek) a S
theorem R22_18_eq (self : EV) (N : Nat) (nk : Ac → St → Rs) (ek : Nat → Ac → St → Rs) ( v0 v3 v4 v5 v6 v7 v8 : V) (S : St) : R22_18 self N nk ek (fr 56 [(0, v0), (3, v3), (4, v4), (5, v5), (6, v6), (7, v7), (8, v8)]) S =
(unV .not v7).bind fun t20 =>
(guardV true t20).bind fun g22 => (bif g22 then some v8 else some (.tuple [])).bind fun t22 =>
(pickV t20 (some t22) (some (.bool false))).bind fun t23 =>
ifK t23 (
(bsP 9 1 1 (Go.Proofs.Ytginkdeicmdmaaa.Ev.one (sv [])) [(0, v6)] S).bind fun p28 =>
(apP 9 1 16 v4 p28.1 p28.2).bind fun p29 =>
nk (fr 56 [(0, v0), (3, v3), (4, p29.1)]) p29.2) (
(bsP 9 1 1 (Go.Proofs.Ytginkdeicmdmaaa.Ev.one (sv [])) [(0, v5)] S).bind fun p33 =>
(apP 9 1 16 v4 p33.1 p33.2).bind fun p34 =>
nk (fr 56 [(0, v0), (3, v3), (4, p34.1)]) p34.2) := by kernel_rfl
noncomputable def L22_40 (self : EV) (N : Nat) (nk : Ac → St → Rs) (ek : Nat → Ac → St → Rs) (n : Nat) ( v0 v3 v4 v5 v6 v7 v8 v9 : V) (S : St) : Rs := loopK [0, 3, 4, 5, 6, 7, 8, 9] (dr E0 self RL22 N (B22.r.r.r.l.l.l.r.l.r.r.l.r.l.l)) (mkK E0 self Try.f22 nk ek) n (fr 56 [(0, v0), (3, v3), (4, v4), (5, v5), (6, v6), (7, v7), (8, v8), (9, v9)]) S
theorem L22_40_eq (self : EV) (N : Nat) (nk : Ac → St → Rs) (ek : Nat → Ac → St → Rs) (n : Nat) ( v0 v3 v4 v5 v6 v7 v8 v9 : V) (S : St) : L22_40 self N nk ek (n + 1) v0 v3 v4 v5 v6 v7 v8 v9 S =
(binV E0 .geq 3 false true v9 (.int .i64 0)).bind fun t42 =>
ifK t42 (
(ixP 1 v3 v9).bind fun t46 =>
(ld1 t46 S).bind fun p47 =>
callP (self.f 35 [v4, p47.1] p47.2) fun t48 S48 =>
ifK t48 (
(binV E0 .sub 3 false true v9 (.int .i64 1)).bind fun t50 =>
L22_40 self N nk ek n v0 v3 v4 v5 v6 v7 v8 t50 S48) (
(ixP 1 v3 v9).bind fun t54 =>
(ld1 t54 S48).bind fun p55 =>
(ixP 1 v3 v9).bind fun t61 =>
(ld1 t61 p55.2).bind fun p62 =>
callP (self.f 41 [v0, p62.1, v4] p62.2) fun t64 S64 =>
ifK t64 (
(ixP 1 v3 v9).bind fun t67 =>
(ld1 t67 S64).bind fun p68 =>
(binV E0 .sub 3 false true v9 (.int .i64 1)).bind fun t72 =>
L22_40 self N nk ek n v0 v3 v4 p68.1 p55.1 (.bool true) (.bool true) t72 p68.2) (
(binV E0 .sub 3 false true v9 (.int .i64 1)).bind fun t75 =>
L22_40 self N nk ek n v0 v3 v4 v5 p55.1 v7 (.bool true) t75 S64))) (
ek 2 (fr 56 [(0, v0), (3, v3), (4, v4), (5, v5), (6, v6), (7, v7), (8, v8)]) S) := by kernel_rfl
theorem L22_8_eq (self : EV) (N : Nat) (nk : Ac → St → Rs) (ek : Nat → Ac → St → Rs) (n : Nat) ( v0 v3 v4 : V) (S : St) : L22_8 self N nk ek (n + 1) v0 v3 v4 S =
(lnS v4 S).bind fun p10 =>
(lnS v3 p10.2).bind fun p12 =>
(binV E0 .lss 3 false false p10.1 p12.1).bind fun t13 =>
ifK t13 (
(lnS v3 p12.2).bind fun p37 =>
(binV E0 .sub 3 false true p37.1 (.int .i64 1)).bind fun t38 =>
L22_40 self N (R22_18 self N (N22_8 self N nk ek n) (exB 1 (N22_8 self N nk ek n) ek)) (exB 2 (R22_18 self N (N22_8 self N nk ek n) (exB 1 (N22_8 self N nk ek n) ek)) (exB 1 (N22_8 self N nk ek n) ek)) N v0 v3 v4 (sv []) (sv []) (.bool false) (.bool false) t38 p37.2) (
ek 0 (fr 56 [(4, v4)]) p12.2) := by kernel_rfl
theorem N22_8_eq (self : EV) (N : Nat) (nk : Ac → St → Rs) (ek : Nat → Ac → St → Rs) (n : Nat) ( v0 v3 v4 : V) (S : St) : N22_8 self N nk ek n (fr 56 [(0, v0), (3, v3), (4, v4)]) S = L22_8 self N nk ek n v0 v3 v4 S := by kernel_rfl
noncomputable def F22 (self : EV) (N : Nat) (x0 : V) (S : St) : Rs := runF E0 self N Try.f22 B22 [x0] S
theorem F22_eq (self : EV) (N : Nat) (x0 : V) (S : St) : F22 self N x0 S =
callP (self.f 34 [x0] S) fun t2 S2 =>
L22_8 self N (R22_5 self N (finN E0 self Try.f22) noEx) (exB 0 (R22_5 self N (finN E0 self Try.f22) noEx) noEx) N x0 t2 .nilslice S2 := by kernel_rfl
noncomputable def C24 : Code := Try.f24.body.getD .skip
noncomputable def B24 : D := (annot C24 [[], [], [], [0, 1, 5, 6], [], [5], [], [], [], [0, 5], [4], []]).1
noncomputable def RL24 : List Nat := cellsOf Try.f24.results.toList
noncomputable def R24_2 (self : EV) (N : Nat) (nk : Ac → St → Rs) (ek : Nat → Ac → St → Rs) (a : Ac) (S : St) : Rs := projK [5] a fun a => dr E0 self RL24 N (B24.r.r).r (mkK E0 self Try.f24 nk ek) a S
theorem R24_2_eq (self : EV) (N : Nat) (nk : Ac → St → Rs) (ek : Nat → Ac → St → Rs) ( v5 : V) (S : St) : R24_2 self N nk ek (fr 48 [(5, v5)]) S =
some (.ret v5, S) := by kernel_rfl
noncomputable def L24_6 (self : EV) (N : Nat) (nk : Ac → St → Rs) (ek : Nat → Ac → St → Rs) (n : Nat) ( v0 v1 v5 v6 : V) (S : St) : Rs := loopK [0, 1, 5, 6] (dr E0 self RL24 N (B24.r.r.l.r.l.l)) (mkK E0 self Try.f24 nk ek) n (fr 48 [(0, v0), (1, v1), (5, v5), (6, v6)]) S
theorem L24_6_eq (self : EV) (N : Nat) (nk : Ac → St → Rs) (ek : Nat → Ac → St → Rs) (n : Nat) ( v0 v1 v5 v6 : V) (S : St) : L24_6 self N nk ek (n + 1) v0 v1 v5 v6 S =
(lnS v0 S).bind fun p9 =>
(binV E0 .lss 3 false false v6 p9.1).bind fun t10 =>
ifK t10 (
(ixP 4 v0 v6).bind fun t14 =>
(faP 0 false 1 t14).bind fun t15 =>
(ld1 t15 p9.2).bind fun p16 =>
callP (self.f 32 [v0, p16.1] p16.2) fun t17 S17 =>
(binV E0 .eql 3 false false t17 v6).bind fun t19 =>
(guardV true t19).bind fun g21 => (bif g21 then some v0 else some (.tuple [])).bind fun t21 =>
(guardV true t19).bind fun g22 => (bif g22 then some v6 else some (.tuple [])).bind fun t22 =>
(guardV true t19).bind fun g23 => (bif g23 then ixP 4 t21 t22 else some (.tuple [])).bind fun t23 =>
(guardV true t19).bind fun g24 => (bif g24 then faP 0 false 1 t23 else some (.tuple [])).bind fun t24 =>
(guardV true t19).bind fun g25 => (bif g25 then ld1 t24 S17 else some (.tuple [], S17)).bind fun p25 =>
(guardV true t19).bind fun g26 => (bif g26 then some v1 else some (.tuple [])).bind fun t26 =>
(guardV true t19).bind fun g27 => (bif g27 then binV E0 .neq 9 false false p25.1 t26 else some (.tuple [])).bind fun t27 =>
(pickV t19 (some t27) (some (.bool false))).bind fun t28 =>
(guardV true t28).bind fun g30 => (bif g30 then some v0 else some (.tuple [])).bind fun t30 =>
(guardV true t28).bind fun g31 => (bif g31 then some v6 else some (.tuple [])).bind fun t31 =>
(guardV true t28).bind fun g32 => (bif g32 then ixP 4 t30 t31 else some (.tuple [])).bind fun t32 =>
(guardV true t28).bind fun g33 => (bif g33 then faP 1 false 1 t32 else some (.tuple [])).bind fun t33 =>
(guardV true t28).bind fun g34 => (bif g34 then ld1 t33 p25.2 else some (.tuple [], p25.2)).bind fun p34 =>
(guardV true t28).bind fun g35 => (bif g35 then some v1 else some (.tuple [])).bind fun t35 =>
(guardV true t28).bind fun g36 => callP (bif g36 then self.f 35 [p34.1, t35] p34.2 else some (.ret (.tuple []), p34.2)) fun t36 S36 =>
(pickV t28 (some t36) (some (.bool false))).bind fun t37 =>
ifK t37 (
(ixP 4 v0 v6).bind fun t41 =>
(faP 0 false 1 t41).bind fun t42 =>
(ld1 t42 S36).bind fun p43 =>
callP (self.f 33 [v5, p43.1] p43.2) fun t44 S44 =>
(binV E0 .add 3 false true v6 (.int .i64 1)).bind fun t47 =>
L24_6 self N nk ek n v0 v1 t44 t47 S44) (
(binV E0 .add 3 false true v6 (.int .i64 1)).bind fun t50 =>
L24_6 self N nk ek n v0 v1 v5 t50 S36)) (
ek 0 (fr 48 [(5, v5)]) p9.2) := by kernel_rfl
noncomputable def F24 (self : EV) (N : Nat) (x0 x1 : V) (S : St) : Rs := runF E0 self N Try.f24 B24 [x0, x1] S
theorem F24_eq (self : EV) (N : Nat) (x0 x1 : V) (S : St) : F24 self N x0 x1 S =
L24_6 self N (R24_2 self N (finN E0 self Try.f24) noEx) (exB 0 (R24_2 self N (finN E0 self Try.f24) noEx) noEx) N x0 x1 .nilslice (.int .i64 0) S := by kernel_rfl
end
end Go.Proofs.Ytginkdeicmdmaaa.W
