/-
  WHAT THE FUNCTIONS COME TO: each is read by the evaluator, printed, and told as a function of data, part 2 of 7 (no condition).
-/
import Derived.Test.YtachpdpmoihjmaaW1
import Derived.Test.YtachpdpmoihjmaaProg
import Derived.KernelRfl
namespace Go.Proofs.Ytachpdpmoihjmaa.W
open Go.Proofs.Ytachpdpmoihjmaa.Ev
set_option maxRecDepth 100000
noncomputable section
noncomputable def C29 : Code := Try.f29.body.getD .skip
noncomputable def B29 : D := (annot C29 [[], [], [], [], [], [], [], [], [6, 66, 67, 68], [], [], [], [], [], [], [], [0], [8], []]).1
noncomputable def RL29 : List Nat := cellsOf Try.f29.results.toList
noncomputable def R29_54 (self : EV) (N : Nat) (nk : Ac → St → Rs) (ek : Nat → Ac → St → Rs) (a : Ac) (S : St) : Rs := projK [] a fun a => dr E0 self RL29 N (B29.r.r).r (mkK E0 self Try.f29 nk ek) a S
noncomputable def L29_64 (self : EV) (N : Nat) (nk : Ac → St → Rs) (ek : Nat → Ac → St → Rs) (n : Nat) ( v6 v66 v67 v68 : V) (S : St) : Rs := loopK [6, 66, 67, 68] (dr E0 self RL29 N (B29.r.r.l.r.l.l)) (mkK E0 self Try.f29 nk ek) n (fr 77 [(6, v6), (66, v66), (67, v67), (68, v68)]) S
noncomputable def F29 (self : EV) (N : Nat) (x0 x1 x2 x3 x4 x5 x6 : V) (S : St) : Rs := runF E0 self N Try.f29 B29 [x0, x1, x2, x3, x4, x5, x6] S
theorem F29_eq (self : EV) (N : Nat) (x0 x1 x2 x3 x4 x5 x6 : V) (S : St) : F29 self N x0 x1 x2 x3 x4 x5 x6 S =
(ld1 x1 S).bind fun p1 =>
(nilCheckV p1.1).bind fun t2 =>
(faP 0 false 1 t2).bind fun t3 =>
(ld1 t3 p1.2).bind fun p4 =>
(ixP 258 p4.1 x0).bind fun t6 =>
(faP 256 false 1 t6).bind fun t7 =>
(ld1 t7 p4.2).bind fun p8 =>
(binV E0 .eql 3 false true p8.1 (.int .i64 0)).bind fun t11 =>
ifK t11 (
(ld1 x2 (onS p8.2)).bind fun p12 =>
(ixA 2 1 false 1 x3 (.int .i64 1)).bind fun t13 =>
(ld1 t13 (onS p12.2)).bind fun p14 =>
(binV E0 .lss 3 false false p12.1 p14.1).bind fun t15 =>
(guardV true t15).bind fun g17 => (bif g17 then ld1 x1 (onS p14.2) else some (.tuple [], (onS p14.2))).bind fun p17 =>
(guardV true t15).bind fun g18 => (bif g18 then nilCheckV p17.1 else some (.tuple [])).bind fun t18 =>
(guardV true t15).bind fun g19 => (bif g19 then faP 0 false 1 t18 else some (.tuple [])).bind fun t19 =>
(guardV true t15).bind fun g20 => (bif g20 then ld1 t19 (onS p17.2) else some (.tuple [], (onS p17.2))).bind fun p20 =>
(guardV true t15).bind fun g21 => (bif g21 then some x0 else some (.tuple [])).bind fun t21 =>
(guardV true t15).bind fun g22 => (bif g22 then ld1 x4 (onS p20.2) else some (.tuple [], (onS p20.2))).bind fun p22 =>
(guardV true t15).bind fun g23 => (bif g23 then ld1 x2 (onS p22.2) else some (.tuple [], (onS p22.2))).bind fun p23 =>
(guardV true t15).bind fun g24 => (bif g24 then ixS p22.1 p23.1 else some (.tuple [])).bind fun t24 =>
(guardV true t15).bind fun g25 => (bif g25 then ixP 258 p20.1 t21 else some (.tuple [])).bind fun t25 =>
(guardV true t15).bind fun g26 => (bif g26 then faP 0 true 256 t25 else some (.tuple [])).bind fun t26 =>
(guardV true t15).bind fun g27 => (bif g27 then faP 0 true 256 t26 else some (.tuple [])).bind fun t27 =>
(guardV true t15).bind fun g28 => (bif g28 then ixA 256 1 false 1 t27 t24 else some (.tuple [])).bind fun t28 =>
(guardV true t15).bind fun g29 => (bif g29 then ld1 t28 (onS p23.2) else some (.tuple [], (onS p23.2))).bind fun p29 =>
(pickV t15 (some p29.1) (some (.bool false))).bind fun t30 =>
(guardV true t30).bind fun g32 => (bif g32 then ld1 x5 (onS p29.2) else some (.tuple [], (onS p29.2))).bind fun p32 =>
(guardV true t30).bind fun g33 => (bif g33 then ld1 x2 (onS p32.2) else some (.tuple [], (onS p32.2))).bind fun p33 =>
(guardV true t30).bind fun g34 => (bif g34 then binV E0 .add 3 false true p33.1 (.int .i64 1) else some (.tuple [])).bind fun t34 =>
(guardV true t30).bind fun g35 => (bif g35 then ixA 2 1 false 1 x3 (.int .i64 0) else some (.tuple [])).bind fun t35 =>
(guardV true t30).bind fun g36 => (bif g36 then ld1 t35 (onS p33.2) else some (.tuple [], (onS p33.2))).bind fun p36 =>
(guardV true t30).bind fun g37 => (bif g37 then binV E0 .sub 3 false false t34 p36.1 else some (.tuple [])).bind fun t37 =>
(guardV true t30).bind fun g38 => (bif g38 then ixP 1 p32.1 t37 else some (.tuple [])).bind fun t38 =>
(guardV true t30).bind fun g39 => (bif g39 then ld1 t38 (onS p36.2) else some (.tuple [], (onS p36.2))).bind fun p39 =>
(guardV true t30).bind fun g40 => (bif g40 then some x0 else some (.tuple [])).bind fun t40 =>
(guardV true t30).bind fun g41 => (bif g41 then binV E0 .add 3 false true t40 (.int .i64 1) else some (.tuple [])).bind fun t41 =>
(guardV true t30).bind fun g42 => (bif g42 then ixP 1 p39.1 t41 else some (.tuple [])).bind fun t42 =>
(guardV true t30).bind fun g43 => (bif g43 then ld1 t42 (onS p39.2) else some (.tuple [], (onS p39.2))).bind fun p43 =>
(pickV t30 (some p43.1) (some (.bool false))).bind fun t44 =>
endP [(0, [2]), (5, [10, 11]), (8, [10, 11]), (10, [11]), (20, [21, 24]), (21, [24])] p8.2 [p12.2.log, [], p14.2.log, [], [], p17.2.log, [], [], p20.2.log, [], p22.2.log, p23.2.log, [], [], [], [], [], p29.2.log, [], [], p32.2.log, p33.2.log, [], [], p36.2.log, [], [], p39.2.log, [], [], [], p43.2.log, [], []] (onS p43.2) fun S46 =>
some (.ret t44, S46)) (
(binV E0 .eql 3 false true p8.1 (.int .i64 6)).bind fun t48 =>
ifK t48 (
(ld1 x2 p8.2).bind fun p49 =>
(ixA 2 1 false 1 x3 (.int .i64 1)).bind fun t50 =>
(ld1 t50 p49.2).bind fun p51 =>
(binV E0 .eql 3 false false p49.1 p51.1).bind fun t52 =>
some (.ret t52, p51.2)) (
(ld1 x1 p8.2).bind fun p56 =>
(ld1 x2 p56.2).bind fun p58 =>
(ld1 x4 p58.2).bind fun p59 =>
(lnStr p59.1 p59.2).bind fun p60 =>
callP (self.f 28 [p56.1, x0, p58.1, p60.1] p60.2) fun t61 S61 =>
(lnS t61 S61).bind fun p62 =>
L29_64 self N (R29_54 self N (finN E0 self Try.f29) noEx) (exB 0 (R29_54 self N (finN E0 self Try.f29) noEx) noEx) N x6 t61 p62.1 (.int .i64 0) p62.2)) := by kernel_rfl
noncomputable def C22 : Code := Try.f22.body.getD .skip
noncomputable def B22 : D := (annot C22 [[], [], [], [3, 4, 5, 7, 8], [], [7], [], [], [], [], [], [3, 4, 5, 7, 8, 9, 10, 41], [], [3, 4, 5, 7, 8], [], [], [3, 4, 5, 7, 8, 9, 10, 11, 41], [], [3, 4, 5, 7, 8, 9, 10, 41], [], [], [0, 3, 4, 5, 7, 8, 9, 10, 41], [3, 4, 5, 7, 8, 9, 10, 41], [0, 3, 4, 5, 7, 8], [3, 4, 5, 7, 8], [], [], [0, 7], [6], []]).1
noncomputable def RL22 : List Nat := cellsOf Try.f22.results.toList
noncomputable def R22_13 (self : EV) (N : Nat) (nk : Ac → St → Rs) (ek : Nat → Ac → St → Rs) (a : Ac) (S : St) : Rs := projK [7] a fun a => dr E0 self RL22 N (B22.r.r).r (mkK E0 self Try.f22 nk ek) a S
theorem R22_13_eq (self : EV) (N : Nat) (nk : Ac → St → Rs) (ek : Nat → Ac → St → Rs) ( v7 : V) (S : St) : R22_13 self N nk ek (fr 68 [(7, v7)]) S =
(ld1 v7 S).bind fun p14 =>
some (.ret p14.1, p14.2) := by kernel_rfl
noncomputable def N22_20 (self : EV) (N : Nat) (nk : Ac → St → Rs) (ek : Nat → Ac → St → Rs) (n : Nat) : Ac → St → Rs := fun a S => projK [3, 4, 5, 7, 8] a fun a => loopK [3, 4, 5, 7, 8] (dr E0 self RL22 N (B22.r.r.l.r.l.l)) (mkK E0 self Try.f22 nk ek) n a S
noncomputable def L22_20 (self : EV) (N : Nat) (nk : Ac → St → Rs) (ek : Nat → Ac → St → Rs) (n : Nat) ( v3 v4 v5 v7 v8 : V) (S : St) : Rs := loopK [3, 4, 5, 7, 8] (dr E0 self RL22 N (B22.r.r.l.r.l.l)) (mkK E0 self Try.f22 nk ek) n (fr 68 [(3, v3), (4, v4), (5, v5), (7, v7), (8, v8)]) S
noncomputable def R22_25 (self : EV) (N : Nat) (nk : Ac → St → Rs) (ek : Nat → Ac → St → Rs) (a : Ac) (S : St) : Rs := projK [3, 4, 5, 7, 8] a fun a => dr E0 self RL22 N (B22.r.r.l.r.l.l.r).r (mkK E0 self Try.f22 nk ek) a S
theorem R22_25_eq (self : EV) (N : Nat) (nk : Ac → St → Rs) (ek : Nat → Ac → St → Rs) ( v3 v4 v5 v7 v8 : V) (S : St) : R22_25 self N nk ek (fr 68 [(3, v3), (4, v4), (5, v5), (7, v7), (8, v8)]) S =
(ld1 v8 S).bind fun p26 =>
(some (nwP 3 1 (one (.int .i64 0)) p26.2)).bind fun p27 =>
(stP 1 p27.1 p26.1 p27.2).bind fun p28 =>
(ld1 p27.1 p28.2).bind fun p29 =>
(binV E0 .sub 3 false true p29.1 (.int .i64 1)).bind fun t30 =>
(stP 1 p27.1 t30 p29.2).bind fun p31 =>
nk (fr 68 [(3, v3), (4, v4), (5, v5), (7, v7), (8, p27.1)]) p31.2 := by kernel_rfl
noncomputable def N22_51 (self : EV) (N : Nat) (nk : Ac → St → Rs) (ek : Nat → Ac → St → Rs) (n : Nat) : Ac → St → Rs := fun a S => projK [3, 4, 5, 7, 8, 9, 10, 41] a fun a => loopK [3, 4, 5, 7, 8, 9, 10, 41] (dr E0 self RL22 N (B22.r.r.l.r.l.l.r.l.l.r.r.r.r.l.l)) (mkK E0 self Try.f22 nk ek) n a S
noncomputable def L22_51 (self : EV) (N : Nat) (nk : Ac → St → Rs) (ek : Nat → Ac → St → Rs) (n : Nat) ( v3 v4 v5 v7 v8 v9 v10 v41 : V) (S : St) : Rs := loopK [3, 4, 5, 7, 8, 9, 10, 41] (dr E0 self RL22 N (B22.r.r.l.r.l.l.r.l.l.r.r.r.r.l.l)) (mkK E0 self Try.f22 nk ek) n (fr 68 [(3, v3), (4, v4), (5, v5), (7, v7), (8, v8), (9, v9), (10, v10), (41, v41)]) S
noncomputable def R22_53 (self : EV) (N : Nat) (nk : Ac → St → Rs) (ek : Nat → Ac → St → Rs) (a : Ac) (S : St) : Rs := projK [3, 4, 5, 7, 8, 9, 10, 41] a fun a => dr E0 self RL22 N (B22.r.r.l.r.l.l.r.l.l.r.r.r.r.l.l.r.r).r (mkK E0 self Try.f22 nk ek) a S
theorem R22_53_eq (self : EV) (N : Nat) (nk : Ac → St → Rs) (ek : Nat → Ac → St → Rs) ( v3 v4 v5 v7 v8 v9 v10 v41 : V) (S : St) : R22_53 self N nk ek (fr 68 [(3, v3), (4, v4), (5, v5), (7, v7), (8, v8), (9, v9), (10, v10), (41, v41)]) S =
(binV E0 .add 3 false true v41 (.int .i64 1)).bind fun t54 =>
nk (fr 68 [(3, v3), (4, v4), (5, v5), (7, v7), (8, v8), (9, v9), (10, v10), (41, t54)]) S := by kernel_rfl
noncomputable def L22_63 (self : EV) (N : Nat) (nk : Ac → St → Rs) (ek : Nat → Ac → St → Rs) (n : Nat) ( v3 v4 v5 v7 v8 v9 v10 v11 v41 : V) (S : St) : Rs := loopK [3, 4, 5, 7, 8, 9, 10, 11, 41] (dr E0 self RL22 N (B22.r.r.l.r.l.l.r.l.l.r.r.r.r.l.l.r.r.l.l.r.l.l)) (mkK E0 self Try.f22 nk ek) n (fr 68 [(3, v3), (4, v4), (5, v5), (7, v7), (8, v8), (9, v9), (10, v10), (11, v11), (41, v41)]) S
theorem L22_63_eq (self : EV) (N : Nat) (nk : Ac → St → Rs) (ek : Nat → Ac → St → Rs) (n : Nat) ( v3 v4 v5 v7 v8 v9 v10 v11 v41 : V) (S : St) : L22_63 self N nk ek (n + 1) v3 v4 v5 v7 v8 v9 v10 v11 v41 S =
(binV E0 .geq 3 false true v11 (.int .i64 0)).bind fun t65 =>
ifK t65 (
(ld1 v9 (onS S)).bind fun p66 =>
(ld1 v9 (onS p66.2)).bind fun p68 =>
(ixP 1 p68.1 v11).bind fun t70 =>
(ld1 t70 (onS p68.2)).bind fun p71 =>
(guardV false p71.1).bind fun g73 => (bif g73 then some v10 else some (.tuple [])).bind fun t73 =>
(guardV false p71.1).bind fun g74 => (bif g74 then some v11 else some (.tuple [])).bind fun t74 =>
(guardV false p71.1).bind fun g75 => callD (planOf E0 (B22.r.r.l.r.l.l.r.l.l.r.r.r.r.l.l.r.r.l.l.r.l.l.r.l.l).ops) S 9 [p66.2.log, [], p68.2.log, [], [], p71.2.log, [], [], []] (bif g75 then callK E0 self t73 [t74] (onS p71.2) else some (.ret (.tuple []), (onS p71.2))) fun t75 S75 =>
(pickV p71.1 (some (.bool true)) (some t75)).bind fun t76 =>
(ixP 1 p66.1 v11).bind fun t77 =>
(stP 1 t77 t76 (onS S75)).bind fun p78 =>
endP [(0, [2, 5, 9])] S [p66.2.log, [], p68.2.log, [], [], p71.2.log, [], [], [], S75.log, [], [], p78.2.log] p78.2 fun S79 =>
(binV E0 .sub 3 false true v11 (.int .i64 1)).bind fun t81 =>
L22_63 self N nk ek n v3 v4 v5 v7 v8 v9 v10 t81 v41 S79) (
ek 4 (fr 68 [(3, v3), (4, v4), (5, v5), (7, v7), (8, v8), (9, v9), (10, v10), (41, v41)]) S) := by kernel_rfl
theorem L22_51_eq (self : EV) (N : Nat) (nk : Ac → St → Rs) (ek : Nat → Ac → St → Rs) (n : Nat) ( v3 v4 v5 v7 v8 v9 v10 v41 : V) (S : St) : L22_51 self N nk ek (n + 1) v3 v4 v5 v7 v8 v9 v10 v41 S =
(binV E0 .lss 3 false true v41 (.int .i64 11)).bind fun t52 =>
ifK t52 (
(ld1 v3 S).bind fun p56 =>
(nilCheckV p56.1).bind fun t57 =>
(faP 0 false 1 t57).bind fun t58 =>
(ld1 t58 p56.2).bind fun p59 =>
(lnS p59.1 p59.2).bind fun p60 =>
(binV E0 .sub 3 false true p60.1 (.int .i64 1)).bind fun t61 =>
L22_63 self N (R22_53 self N (N22_51 self N nk ek n) ek) (exB 4 (R22_53 self N (N22_51 self N nk ek n) ek) (exB 3 (R22_53 self N (N22_51 self N nk ek n) ek) ek)) N v3 v4 v5 v7 v8 v9 v10 t61 v41 p60.2) (
ek 2 (fr 68 [(3, v3), (4, v4), (5, v5), (7, v7), (8, v8)]) S) := by kernel_rfl
theorem N22_51_eq (self : EV) (N : Nat) (nk : Ac → St → Rs) (ek : Nat → Ac → St → Rs) (n : Nat) ( v3 v4 v5 v7 v8 v9 v10 v41 : V) (S : St) : N22_51 self N nk ek n (fr 68 [(3, v3), (4, v4), (5, v5), (7, v7), (8, v8), (9, v9), (10, v10), (41, v41)]) S = L22_51 self N nk ek n v3 v4 v5 v7 v8 v9 v10 v41 S := by kernel_rfl
theorem L22_20_eq (self : EV) (N : Nat) (nk : Ac → St → Rs) (ek : Nat → Ac → St → Rs) (n : Nat) ( v3 v4 v5 v7 v8 : V) (S : St) : L22_20 self N nk ek (n + 1) v3 v4 v5 v7 v8 S =
(ld1 v8 S).bind fun p21 =>
(ixA 2 1 false 1 v5 (.int .i64 0)).bind fun t22 =>
(ld1 t22 p21.2).bind fun p23 =>
(binV E0 .geq 3 false false p21.1 p23.1).bind fun t24 =>
ifK t24 (
(ld1 v3 p23.2).bind fun p32 =>
(nilCheckV p32.1).bind fun t33 =>
(faP 0 false 1 t33).bind fun t34 =>
(ld1 t34 p32.2).bind fun p35 =>
(lnS p35.1 p35.2).bind fun p36 =>
(makeSliceK E0 65 p36.1 p36.1 p36.2).bind fun p37 =>
(some (nwP 65 1 (one .nilslice) p37.2)).bind fun p38 =>
(stP 1 p38.1 p37.1 p38.2).bind fun p39 =>
(ld1 v7 p39.2).bind fun p40 =>
(ld1 v8 p40.2).bind fun p41 =>
(ixA 2 1 false 1 v5 (.int .i64 0)).bind fun t42 =>
(ld1 t42 p41.2).bind fun p43 =>
(binV E0 .sub 3 false false p41.1 p43.1).bind fun t44 =>
(ld1 p38.1 p43.2).bind fun p45 =>
(ixP 1 p40.1 t44).bind fun t46 =>
(stP 1 t46 p45.1 p45.2).bind fun p47 =>
L22_51 self N (R22_25 self N (N22_20 self N nk ek n) ek) (exB 2 (R22_25 self N (N22_20 self N nk ek n) ek) (exB 1 (R22_25 self N (N22_20 self N nk ek n) ek) ek)) N v3 v4 v5 v7 v8 p38.1 (.fn (.func 29) [] [v3, v8, v5, v4, v7, p38.1]) (.int .i64 0) p47.2) (
ek 0 (fr 68 [(7, v7)]) p23.2) := by kernel_rfl
theorem N22_20_eq (self : EV) (N : Nat) (nk : Ac → St → Rs) (ek : Nat → Ac → St → Rs) (n : Nat) ( v3 v4 v5 v7 v8 : V) (S : St) : N22_20 self N nk ek n (fr 68 [(3, v3), (4, v4), (5, v5), (7, v7), (8, v8)]) S = L22_20 self N nk ek n v3 v4 v5 v7 v8 S := by kernel_rfl
noncomputable def F22 (self : EV) (N : Nat) (x0 x1 x2 : V) (S : St) : Rs := runF E0 self N Try.f22 B22 [x0, x1, x2] S
theorem F22_eq (self : EV) (N : Nat) (x0 x1 x2 : V) (S : St) : F22 self N x0 x1 x2 S =
(boxK 22 x0 S).bind fun p0 =>
(boxK 9 x1 p0.2).bind fun p1 =>
(boxK 30 x2 p1.2).bind fun p2 =>
(ixA 2 1 false 1 p2.1 (.int .i64 1)).bind fun t4 =>
(ld1 t4 p2.2).bind fun p5 =>
(ixA 2 1 false 1 p2.1 (.int .i64 0)).bind fun t6 =>
(ld1 t6 p5.2).bind fun p7 =>
(binV E0 .sub 3 false false p5.1 p7.1).bind fun t8 =>
(binV E0 .add 3 false true t8 (.int .i64 1)).bind fun t9 =>
(makeSliceK E0 63 t9 t9 p7.2).bind fun p10 =>
(some (nwP 63 1 (one .nilslice) p10.2)).bind fun p11 =>
(stP 1 p11.1 p10.1 p11.2).bind fun p12 =>
(ixA 2 1 false 1 p2.1 (.int .i64 1)).bind fun t16 =>
(ld1 t16 p12.2).bind fun p17 =>
(some (nwP 3 1 (one (.int .i64 0)) p17.2)).bind fun p18 =>
(stP 1 p18.1 p17.1 p18.2).bind fun p19 =>
L22_20 self N (R22_13 self N (finN E0 self Try.f22) noEx) (exB 0 (R22_13 self N (finN E0 self Try.f22) noEx) noEx) N p0.1 p1.1 p2.1 p11.1 p18.1 p19.2 := by kernel_rfl
noncomputable def C15 : Code := Try.f15.body.getD .skip
noncomputable def B15 : D := (annot C15 [[], [], [], [0, 1, 5, 7, 20, 21], [], [0, 1, 5, 7], [], [], [], [0, 0, 1, 5, 7], [6], [], [], [], [0, 5, 7, 9, 10, 11], [], [7], [], [], [], [], [], [], [], [], [], [], [], [0, 7], [6], []]).1
noncomputable def RL15 : List Nat := cellsOf Try.f15.results.toList
noncomputable def R15_9 (self : EV) (N : Nat) (nk : Ac → St → Rs) (ek : Nat → Ac → St → Rs) (a : Ac) (S : St) : Rs := projK [0, 1, 5, 7] a fun a => dr E0 self RL15 N (B15.r.r).r (mkK E0 self Try.f15 nk ek) a S
noncomputable def R15_23 (self : EV) (N : Nat) (nk : Ac → St → Rs) (ek : Nat → Ac → St → Rs) (a : Ac) (S : St) : Rs := projK [7] a fun a => dr E0 self RL15 N (B15.r.r.r.l.r.r.r).r (mkK E0 self Try.f15 nk ek) a S
theorem R15_23_eq (self : EV) (N : Nat) (nk : Ac → St → Rs) (ek : Nat → Ac → St → Rs) ( v7 : V) (S : St) : R15_23 self N nk ek (fr 100 [(7, v7)]) S =
some (.ret v7, S) := by kernel_rfl
noncomputable def L15_26 (self : EV) (N : Nat) (nk : Ac → St → Rs) (ek : Nat → Ac → St → Rs) (n : Nat) ( v0 v5 v7 v9 v10 v11 : V) (S : St) : Rs := loopK [0, 5, 7, 9, 10, 11] (dr E0 self RL15 N (B15.r.r.r.l.r.r.r.l.l.l)) (mkK E0 self Try.f15 nk ek) n (fr 100 [(0, v0), (5, v5), (7, v7), (9, v9), (10, v10), (11, v11)]) S
theorem L15_26_eq (self : EV) (N : Nat) (nk : Ac → St → Rs) (ek : Nat → Ac → St → Rs) (n : Nat) ( v0 v5 v7 v9 v10 v11 : V) (S : St) : L15_26 self N nk ek (n + 1) v0 v5 v7 v9 v10 v11 S =
(nilCheckV v0).bind fun t28 =>
(faP 0 false 1 t28).bind fun t29 =>
(ld1 t29 S).bind fun p30 =>
(ixP 258 p30.1 v10).bind fun t32 =>
(faP 256 false 1 t32).bind fun t33 =>
(ld1 t33 p30.2).bind fun p34 =>
(binV E0 .neq 3 false true p34.1 (.int .i64 6)).bind fun t35 =>
ifK t35 (
(nilCheckV v0).bind fun t37 =>
(faP 0 false 1 t37).bind fun t38 =>
(ld1 t38 p34.2).bind fun p39 =>
(ixP 258 p39.1 v10).bind fun t41 =>
(ldA 258 t41 p39.2).bind fun p42 =>
(some (nwP 50 258 (Tr.ofListFrom .nil [(.bool false), (.bool false), (.bool false), (.bool false), (.bool false), (.bool false), (.bool false), (.bool false), (.bool false), (.bool false), (.bool false), (.bool false), (.bool false), (.bool false), (.bool false), (.bool false), (.bool false), (.bool false), (.bool false), (.bool false), (.bool false), (.bool false), (.bool false), (.bool false), (.bool false), (.bool false), (.bool false), (.bool false), (.bool false), (.bool false), (.bool false), (.bool false), (.bool false), (.bool false), (.bool false), (.bool false), (.bool false), (.bool false), (.bool false), (.bool false), (.bool false), (.bool false), (.bool false), (.bool false), (.bool false), (.bool false), (.bool false), (.bool false), (.bool false), (.bool false), (.bool false), (.bool false), (.bool false), (.bool false), (.bool false), (.bool false), (.bool false), (.bool false), (.bool false), (.bool false), (.bool false), (.bool false), (.bool false), (.bool false), (.bool false), (.bool false), (.bool false), (.bool false), (.bool false), (.bool false), (.bool false), (.bool false), (.bool false), (.bool false), (.bool false), (.bool false), (.bool false), (.bool false), (.bool false), (.bool false), (.bool false), (.bool false), (.bool false), (.bool false), (.bool false), (.bool false), (.bool false), (.bool false), (.bool false), (.bool false), (.bool false), (.bool false), (.bool false), (.bool false), (.bool false), (.bool false), (.bool false), (.bool false), (.bool false), (.bool false), (.bool false), (.bool false), (.bool false), (.bool false), (.bool false), (.bool false), (.bool false), (.bool false), (.bool false), (.bool false), (.bool false), (.bool false), (.bool false), (.bool false), (.bool false), (.bool false), (.bool false), (.bool false), (.bool false), (.bool false), (.bool false), (.bool false), (.bool false), (.bool false), (.bool false), (.bool false), (.bool false), (.bool false), (.bool false), (.bool false), (.bool false), (.bool false), (.bool false), (.bool false), (.bool false), (.bool false), (.bool false), (.bool false), (.bool false), (.bool false), (.bool false), (.bool false), (.bool false), (.bool false), (.bool false), (.bool false), (.bool false), (.bool false), (.bool false), (.bool false), (.bool false), (.bool false), (.bool false), (.bool false), (.bool false), (.bool false), (.bool false), (.bool false), (.bool false), (.bool false), (.bool false), (.bool false), (.bool false), (.bool false), (.bool false), (.bool false), (.bool false), (.bool false), (.bool false), (.bool false), (.bool false), (.bool false), (.bool false), (.bool false), (.bool false), (.bool false), (.bool false), (.bool false), (.bool false), (.bool false), (.bool false), (.bool false), (.bool false), (.bool false), (.bool false), (.bool false), (.bool false), (.bool false), (.bool false), (.bool false), (.bool false), (.bool false), (.bool false), (.bool false), (.bool false), (.bool false), (.bool false), (.bool false), (.bool false), (.bool false), (.bool false), (.bool false), (.bool false), (.bool false), (.bool false), (.bool false), (.bool false), (.bool false), (.bool false), (.bool false), (.bool false), (.bool false), (.bool false), (.bool false), (.bool false), (.bool false), (.bool false), (.bool false), (.bool false), (.bool false), (.bool false), (.bool false), (.bool false), (.bool false), (.bool false), (.bool false), (.bool false), (.bool false), (.bool false), (.bool false), (.bool false), (.bool false), (.bool false), (.bool false), (.bool false), (.bool false), (.bool false), (.bool false), (.bool false), (.bool false), (.bool false), (.bool false), (.bool false), (.bool false), (.bool false), (.bool false), (.bool false), (.bool false), (.bool false), (.bool false), (.bool false), (.bool false), (.bool false), (.bool false), (.bool false), (.bool false), (.int .i64 0), (.int .i64 0)] 0) p42.2)).bind fun p43 =>
(stP 258 p43.1 p42.1 p43.2).bind fun p44 =>
(faP 256 false 1 p43.1).bind fun t45 =>
(ld1 t45 p44.2).bind fun p46 =>
(binV E0 .eql 3 false true p46.1 (.int .i64 0)).bind fun t47 =>
ifK t47 (
(binV E0 .add 3 false true v11 (.int .i64 1)).bind fun t50 =>
(binV E0 .add 3 false true v10 (.int .i64 1)).bind fun t53 =>
L15_26 self N nk ek n v0 v5 v7 v9 t53 t50 p46.2) (
(binV E0 .eql 3 false true p46.1 (.int .i64 5)).bind fun t55 =>
ifK t55 (
(faP 257 false 1 p43.1).bind fun t58 =>
(ld1 t58 (onS p46.2)).bind fun p59 =>
(binV E0 .quo 3 false true p59.1 (.int .i64 2)).bind fun t60 =>
(faP 257 false 1 p43.1).bind fun t61 =>
(ld1 t61 (onS p59.2)).bind fun p62 =>
(binV E0 .rem 3 false true p62.1 (.int .i64 2)).bind fun t63 =>
(ixP 2 v7 t60).bind fun t65 =>
(ixA 2 1 false 1 t65 t63).bind fun t66 =>
(stP 1 t66 v11 (onS p62.2)).bind fun p67 =>
endP [(2, [5])] p46.2 [[], [], p59.2.log, [], [], p62.2.log, [], [], [], [], p67.2.log] p67.2 fun S68 =>
(binV E0 .add 3 false true v10 (.int .i64 1)).bind fun t70 =>
L15_26 self N nk ek n v0 v5 v7 v9 t70 v11 S68) (
(binV E0 .eql 3 false true p46.1 (.int .i64 3)).bind fun t72 =>
ifK t72 (
(binV E0 .add 3 false true v10 (.int .i64 1)).bind fun t75 =>
(ixA 2 1 false 1 v5 (.int .i64 0)).bind fun t79 =>
(ld1 t79 p46.2).bind fun p80 =>
(binV E0 .sub 3 false false v11 p80.1).bind fun t81 =>
(ixP 1 v9 t81).bind fun t82 =>
(ld1 t82 p80.2).bind fun p83 =>
(ixP 1 p83.1 t75).bind fun t85 =>
(ld1 t85 p83.2).bind fun p86 =>
(unV .not p86.1).bind fun t87 =>
ifK t87 (
(faP 257 false 1 p43.1).bind fun t88 =>
(ld1 t88 p86.2).bind fun p89 =>
L15_26 self N nk ek n v0 v5 v7 v9 p89.1 v11 p89.2) (
L15_26 self N nk ek n v0 v5 v7 v9 t75 v11 p86.2)) (
(binV E0 .eql 3 false true p46.1 (.int .i64 4)).bind fun t91 =>
ifK t91 (
(faP 257 false 1 p43.1).bind fun t93 =>
(ld1 t93 p46.2).bind fun p94 =>
L15_26 self N nk ek n v0 v5 v7 v9 p94.1 v11 p94.2) (
(binV E0 .add 3 false true v10 (.int .i64 1)).bind fun t97 =>
L15_26 self N nk ek n v0 v5 v7 v9 t97 v11 p46.2))))) (
ek 2 (fr 100 [(7, v7)]) p34.2) := by kernel_rfl
theorem R15_9_eq (self : EV) (N : Nat) (nk : Ac → St → Rs) (ek : Nat → Ac → St → Rs) ( v0 v1 v5 v7 : V) (S : St) : R15_9 self N nk ek (fr 100 [(0, v0), (1, v1), (5, v5), (7, v7)]) S =
(ldA 2 v5 S).bind fun p11 =>
(ixP 2 v7 (.int .i64 0)).bind fun t12 =>
(stP 2 t12 p11.1 p11.2).bind fun p13 =>
(ldA 2 v5 p13.2).bind fun p16 =>
callP (self.f 22 [v0, v1, p16.1] p16.2) fun t17 S17 =>
(ixA 2 1 false 1 v5 (.int .i64 0)).bind fun t19 =>
(ld1 t19 (onS S17)).bind fun p20 =>
L15_26 self N (R15_23 self N (fun a s => projK [6] a fun a => nk a s) ek) (exB 2 (R15_23 self N (fun a s => projK [6] a fun a => nk a s) ek) ek) N v0 v5 v7 t17 (.int .i64 0) p20.1 (relog S17 (onS p20.2) [[], p20.2.log, [], []]) := by kernel_rfl
noncomputable def L15_102 (self : EV) (N : Nat) (nk : Ac → St → Rs) (ek : Nat → Ac → St → Rs) (n : Nat) ( v0 v1 v5 v7 v20 v21 : V) (S : St) : Rs := loopK [0, 1, 5, 7, 20, 21] (dr E0 self RL15 N (B15.r.r.l.r.l.l)) (mkK E0 self Try.f15 nk ek) n (fr 100 [(0, v0), (1, v1), (5, v5), (7, v7), (20, v20), (21, v21)]) S
theorem L15_102_eq (self : EV) (N : Nat) (nk : Ac → St → Rs) (ek : Nat → Ac → St → Rs) (n : Nat) ( v0 v1 v5 v7 v20 v21 : V) (S : St) : L15_102 self N nk ek (n + 1) v0 v1 v5 v7 v20 v21 S =
(binV E0 .lss 3 false false v21 v20).bind fun t103 =>
ifK t103 (
(buildV E0 30 [(0, (.int .i64 (-1))), (1, (.int .i64 (-1)))]).bind fun t108 =>
(ixP 2 v7 v21).bind fun t109 =>
(stP 2 t109 t108 S).bind fun p110 =>
(binV E0 .add 3 false true v21 (.int .i64 1)).bind fun t111 =>
L15_102 self N nk ek n v0 v1 v5 v7 v20 t111 p110.2) (
ek 0 (fr 100 [(0, v0), (1, v1), (5, v5), (7, v7)]) S) := by kernel_rfl
noncomputable def F15 (self : EV) (N : Nat) (x0 x1 x2 : V) (S : St) : Rs := runF E0 self N Try.f15 B15 [x0, x1, x2] S
theorem F15_eq (self : EV) (N : Nat) (x0 x1 x2 : V) (S : St) : F15 self N x0 x1 x2 S =
(boxK 30 x2 S).bind fun p0 =>
(nilCheckV x0).bind fun t3 =>
(faP 1 false 1 t3).bind fun t4 =>
(ld1 t4 p0.2).bind fun p5 =>
(binV E0 .add 3 false true p5.1 (.int .i64 1)).bind fun t6 =>
(makeSliceK E0 27 t6 t6 p5.2).bind fun p7 =>
(lnS p7.1 p7.2).bind fun p100 =>
L15_102 self N (R15_9 self N (finN E0 self Try.f15) noEx) (exB 0 (R15_9 self N (finN E0 self Try.f15) noEx) noEx) N x0 x1 p0.1 p7.1 p100.1 (.int .i64 0) p100.2 := by kernel_rfl
end
end Go.Proofs.Ytachpdpmoihjmaa.W
namespace Go.Proofs.Ytachpdpmoihjmaa.W
open Go.Proofs.Ytachpdpmoihjmaa.Ev
set_option maxRecDepth 100000
noncomputable section
noncomputable def C8 : Code := Try.f8.body.getD .skip
noncomputable def B8 : D := (annot C8 [[], [], [], [], [], [], [], [], []]).1
noncomputable def F8 (self : EV) (N : Nat) (x0 x1 x2 : V) (S : St) : Rs := runF E0 self N Try.f8 B8 [x0, x1, x2] S
theorem F8_eq (self : EV) (N : Nat) (x0 x1 x2 : V) (S : St) : F8 self N x0 x1 x2 S =
(binV E0 .eql 22 false true x0 .nilptr).bind fun t3 =>
(guardV false t3).bind fun g5 => (bif g5 then some x2 else some (.tuple [])).bind fun t5 =>
(guardV false t3).bind fun g6 => (bif g6 then binV E0 .lss 3 false true t5 (.int .i64 0) else some (.tuple [])).bind fun t6 =>
(pickV t3 (some (.bool true)) (some t6)).bind fun t7 =>
(guardV false t7).bind fun g9 => (bif g9 then some x2 else some (.tuple [])).bind fun t9 =>
(guardV false t7).bind fun g10 => (bif g10 then some x1 else some (.tuple [])).bind fun t10 =>
(guardV false t7).bind fun g11 => (bif g11 then lnStr t10 S else some (.tuple [], S)).bind fun p11 =>
(guardV false t7).bind fun g12 => (bif g12 then binV E0 .gtr 3 false false t9 p11.1 else some (.tuple [])).bind fun t12 =>
(pickV t7 (some (.bool true)) (some t12)).bind fun t13 =>
ifK t13 (
some (.ret (.tuple [.nilslice, (.bool false)]), p11.2)) (
callP (self.f 14 [x0, x1, x2] p11.2) fun t19 S19 =>
(extractV t19 0).bind fun t21 =>
(extractV t19 1).bind fun t22 =>
(some (nwP 30 2 (Tr.ofListFrom .nil [(.int .i64 0), (.int .i64 0)] 0) S19)).bind fun p23 =>
(stP 2 p23.1 t21 p23.2).bind fun p24 =>
(unV .not t22).bind fun t27 =>
ifK t27 (
some (.ret (.tuple [.nilslice, (.bool false)]), p24.2)) (
(ldA 2 p23.1 p24.2).bind fun p32 =>
callP (self.f 15 [x0, x1, p32.1] p32.2) fun t33 S33 =>
some (.ret (.tuple [t33, (.bool true)]), S33))) := by kernel_rfl
end
end Go.Proofs.Ytachpdpmoihjmaa.W
namespace Go.Proofs.Ytachpdpmoihjmaa.W
open Go.Proofs.Ytachpdpmoihjmaa.Ev
set_option maxRecDepth 100000
noncomputable section
noncomputable def C24 : Code := Try.f24.body.getD .skip
noncomputable def B24 : D := (annot C24 [[], [], [], [0, 3, 6], [], [0, 3], [], [], [], [0, 0, 3], [2], [], []]).1
noncomputable def RL24 : List Nat := cellsOf Try.f24.results.toList
noncomputable def R24_4 (self : EV) (N : Nat) (nk : Ac → St → Rs) (ek : Nat → Ac → St → Rs) (a : Ac) (S : St) : Rs := projK [0, 3] a fun a => dr E0 self RL24 N (B24.r.r).r (mkK E0 self Try.f24 nk ek) a S
theorem R24_4_eq (self : EV) (N : Nat) (nk : Ac → St → Rs) (ek : Nat → Ac → St → Rs) ( v0 v3 : V) (S : St) : R24_4 self N nk ek (fr 17 [(0, v0), (3, v3)]) S =
(ldA 258 v3 S).bind fun p6 =>
callP (self.f 13 [v0, p6.1] p6.2) fun t7 S7 =>
some (.ret (.bool false), S7) := by kernel_rfl
noncomputable def L24_10 (self : EV) (N : Nat) (nk : Ac → St → Rs) (ek : Nat → Ac → St → Rs) (n : Nat) ( v0 v3 v6 : V) (S : St) : Rs := loopK [0, 3, 6] (dr E0 self RL24 N (B24.r.r.l.r.l.l)) (mkK E0 self Try.f24 nk ek) n (fr 17 [(0, v0), (3, v3), (6, v6)]) S
theorem L24_10_eq (self : EV) (N : Nat) (nk : Ac → St → Rs) (ek : Nat → Ac → St → Rs) (n : Nat) ( v0 v3 v6 : V) (S : St) : L24_10 self N nk ek (n + 1) v0 v3 v6 S =
(binV E0 .lss 3 false true v6 (.int .i64 256)).bind fun t11 =>
ifK t11 (
(faP 0 true 256 v3).bind fun t15 =>
(faP 0 true 256 t15).bind fun t16 =>
(ixA 256 1 false 1 t16 v6).bind fun t17 =>
(stP 1 t17 (.bool true) S).bind fun p18 =>
(binV E0 .add 3 false true v6 (.int .i64 1)).bind fun t19 =>
L24_10 self N nk ek n v0 v3 t19 p18.2) (
ek 0 (fr 17 [(0, v0), (3, v3)]) S) := by kernel_rfl
noncomputable def F24 (self : EV) (N : Nat) (x0 : V) (S : St) : Rs := runF E0 self N Try.f24 B24 [x0] S
theorem F24_eq (self : EV) (N : Nat) (x0 : V) (S : St) : F24 self N x0 S =
(buildV E0 50 [(1, (.int .i64 0))]).bind fun t1 =>
(some (nwP 50 258 (Tr.ofListFrom .nil [(.bool false), (.bool false), (.bool false), (.bool false), (.bool false), (.bool false), (.bool false), (.bool false), (.bool false), (.bool false), (.bool false), (.bool false), (.bool false), (.bool false), (.bool false), (.bool false), (.bool false), (.bool false), (.bool false), (.bool false), (.bool false), (.bool false), (.bool false), (.bool false), (.bool false), (.bool false), (.bool false), (.bool false), (.bool false), (.bool false), (.bool false), (.bool false), (.bool false), (.bool false), (.bool false), (.bool false), (.bool false), (.bool false), (.bool false), (.bool false), (.bool false), (.bool false), (.bool false), (.bool false), (.bool false), (.bool false), (.bool false), (.bool false), (.bool false), (.bool false), (.bool false), (.bool false), (.bool false), (.bool false), (.bool false), (.bool false), (.bool false), (.bool false), (.bool false), (.bool false), (.bool false), (.bool false), (.bool false), (.bool false), (.bool false), (.bool false), (.bool false), (.bool false), (.bool false), (.bool false), (.bool false), (.bool false), (.bool false), (.bool false), (.bool false), (.bool false), (.bool false), (.bool false), (.bool false), (.bool false), (.bool false), (.bool false), (.bool false), (.bool false), (.bool false), (.bool false), (.bool false), (.bool false), (.bool false), (.bool false), (.bool false), (.bool false), (.bool false), (.bool false), (.bool false), (.bool false), (.bool false), (.bool false), (.bool false), (.bool false), (.bool false), (.bool false), (.bool false), (.bool false), (.bool false), (.bool false), (.bool false), (.bool false), (.bool false), (.bool false), (.bool false), (.bool false), (.bool false), (.bool false), (.bool false), (.bool false), (.bool false), (.bool false), (.bool false), (.bool false), (.bool false), (.bool false), (.bool false), (.bool false), (.bool false), (.bool false), (.bool false), (.bool false), (.bool false), (.bool false), (.bool false), (.bool false), (.bool false), (.bool false), (.bool false), (.bool false), (.bool false), (.bool false), (.bool false), (.bool false), (.bool false), (.bool false), (.bool false), (.bool false), (.bool false), (.bool false), (.bool false), (.bool false), (.bool false), (.bool false), (.bool false), (.bool false), (.bool false), (.bool false), (.bool false), (.bool false), (.bool false), (.bool false), (.bool false), (.bool false), (.bool false), (.bool false), (.bool false), (.bool false), (.bool false), (.bool false), (.bool false), (.bool false), (.bool false), (.bool false), (.bool false), (.bool false), (.bool false), (.bool false), (.bool false), (.bool false), (.bool false), (.bool false), (.bool false), (.bool false), (.bool false), (.bool false), (.bool false), (.bool false), (.bool false), (.bool false), (.bool false), (.bool false), (.bool false), (.bool false), (.bool false), (.bool false), (.bool false), (.bool false), (.bool false), (.bool false), (.bool false), (.bool false), (.bool false), (.bool false), (.bool false), (.bool false), (.bool false), (.bool false), (.bool false), (.bool false), (.bool false), (.bool false), (.bool false), (.bool false), (.bool false), (.bool false), (.bool false), (.bool false), (.bool false), (.bool false), (.bool false), (.bool false), (.bool false), (.bool false), (.bool false), (.bool false), (.bool false), (.bool false), (.bool false), (.bool false), (.bool false), (.bool false), (.bool false), (.bool false), (.bool false), (.bool false), (.bool false), (.bool false), (.bool false), (.bool false), (.bool false), (.bool false), (.bool false), (.bool false), (.bool false), (.bool false), (.bool false), (.bool false), (.bool false), (.bool false), (.bool false), (.bool false), (.bool false), (.bool false), (.bool false), (.bool false), (.bool false), (.bool false), (.bool false), (.bool false), (.int .i64 0), (.int .i64 0)] 0) S)).bind fun p2 =>
(stP 258 p2.1 t1 p2.2).bind fun p3 =>
L24_10 self N (R24_4 self N (finN E0 self Try.f24) noEx) (exB 0 (R24_4 self N (finN E0 self Try.f24) noEx) noEx) N x0 p2.1 (.int .i64 0) p3.2 := by kernel_rfl
end
end Go.Proofs.Ytachpdpmoihjmaa.W
namespace Go.Proofs.Ytachpdpmoihjmaa.W
open Go.Proofs.Ytachpdpmoihjmaa.Ev
set_option maxRecDepth 100000
noncomputable section
noncomputable def C10 : Code := Try.f10.body.getD .skip
noncomputable def B10 : D := (annot C10 [[], [], [], [], [], [], [], [], [], [], [], [9, 11, 12], [], [11], [], [], [9, 11, 12, 13], [], [9, 11, 12], [], [], [], [], [], [0, 9, 11, 12], [9, 11, 12], [0, 11], [6], []]).1
noncomputable def RL10 : List Nat := cellsOf Try.f10.results.toList
noncomputable def R10_28 (self : EV) (N : Nat) (nk : Ac → St → Rs) (ek : Nat → Ac → St → Rs) (a : Ac) (S : St) : Rs := projK [11] a fun a => dr E0 self RL10 N (B10.r.r.r.r.r.r).r (mkK E0 self Try.f10 nk ek) a S
theorem R10_28_eq (self : EV) (N : Nat) (nk : Ac → St → Rs) (ek : Nat → Ac → St → Rs) ( v11 : V) (S : St) : R10_28 self N nk ek (fr 75 [(11, v11)]) S =
some (.ret v11, S) := by kernel_rfl
noncomputable def N10_32 (self : EV) (N : Nat) (nk : Ac → St → Rs) (ek : Nat → Ac → St → Rs) (n : Nat) : Ac → St → Rs := fun a S => projK [9, 11, 12] a fun a => loopK [9, 11, 12] (dr E0 self RL10 N (B10.r.r.r.r.r.r.l.r.l.l)) (mkK E0 self Try.f10 nk ek) n a S
noncomputable def L10_32 (self : EV) (N : Nat) (nk : Ac → St → Rs) (ek : Nat → Ac → St → Rs) (n : Nat) ( v9 v11 v12 : V) (S : St) : Rs := loopK [9, 11, 12] (dr E0 self RL10 N (B10.r.r.r.r.r.r.l.r.l.l)) (mkK E0 self Try.f10 nk ek) n (fr 75 [(9, v9), (11, v11), (12, v12)]) S
noncomputable def R10_37 (self : EV) (N : Nat) (nk : Ac → St → Rs) (ek : Nat → Ac → St → Rs) (a : Ac) (S : St) : Rs := projK [9, 11, 12] a fun a => dr E0 self RL10 N (B10.r.r.r.r.r.r.l.r.l.l.r).r (mkK E0 self Try.f10 nk ek) a S
theorem R10_37_eq (self : EV) (N : Nat) (nk : Ac → St → Rs) (ek : Nat → Ac → St → Rs) ( v9 v11 v12 : V) (S : St) : R10_37 self N nk ek (fr 75 [(9, v9), (11, v11), (12, v12)]) S =
(binV E0 .add 3 false true v12 (.int .i64 1)).bind fun t39 =>
nk (fr 75 [(9, v9), (11, v11), (12, t39)]) S := by kernel_rfl
noncomputable def L10_42 (self : EV) (N : Nat) (nk : Ac → St → Rs) (ek : Nat → Ac → St → Rs) (n : Nat) ( v9 v11 v12 v13 : V) (S : St) : Rs := loopK [9, 11, 12, 13] (dr E0 self RL10 N (B10.r.r.r.r.r.r.l.r.l.l.r.l.l.r.l.l)) (mkK E0 self Try.f10 nk ek) n (fr 75 [(9, v9), (11, v11), (12, v12), (13, v13)]) S
theorem L10_42_eq (self : EV) (N : Nat) (nk : Ac → St → Rs) (ek : Nat → Ac → St → Rs) (n : Nat) ( v9 v11 v12 v13 : V) (S : St) : L10_42 self N nk ek (n + 1) v9 v11 v12 v13 S =
(binV E0 .lss 3 false true v13 (.int .i64 2)).bind fun t44 =>
ifK t44 (
(ixP 2 v9 v12).bind fun t48 =>
(ixA 2 1 false 1 t48 v13).bind fun t49 =>
(ld1 t49 S).bind fun p50 =>
(binV E0 .lss 3 false true p50.1 (.int .i64 0)).bind fun t53 =>
ifK t53 (
(binV E0 .add 9 false true v11 (sv [45])).bind fun t56 =>
(binV E0 .add 3 false true v13 (.int .i64 1)).bind fun t59 =>
L10_42 self N nk ek n v9 t56 v12 t59 p50.2) (
(binV E0 .lss 3 false true p50.1 (.int .i64 10)).bind fun t62 =>
ifK t62 (
(cvI .u8 p50.1 p50.2).bind fun p66 =>
(binV E0 .add 5 true false (.int .u8 48) p66.1).bind fun t67 =>
(bsP 5 1 1 (one (.int .u8 0)) [(0, t67)] p66.2).bind fun p68 =>
(convertV E0 33 9 p68.1 p68.2).bind fun p69 =>
(binV E0 .add 9 false false v11 p69.1).bind fun t70 =>
(binV E0 .add 3 false true v13 (.int .i64 1)).bind fun t73 =>
L10_42 self N nk ek n v9 t70 v12 t73 p69.2) (
(binV E0 .sub 3 false true p50.1 (.int .i64 10)).bind fun t77 =>
(cvI .u8 t77 p50.2).bind fun p78 =>
(binV E0 .add 5 true false (.int .u8 97) p78.1).bind fun t79 =>
(bsP 5 1 1 (one (.int .u8 0)) [(0, t79)] p78.2).bind fun p80 =>
(convertV E0 33 9 p80.1 p80.2).bind fun p81 =>
(binV E0 .add 9 false false v11 p81.1).bind fun t82 =>
(binV E0 .add 3 false true v13 (.int .i64 1)).bind fun t85 =>
L10_42 self N nk ek n v9 t82 v12 t85 p81.2))) (
ek 2 (fr 75 [(9, v9), (11, v11), (12, v12)]) S) := by kernel_rfl
theorem L10_32_eq (self : EV) (N : Nat) (nk : Ac → St → Rs) (ek : Nat → Ac → St → Rs) (n : Nat) ( v9 v11 v12 : V) (S : St) : L10_32 self N nk ek (n + 1) v9 v11 v12 S =
(lnS v9 S).bind fun p35 =>
(binV E0 .lss 3 false false v12 p35.1).bind fun t36 =>
ifK t36 (
L10_42 self N (R10_37 self N (N10_32 self N nk ek n) ek) (exB 2 (R10_37 self N (N10_32 self N nk ek n) ek) (exB 1 (R10_37 self N (N10_32 self N nk ek n) ek) ek)) N v9 v11 v12 (.int .i64 0) p35.2) (
ek 0 (fr 75 [(11, v11)]) p35.2) := by kernel_rfl
theorem N10_32_eq (self : EV) (N : Nat) (nk : Ac → St → Rs) (ek : Nat → Ac → St → Rs) (n : Nat) ( v9 v11 v12 : V) (S : St) : N10_32 self N nk ek n (fr 75 [(9, v9), (11, v11), (12, v12)]) S = L10_32 self N nk ek n v9 v11 v12 S := by kernel_rfl
noncomputable def F10 (self : EV) (N : Nat) (x0 x1 x2 : V) (S : St) : Rs := runF E0 self N Try.f10 B10 [x0, x1, x2] S
theorem F10_eq (self : EV) (N : Nat) (x0 x1 x2 : V) (S : St) : F10 self N x0 x1 x2 S =
callP (self.f 6 [x0] S) fun t2 S2 =>
(extractV t2 0).bind fun t4 =>
(extractV t2 1).bind fun t5 =>
(binV E0 .neq 23 false true t5 (.int .i64 0)).bind fun t9 =>
(guardV false t9).bind fun g11 => (bif g11 then some t4 else some (.tuple [])).bind fun t11 =>
(guardV false t9).bind fun g12 => (bif g12 then binV E0 .eql 22 false true t11 .nilptr else some (.tuple [])).bind fun t12 =>
(pickV t9 (some (.bool true)) (some t12)).bind fun t13 =>
ifK t13 (
some (.ret (sv [33]), S2)) (
callP (self.f 8 [t4, x1, x2] S2) fun t18 S18 =>
(extractV t18 0).bind fun t20 =>
(extractV t18 1).bind fun t21 =>
(unV .not t21).bind fun t25 =>
ifK t25 (
some (.ret (sv [110, 111]), S18)) (
L10_32 self N (R10_28 self N (finN E0 self Try.f10) noEx) (exB 0 (R10_28 self N (finN E0 self Try.f10) noEx) noEx) N t20 (sv []) (.int .i64 0) S18)) := by kernel_rfl
end
end Go.Proofs.Ytachpdpmoihjmaa.W
namespace Go.Proofs.Ytachpdpmoihjmaa.W
open Go.Proofs.Ytachpdpmoihjmaa.Ev
set_option maxRecDepth 100000
noncomputable section
noncomputable def C5 : Code := Try.f5.body.getD .skip
noncomputable def B5 : D := (annot C5 [[], [], [], [], [0, 1, 5, 6, 7], [], [1, 5, 6], [], [], [0, 1, 5, 6, 7], [], [], [], [0, 1, 5, 6], [4], [], [], [], [], [], [], [0, 5, 8, 9, 10], [4], []]).1
noncomputable def RL5 : List Nat := cellsOf Try.f5.results.toList
noncomputable def R5_3 (self : EV) (N : Nat) (nk : Ac → St → Rs) (ek : Nat → Ac → St → Rs) (a : Ac) (S : St) : Rs := projK [1, 5, 6] a fun a => dr E0 self RL5 N (B5.r.r.r).r (mkK E0 self Try.f5 nk ek) a S
theorem R5_3_eq (self : EV) (N : Nat) (nk : Ac → St → Rs) (ek : Nat → Ac → St → Rs) ( v1 v5 v6 : V) (S : St) : R5_3 self N nk ek (fr 93 [(1, v1), (5, v5), (6, v6)]) S =
(bsP 5 1 1 (one (.int .u8 0)) [(0, v1)] S).bind fun p5 =>
(convertV E0 33 9 p5.1 p5.2).bind fun p6 =>
(binV E0 .eql 9 false true v5 (sv [])).bind fun t9 =>
ifK t9 (
callP (self.f 10 [(sv [46]), p6.1, (.int .i64 0)] p6.2) fun t11 S11 =>
(binV E0 .eql 9 false true t11 (sv [48, 49])).bind fun t12 =>
(guardV true t12).bind fun g14 => callP (bif g14 then self.f 9 [] S11 else some (.ret (.tuple []), S11)) fun t14 S14 =>
(pickV t12 (some t14) (some (.bool false))).bind fun t15 =>
some (.ret t15, S14)) (
ifK v6 (
(binV E0 .add 9 true false (sv [91]) v5).bind fun t23 =>
(binV E0 .add 9 false true t23 (sv [93])).bind fun t24 =>
callP (self.f 10 [t24, p6.1, (.int .i64 0)] p6.2) fun t26 S26 =>
(binV E0 .eql 9 false false t26 (sv [48, 49])).bind fun t28 =>
(guardV true t28).bind fun g30 => (bif g30 then some v5 else some (.tuple [])).bind fun t30 =>
(guardV true t28).bind fun g31 => (bif g31 then binV E0 .add 9 true false (sv [91, 94]) t30 else some (.tuple [])).bind fun t31 =>
(guardV true t28).bind fun g32 => (bif g32 then binV E0 .add 9 false true t31 (sv [93]) else some (.tuple [])).bind fun t32 =>
(guardV true t28).bind fun g33 => (bif g33 then some p6.1 else some (.tuple [])).bind fun t33 =>
(guardV true t28).bind fun g34 => callP (bif g34 then self.f 10 [t32, t33, (.int .i64 0)] S26 else some (.ret (.tuple []), S26)) fun t34 S34 =>
(guardV true t28).bind fun g35 => (bif g35 then some (sv [110, 111]) else some (.tuple [])).bind fun t35 =>
(guardV true t28).bind fun g36 => (bif g36 then binV E0 .eql 9 false false t34 t35 else some (.tuple [])).bind fun t36 =>
(pickV t28 (some t36) (some (.bool false))).bind fun t37 =>
(guardV true t37).bind fun g39 => (bif g39 then some p6.1 else some (.tuple [])).bind fun t39 =>
(guardV true t37).bind fun g40 => callP (bif g40 then self.f 10 [(sv [46]), t39, (.int .i64 0)] S34 else some (.ret (.tuple []), S34)) fun t40 S40 =>
(guardV true t37).bind fun g41 => (bif g41 then binV E0 .eql 9 false true t40 (sv [48, 49]) else some (.tuple [])).bind fun t41 =>
(pickV t37 (some t41) (some (.bool false))).bind fun t42 =>
(guardV true t42).bind fun g44 => callP (bif g44 then self.f 9 [] S40 else some (.ret (.tuple []), S40)) fun t44 S44 =>
(pickV t42 (some t44) (some (.bool false))).bind fun t45 =>
some (.ret t45, S44)) (
(binV E0 .add 9 true false (sv [91]) v5).bind fun t48 =>
(binV E0 .add 9 false true t48 (sv [93])).bind fun t49 =>
callP (self.f 10 [t49, p6.1, (.int .i64 0)] p6.2) fun t51 S51 =>
(binV E0 .eql 9 false false t51 (sv [110, 111])).bind fun t53 =>
(guardV true t53).bind fun g55 => (bif g55 then some v5 else some (.tuple [])).bind fun t55 =>
(guardV true t53).bind fun g56 => (bif g56 then binV E0 .add 9 true false (sv [91, 94]) t55 else some (.tuple [])).bind fun t56 =>
(guardV true t53).bind fun g57 => (bif g57 then binV E0 .add 9 false true t56 (sv [93]) else some (.tuple [])).bind fun t57 =>
(guardV true t53).bind fun g58 => (bif g58 then some p6.1 else some (.tuple [])).bind fun t58 =>
(guardV true t53).bind fun g59 => callP (bif g59 then self.f 10 [t57, t58, (.int .i64 0)] S51 else some (.ret (.tuple []), S51)) fun t59 S59 =>
(guardV true t53).bind fun g60 => (bif g60 then some (sv [48, 49]) else some (.tuple [])).bind fun t60 =>
(guardV true t53).bind fun g61 => (bif g61 then binV E0 .eql 9 false false t59 t60 else some (.tuple [])).bind fun t61 =>
(pickV t53 (some t61) (some (.bool false))).bind fun t62 =>
(guardV true t62).bind fun g64 => (bif g64 then some p6.1 else some (.tuple [])).bind fun t64 =>
(guardV true t62).bind fun g65 => callP (bif g65 then self.f 10 [(sv [46]), t64, (.int .i64 0)] S59 else some (.ret (.tuple []), S59)) fun t65 S65 =>
(guardV true t62).bind fun g66 => (bif g66 then binV E0 .eql 9 false true t65 (sv [48, 49]) else some (.tuple [])).bind fun t66 =>
(pickV t62 (some t66) (some (.bool false))).bind fun t67 =>
(guardV true t67).bind fun g69 => callP (bif g69 then self.f 9 [] S65 else some (.ret (.tuple []), S65)) fun t69 S69 =>
(pickV t67 (some t69) (some (.bool false))).bind fun t70 =>
some (.ret t70, S69))) := by kernel_rfl
noncomputable def L5_73 (self : EV) (N : Nat) (nk : Ac → St → Rs) (ek : Nat → Ac → St → Rs) (n : Nat) ( v0 v1 v5 v6 v7 : V) (S : St) : Rs := loopK [0, 1, 5, 6, 7] (dr E0 self RL5 N (B5.r.r.r.l.r.l.l)) (mkK E0 self Try.f5 nk ek) n (fr 93 [(0, v0), (1, v1), (5, v5), (6, v6), (7, v7)]) S
theorem L5_73_eq (self : EV) (N : Nat) (nk : Ac → St → Rs) (ek : Nat → Ac → St → Rs) (n : Nat) ( v0 v1 v5 v6 v7 : V) (S : St) : L5_73 self N nk ek (n + 1) v0 v1 v5 v6 v7 S =
(lnS v0 S).bind fun p76 =>
(binV E0 .lss 3 false false v7 p76.1).bind fun t77 =>
(guardV true t77).bind fun g79 => (bif g79 then some v7 else some (.tuple [])).bind fun t79 =>
(guardV true t77).bind fun g80 => (bif g80 then binV E0 .lss 3 false true t79 (.int .i64 12) else some (.tuple [])).bind fun t80 =>
(pickV t77 (some t80) (some (.bool false))).bind fun t81 =>
ifK t81 (
(ixP 1 v0 v7).bind fun t84 =>
(ld1 t84 p76.2).bind fun p85 =>
(binV E0 .eql 5 false true p85.1 (.int .u8 45)).bind fun t86 =>
(guardV false t86).bind fun g88 => (bif g88 then some v0 else some (.tuple [])).bind fun t88 =>
(guardV false t86).bind fun g89 => (bif g89 then some v7 else some (.tuple [])).bind fun t89 =>
(guardV false t86).bind fun g90 => (bif g90 then ixP 1 t88 t89 else some (.tuple [])).bind fun t90 =>
(guardV false t86).bind fun g91 => (bif g91 then ld1 t90 p85.2 else some (.tuple [], p85.2)).bind fun p91 =>
(guardV false t86).bind fun g92 => (bif g92 then binV E0 .eql 5 false true p91.1 (.int .u8 93) else some (.tuple [])).bind fun t92 =>
(pickV t86 (some (.bool true)) (some t92)).bind fun t93 =>
(guardV false t93).bind fun g95 => (bif g95 then some v0 else some (.tuple [])).bind fun t95 =>
(guardV false t93).bind fun g96 => (bif g96 then some v7 else some (.tuple [])).bind fun t96 =>
(guardV false t93).bind fun g97 => (bif g97 then ixP 1 t95 t96 else some (.tuple [])).bind fun t97 =>
(guardV false t93).bind fun g98 => (bif g98 then ld1 t97 p91.2 else some (.tuple [], p91.2)).bind fun p98 =>
(guardV false t93).bind fun g99 => (bif g99 then binV E0 .eql 5 false true p98.1 (.int .u8 94) else some (.tuple [])).bind fun t99 =>
(pickV t93 (some (.bool true)) (some t99)).bind fun t100 =>
ifK t100 (
(binV E0 .add 3 false true v7 (.int .i64 1)).bind fun t102 =>
L5_73 self N nk ek n v0 v1 v5 v6 t102 p98.2) (
(binV E0 .add 3 false true v7 (.int .i64 1)).bind fun t108 =>
(sliceV E0 33 v0 (some v7) (some t108) none p98.2).bind fun p109 =>
(convertV E0 33 9 p109.1 p109.2).bind fun p110 =>
(binV E0 .add 9 false false v5 p110.1).bind fun t111 =>
(guardV false v6).bind fun g115 => (bif g115 then some v0 else some (.tuple [])).bind fun t115 =>
(guardV false v6).bind fun g116 => (bif g116 then some v7 else some (.tuple [])).bind fun t116 =>
(guardV false v6).bind fun g117 => (bif g117 then ixP 1 t115 t116 else some (.tuple [])).bind fun t117 =>
(guardV false v6).bind fun g118 => (bif g118 then ld1 t117 p110.2 else some (.tuple [], p110.2)).bind fun p118 =>
(guardV false v6).bind fun g119 => (bif g119 then some v1 else some (.tuple [])).bind fun t119 =>
(guardV false v6).bind fun g120 => (bif g120 then binV E0 .eql 5 false false p118.1 t119 else some (.tuple [])).bind fun t120 =>
(pickV v6 (some (.bool true)) (some t120)).bind fun t121 =>
(binV E0 .add 3 false true v7 (.int .i64 1)).bind fun t124 =>
L5_73 self N nk ek n v0 v1 t111 t121 t124 p118.2)) (
ek 0 (fr 93 [(1, v1), (5, v5), (6, v6)]) p76.2) := by kernel_rfl
noncomputable def F5 (self : EV) (N : Nat) (x0 x1 : V) (S : St) : Rs := runF E0 self N Try.f5 B5 [x0, x1] S
theorem F5_eq (self : EV) (N : Nat) (x0 x1 : V) (S : St) : F5 self N x0 x1 S =
L5_73 self N (R5_3 self N (finN E0 self Try.f5) noEx) (exB 0 (R5_3 self N (finN E0 self Try.f5) noEx) noEx) N x0 x1 (sv []) (.bool false) (.int .i64 0) S := by kernel_rfl
end
end Go.Proofs.Ytachpdpmoihjmaa.W
