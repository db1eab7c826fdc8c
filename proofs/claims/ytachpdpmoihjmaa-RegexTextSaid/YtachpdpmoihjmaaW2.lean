/-
  WHAT THE FUNCTIONS COME TO: each is read by the evaluator, printed, and told as a function of data, part 2 of 6 (no condition).
-/
import Derived.Test.YtachpdpmoihjmaaW1
import Derived.Test.YtachpdpmoihjmaaProg
import Derived.KernelRfl
namespace Go.Proofs.Ytachpdpmoihjmaa.W
open Go.Proofs.Ytachpdpmoihjmaa.Ev
set_option maxRecDepth 100000
noncomputable section
noncomputable def C14 : Code := Try.f14.body.getD .skip
noncomputable def B14 : D := (annot C14 [[], [], [], [0, 1, 6, 7, 8, 9], [], [6, 7], [], [], [0, 0, 1, 6, 7, 8, 9], [0, 1, 6, 7, 8, 9], [], [], [0, 0, 1, 6, 7, 8, 9], [0, 1, 6, 7, 8, 9], [], [6, 7], [], [], [], [0, 1, 6, 7, 9, 11, 12, 65, 66, 67], [], [0, 1, 6, 7, 9, 11, 12], [], [], [], [], [], [0, 0, 1, 6, 7, 9, 11, 12], [0, 1, 6, 7, 8, 9], [], [6, 7], [], [0, 0, 1, 6, 7, 8, 9], [0, 1, 6, 7, 8, 9], [0, 6, 7], [6, 7], []]).1
noncomputable def RL14 : List Nat := cellsOf Try.f14.results.toList
noncomputable def R14_5 (self : EV) (N : Nat) (nk : Ac → St → Rs) (ek : Nat → Ac → St → Rs) (a : Ac) (S : St) : Rs := projK [6, 7] a fun a => dr E0 self RL14 N (B14.r.r).r (mkK E0 self Try.f14 nk ek) a S
theorem R14_5_eq (self : EV) (N : Nat) (nk : Ac → St → Rs) (ek : Nat → Ac → St → Rs) ( v6 v7 : V) (S : St) : R14_5 self N nk ek (fr 116 [(6, v6), (7, v7)]) S =
(ldA 2 v6 S).bind fun p6 =>
(stP 2 v6 p6.1 p6.2).bind fun p8 =>
(ldrA 2 v6 p8.2).bind fun p10 =>
some (.ret (.tuple [p10.1, v7]), p10.2) := by kernel_rfl
noncomputable def N14_13 (self : EV) (N : Nat) (nk : Ac → St → Rs) (ek : Nat → Ac → St → Rs) (n : Nat) : Ac → St → Rs := fun a S => projK [0, 1, 6, 7, 8, 9] a fun a => loopK [0, 1, 6, 7, 8, 9] (dr E0 self RL14 N (B14.r.r.l.r.l.l)) (mkK E0 self Try.f14 nk ek) n a S
noncomputable def L14_13 (self : EV) (N : Nat) (nk : Ac → St → Rs) (ek : Nat → Ac → St → Rs) (n : Nat) ( v0 v1 v6 v7 v8 v9 : V) (S : St) : Rs := loopK [0, 1, 6, 7, 8, 9] (dr E0 self RL14 N (B14.r.r.l.r.l.l)) (mkK E0 self Try.f14 nk ek) n (fr 116 [(0, v0), (1, v1), (6, v6), (7, v7), (8, v8), (9, v9)]) S
noncomputable def R14_18 (self : EV) (N : Nat) (nk : Ac → St → Rs) (ek : Nat → Ac → St → Rs) (a : Ac) (S : St) : Rs := projK [0, 1, 6, 7, 8, 9] a fun a => dr E0 self RL14 N (B14.r.r.l.r.l.l.r).r (mkK E0 self Try.f14 nk ek) a S
theorem R14_18_eq (self : EV) (N : Nat) (nk : Ac → St → Rs) (ek : Nat → Ac → St → Rs) ( v0 v1 v6 v7 v8 v9 : V) (S : St) : R14_18 self N nk ek (fr 116 [(0, v0), (1, v1), (6, v6), (7, v7), (8, v8), (9, v9)]) S =
(binV E0 .add 3 false true v9 (.int .i64 1)).bind fun t20 =>
nk (fr 116 [(0, v0), (1, v1), (6, v6), (7, v7), (8, v8), (9, t20)]) S := by kernel_rfl
noncomputable def R14_68 (self : EV) (N : Nat) (nk : Ac → St → Rs) (ek : Nat → Ac → St → Rs) (a : Ac) (S : St) : Rs := projK [0, 1, 6, 7, 9, 11, 12] a fun a => dr E0 self RL14 N (B14.r.r.l.r.l.l.r.l.l.r.l.r.l.r.r).r (mkK E0 self Try.f14 nk ek) a S
theorem R14_68_eq (self : EV) (N : Nat) (nk : Ac → St → Rs) (ek : Nat → Ac → St → Rs) ( v0 v1 v6 v7 v9 v11 v12 : V) (S : St) : R14_68 self N nk ek (fr 116 [(0, v0), (1, v1), (6, v6), (7, v7), (9, v9), (11, v11), (12, v12)]) S =
(unV .not v12).bind fun t70 =>
ifK t70 (
ek 0 (fr 116 [(6, v6), (7, v7)]) S) (
nk (fr 116 [(0, v0), (1, v1), (6, v6), (7, v7), (8, v11), (9, v9)]) S) := by kernel_rfl
noncomputable def L14_76 (self : EV) (N : Nat) (nk : Ac → St → Rs) (ek : Nat → Ac → St → Rs) (n : Nat) ( v0 v1 v6 v7 v9 v11 v12 v65 v66 v67 : V) (S : St) : Rs := loopK [0, 1, 6, 7, 9, 11, 12, 65, 66, 67] (dr E0 self RL14 N (B14.r.r.l.r.l.l.r.l.l.r.l.r.l.r.r.l.r.l.l)) (mkK E0 self Try.f14 nk ek) n (fr 116 [(0, v0), (1, v1), (6, v6), (7, v7), (9, v9), (11, v11), (12, v12), (65, v65), (66, v66), (67, v67)]) S
theorem L14_76_eq (self : EV) (N : Nat) (nk : Ac → St → Rs) (ek : Nat → Ac → St → Rs) (n : Nat) ( v0 v1 v6 v7 v9 v11 v12 v65 v66 v67 : V) (S : St) : L14_76 self N nk ek (n + 1) v0 v1 v6 v7 v9 v11 v12 v65 v66 v67 S =
(binV E0 .lss 3 false false v67 v66).bind fun t77 =>
ifK t77 (
(ixP 1 v65 v67).bind fun t79 =>
(ld1 t79 S).bind fun p80 =>
(binV E0 .geq 3 false true p80.1 (.int .i64 0)).bind fun t84 =>
(guardV true t84).bind fun g86 => (bif g86 then some v0 else some (.tuple [])).bind fun t86 =>
(guardV true t84).bind fun g87 => (bif g87 then nilCheckV t86 else some (.tuple [])).bind fun t87 =>
(guardV true t84).bind fun g88 => (bif g88 then faP 0 false 1 t87 else some (.tuple [])).bind fun t88 =>
(guardV true t84).bind fun g89 => (bif g89 then ld1 t88 (onS p80.2) else some (.tuple [], (onS p80.2))).bind fun p89 =>
(guardV true t84).bind fun g90 => (bif g90 then some v67 else some (.tuple [])).bind fun t90 =>
(guardV true t84).bind fun g91 => (bif g91 then ixP 258 p89.1 t90 else some (.tuple [])).bind fun t91 =>
(guardV true t84).bind fun g92 => (bif g92 then faP 256 false 1 t91 else some (.tuple [])).bind fun t92 =>
(guardV true t84).bind fun g93 => (bif g93 then ld1 t92 (onS p89.2) else some (.tuple [], (onS p89.2))).bind fun p93 =>
(guardV true t84).bind fun g94 => (bif g94 then binV E0 .eql 3 false true p93.1 (.int .i64 0) else some (.tuple [])).bind fun t94 =>
(pickV t84 (some t94) (some (.bool false))).bind fun t95 =>
(guardV true t95).bind fun g97 => (bif g97 then some v0 else some (.tuple [])).bind fun t97 =>
(guardV true t95).bind fun g98 => (bif g98 then nilCheckV t97 else some (.tuple [])).bind fun t98 =>
(guardV true t95).bind fun g99 => (bif g99 then faP 0 false 1 t98 else some (.tuple [])).bind fun t99 =>
(guardV true t95).bind fun g100 => (bif g100 then ld1 t99 (onS p93.2) else some (.tuple [], (onS p93.2))).bind fun p100 =>
(guardV true t95).bind fun g101 => (bif g101 then some v67 else some (.tuple [])).bind fun t101 =>
(guardV true t95).bind fun g102 => (bif g102 then some v1 else some (.tuple [])).bind fun t102 =>
(guardV true t95).bind fun g103 => (bif g103 then some v9 else some (.tuple [])).bind fun t103 =>
(guardV true t95).bind fun g104 => (bif g104 then ixS t102 t103 else some (.tuple [])).bind fun t104 =>
(guardV true t95).bind fun g105 => (bif g105 then ixP 258 p100.1 t101 else some (.tuple [])).bind fun t105 =>
(guardV true t95).bind fun g106 => (bif g106 then faP 0 true 256 t105 else some (.tuple [])).bind fun t106 =>
(guardV true t95).bind fun g107 => (bif g107 then faP 0 true 256 t106 else some (.tuple [])).bind fun t107 =>
(guardV true t95).bind fun g108 => (bif g108 then ixA 256 1 false 1 t107 t104 else some (.tuple [])).bind fun t108 =>
(guardV true t95).bind fun g109 => (bif g109 then ld1 t108 (onS p100.2) else some (.tuple [], (onS p100.2))).bind fun p109 =>
(pickV t95 (some p109.1) (some (.bool false))).bind fun t110 =>
ifK t110 (
(binV E0 .add 3 false true v67 (.int .i64 1)).bind fun t114 =>
(binV E0 .add 3 false true v9 (.int .i64 1)).bind fun t117 =>
(lnStr v1 (relog p80.2 (onS p109.2) [[], [], [], [], [], [], p89.2.log, [], [], [], p93.2.log, [], [], [], [], [], [], p100.2.log, [], [], [], [], [], [], [], [], p109.2.log, []])).bind fun p119 =>
callP (self.f 21 [v0, v11, t114, p80.1, t117, p119.1] p119.2) fun t120 S120 =>
(binV E0 .add 3 false true v67 (.int .i64 1)).bind fun t122 =>
L14_76 self N nk ek n v0 v1 v6 v7 v9 v11 (.bool true) v65 v66 t122 S120) (
(binV E0 .add 3 false true v67 (.int .i64 1)).bind fun t124 =>
L14_76 self N nk ek n v0 v1 v6 v7 v9 v11 v12 v65 v66 t124 (relog p80.2 (onS p109.2) [[], [], [], [], [], [], p89.2.log, [], [], [], p93.2.log, [], [], [], [], [], [], p100.2.log, [], [], [], [], [], [], [], [], p109.2.log, []]))) (
ek 2 (fr 116 [(0, v0), (1, v1), (6, v6), (7, v7), (9, v9), (11, v11), (12, v12)]) S) := by kernel_rfl
noncomputable def R14_136 (self : EV) (N : Nat) (nk : Ac → St → Rs) (ek : Nat → Ac → St → Rs) (a : Ac) (S : St) : Rs := projK [0, 1, 6, 7, 9, 11, 12] a fun a => dr E0 self RL14 N (B14.r.r.l.r.l.l.r.l.l.r.l.r.l.r.r).r (mkK E0 self Try.f14 nk ek) a S
noncomputable def L14_144 (self : EV) (N : Nat) (nk : Ac → St → Rs) (ek : Nat → Ac → St → Rs) (n : Nat) ( v0 v1 v6 v7 v9 v11 v12 v65 v66 v67 : V) (S : St) : Rs := loopK [0, 1, 6, 7, 9, 11, 12, 65, 66, 67] (dr E0 self RL14 N (B14.r.r.l.r.l.l.r.l.l.r.l.r.l.r.r.l.r.l.l)) (mkK E0 self Try.f14 nk ek) n (fr 116 [(0, v0), (1, v1), (6, v6), (7, v7), (9, v9), (11, v11), (12, v12), (65, v65), (66, v66), (67, v67)]) S
noncomputable def R14_231 (self : EV) (N : Nat) (nk : Ac → St → Rs) (ek : Nat → Ac → St → Rs) (a : Ac) (S : St) : Rs := projK [0, 1, 6, 7, 9, 11, 12] a fun a => dr E0 self RL14 N (B14.r.r.l.r.l.l.r.l.l.r.l.r.l.r.r).r (mkK E0 self Try.f14 nk ek) a S
noncomputable def L14_239 (self : EV) (N : Nat) (nk : Ac → St → Rs) (ek : Nat → Ac → St → Rs) (n : Nat) ( v0 v1 v6 v7 v9 v11 v12 v65 v66 v67 : V) (S : St) : Rs := loopK [0, 1, 6, 7, 9, 11, 12, 65, 66, 67] (dr E0 self RL14 N (B14.r.r.l.r.l.l.r.l.l.r.l.r.l.r.r.l.r.l.l)) (mkK E0 self Try.f14 nk ek) n (fr 116 [(0, v0), (1, v1), (6, v6), (7, v7), (9, v9), (11, v11), (12, v12), (65, v65), (66, v66), (67, v67)]) S
noncomputable def R14_299 (self : EV) (N : Nat) (nk : Ac → St → Rs) (ek : Nat → Ac → St → Rs) (a : Ac) (S : St) : Rs := projK [0, 1, 6, 7, 9, 11, 12] a fun a => dr E0 self RL14 N (B14.r.r.l.r.l.l.r.l.l.r.l.r.l.r.r).r (mkK E0 self Try.f14 nk ek) a S
noncomputable def L14_307 (self : EV) (N : Nat) (nk : Ac → St → Rs) (ek : Nat → Ac → St → Rs) (n : Nat) ( v0 v1 v6 v7 v9 v11 v12 v65 v66 v67 : V) (S : St) : Rs := loopK [0, 1, 6, 7, 9, 11, 12, 65, 66, 67] (dr E0 self RL14 N (B14.r.r.l.r.l.l.r.l.l.r.l.r.l.r.r.l.r.l.l)) (mkK E0 self Try.f14 nk ek) n (fr 116 [(0, v0), (1, v1), (6, v6), (7, v7), (9, v9), (11, v11), (12, v12), (65, v65), (66, v66), (67, v67)]) S
theorem L14_13_eq (self : EV) (N : Nat) (nk : Ac → St → Rs) (ek : Nat → Ac → St → Rs) (n : Nat) ( v0 v1 v6 v7 v8 v9 : V) (S : St) : L14_13 self N nk ek (n + 1) v0 v1 v6 v7 v8 v9 S =
(lnStr v1 S).bind fun p16 =>
(binV E0 .leq 3 false false v9 p16.1).bind fun t17 =>
ifK t17 (
(unV .not v7).bind fun t23 =>
ifK t23 (
(lnStr v1 p16.2).bind fun p29 =>
callP (self.f 21 [v0, v8, (.int .i64 0), v9, v9, p29.1] p29.2) fun t30 S30 =>
(nilCheckV v0).bind fun t33 =>
(faP 0 false 1 t33).bind fun t34 =>
(ld1 t34 S30).bind fun p35 =>
(lnS p35.1 p35.2).bind fun p36 =>
(binV E0 .sub 3 false true p36.1 (.int .i64 1)).bind fun t37 =>
(ixP 1 v8 t37).bind fun t38 =>
(ld1 t38 p36.2).bind fun p39 =>
(binV E0 .geq 3 false true p39.1 (.int .i64 0)).bind fun t42 =>
(guardV true t42).bind fun g44 => (bif g44 then some v7 else some (.tuple [])).bind fun t44 =>
(guardV true t42).bind fun g45 => (bif g45 then unV .not t44 else some (.tuple [])).bind fun t45 =>
(guardV true t42).bind fun g46 => (bif g46 then some t45 else some (.tuple [])).bind fun t46 =>
(guardV false t46).bind fun g47 => (bif g47 then some p39.1 else some (.tuple [])).bind fun t47 =>
(guardV false t46).bind fun g48 => (bif g48 then ixA 2 1 false 1 v6 (.int .i64 0) else some (.tuple [])).bind fun t48 =>
(guardV false t46).bind fun g49 => (bif g49 then ld1 t48 p39.2 else some (.tuple [], p39.2)).bind fun p49 =>
(guardV false t46).bind fun g50 => (bif g50 then binV E0 .leq 3 false false t47 p49.1 else some (.tuple [])).bind fun t50 =>
(guardV true t42).bind fun g51 => (bif g51 then pickV t46 (some (.bool true)) (some t50) else some (.tuple [])).bind fun t51 =>
(pickV t42 (some t51) (some (.bool false))).bind fun t52 =>
ifK t52 (
(buildV E0 30 [(0, p39.1), (1, v9)]).bind fun t55 =>
(stP 2 v6 t55 p49.2).bind fun p56 =>
(lnStr v1 p56.2).bind fun p60 =>
(binV E0 .eql 3 false false v9 p60.1).bind fun t61 =>
ifK t61 (
ek 0 (fr 116 [(6, v6), (7, (.bool true))]) p60.2) (
callP (self.f 20 [v0] p60.2) fun t63 S63 =>
(unV .not (.bool true)).bind fun t65 =>
(lnS v8 S63).bind fun p74 =>
L14_76 self N (R14_68 self N (fun a s => projK [0, 1, 6, 7, 8, 9] a fun a => (fun a s => projK [0, 1, 6, 7, 8, 9] a fun a => (R14_18 self N (N14_13 self N nk ek n) ek) a s) a s) (exB 1 (R14_18 self N (N14_13 self N nk ek n) ek) ek)) (exB 2 (R14_68 self N (fun a s => projK [0, 1, 6, 7, 8, 9] a fun a => (fun a s => projK [0, 1, 6, 7, 8, 9] a fun a => (R14_18 self N (N14_13 self N nk ek n) ek) a s) a s) (exB 1 (R14_18 self N (N14_13 self N nk ek n) ek) ek)) (exB 1 (R14_18 self N (N14_13 self N nk ek n) ek) ek)) N v0 v1 v6 (.bool true) v9 t63 t65 v8 p74.1 (.int .i64 0) p74.2)) (
(lnStr v1 p49.2).bind fun p128 =>
(binV E0 .eql 3 false false v9 p128.1).bind fun t129 =>
ifK t129 (
ek 0 (fr 116 [(6, v6), (7, v7)]) p128.2) (
callP (self.f 20 [v0] p128.2) fun t131 S131 =>
(unV .not v7).bind fun t133 =>
(lnS v8 S131).bind fun p142 =>
L14_144 self N (R14_136 self N (fun a s => projK [0, 1, 6, 7, 8, 9] a fun a => (fun a s => projK [0, 1, 6, 7, 8, 9] a fun a => (R14_18 self N (N14_13 self N nk ek n) ek) a s) a s) (exB 1 (R14_18 self N (N14_13 self N nk ek n) ek) ek)) (exB 2 (R14_136 self N (fun a s => projK [0, 1, 6, 7, 8, 9] a fun a => (fun a s => projK [0, 1, 6, 7, 8, 9] a fun a => (R14_18 self N (N14_13 self N nk ek n) ek) a s) a s) (exB 1 (R14_18 self N (N14_13 self N nk ek n) ek) ek)) (exB 1 (R14_18 self N (N14_13 self N nk ek n) ek) ek)) N v0 v1 v6 v7 v9 t131 t133 v8 p142.1 (.int .i64 0) p142.2))) (
(nilCheckV v0).bind fun t196 =>
(faP 0 false 1 t196).bind fun t197 =>
(ld1 t197 p16.2).bind fun p198 =>
(lnS p198.1 p198.2).bind fun p199 =>
(binV E0 .sub 3 false true p199.1 (.int .i64 1)).bind fun t200 =>
(ixP 1 v8 t200).bind fun t201 =>
(ld1 t201 p199.2).bind fun p202 =>
(binV E0 .geq 3 false true p202.1 (.int .i64 0)).bind fun t205 =>
(guardV true t205).bind fun g207 => (bif g207 then some v7 else some (.tuple [])).bind fun t207 =>
(guardV true t205).bind fun g208 => (bif g208 then unV .not t207 else some (.tuple [])).bind fun t208 =>
(guardV true t205).bind fun g209 => (bif g209 then some t208 else some (.tuple [])).bind fun t209 =>
(guardV false t209).bind fun g210 => (bif g210 then some p202.1 else some (.tuple [])).bind fun t210 =>
(guardV false t209).bind fun g211 => (bif g211 then ixA 2 1 false 1 v6 (.int .i64 0) else some (.tuple [])).bind fun t211 =>
(guardV false t209).bind fun g212 => (bif g212 then ld1 t211 p202.2 else some (.tuple [], p202.2)).bind fun p212 =>
(guardV false t209).bind fun g213 => (bif g213 then binV E0 .leq 3 false false t210 p212.1 else some (.tuple [])).bind fun t213 =>
(guardV true t205).bind fun g214 => (bif g214 then pickV t209 (some (.bool true)) (some t213) else some (.tuple [])).bind fun t214 =>
(pickV t205 (some t214) (some (.bool false))).bind fun t215 =>
ifK t215 (
(buildV E0 30 [(0, p202.1), (1, v9)]).bind fun t218 =>
(stP 2 v6 t218 p212.2).bind fun p219 =>
(lnStr v1 p219.2).bind fun p223 =>
(binV E0 .eql 3 false false v9 p223.1).bind fun t224 =>
ifK t224 (
ek 0 (fr 116 [(6, v6), (7, (.bool true))]) p223.2) (
callP (self.f 20 [v0] p223.2) fun t226 S226 =>
(unV .not (.bool true)).bind fun t228 =>
(lnS v8 S226).bind fun p237 =>
L14_239 self N (R14_231 self N (fun a s => projK [0, 1, 6, 7, 8, 9] a fun a => (fun a s => projK [0, 1, 6, 7, 8, 9] a fun a => (R14_18 self N (N14_13 self N nk ek n) ek) a s) a s) (exB 1 (R14_18 self N (N14_13 self N nk ek n) ek) ek)) (exB 2 (R14_231 self N (fun a s => projK [0, 1, 6, 7, 8, 9] a fun a => (fun a s => projK [0, 1, 6, 7, 8, 9] a fun a => (R14_18 self N (N14_13 self N nk ek n) ek) a s) a s) (exB 1 (R14_18 self N (N14_13 self N nk ek n) ek) ek)) (exB 1 (R14_18 self N (N14_13 self N nk ek n) ek) ek)) N v0 v1 v6 (.bool true) v9 t226 t228 v8 p237.1 (.int .i64 0) p237.2)) (
(lnStr v1 p212.2).bind fun p291 =>
(binV E0 .eql 3 false false v9 p291.1).bind fun t292 =>
ifK t292 (
ek 0 (fr 116 [(6, v6), (7, v7)]) p291.2) (
callP (self.f 20 [v0] p291.2) fun t294 S294 =>
(unV .not v7).bind fun t296 =>
(lnS v8 S294).bind fun p305 =>
L14_307 self N (R14_299 self N (fun a s => projK [0, 1, 6, 7, 8, 9] a fun a => (fun a s => projK [0, 1, 6, 7, 8, 9] a fun a => (R14_18 self N (N14_13 self N nk ek n) ek) a s) a s) (exB 1 (R14_18 self N (N14_13 self N nk ek n) ek) ek)) (exB 2 (R14_299 self N (fun a s => projK [0, 1, 6, 7, 8, 9] a fun a => (fun a s => projK [0, 1, 6, 7, 8, 9] a fun a => (R14_18 self N (N14_13 self N nk ek n) ek) a s) a s) (exB 1 (R14_18 self N (N14_13 self N nk ek n) ek) ek)) (exB 1 (R14_18 self N (N14_13 self N nk ek n) ek) ek)) N v0 v1 v6 v7 v9 t294 t296 v8 p305.1 (.int .i64 0) p305.2)))) (
ek 0 (fr 116 [(6, v6), (7, v7)]) p16.2) := by kernel_rfl
theorem N14_13_eq (self : EV) (N : Nat) (nk : Ac → St → Rs) (ek : Nat → Ac → St → Rs) (n : Nat) ( v0 v1 v6 v7 v8 v9 : V) (S : St) : N14_13 self N nk ek n (fr 116 [(0, v0), (1, v1), (6, v6), (7, v7), (8, v8), (9, v9)]) S = L14_13 self N nk ek n v0 v1 v6 v7 v8 v9 S := by kernel_rfl
noncomputable def F14 (self : EV) (N : Nat) (x0 x1 x2 : V) (S : St) : Rs := runF E0 self N Try.f14 B14 [x0, x1, x2] S
theorem F14_eq (self : EV) (N : Nat) (x0 x1 x2 : V) (S : St) : F14 self N x0 x1 x2 S =
(some (nwP 30 2 (Tr.ofListFrom .nil [(.int .i64 0), (.int .i64 0)] 0) S)).bind fun p0 =>
callP (self.f 20 [x0] p0.2) fun t3 S3 =>
L14_13 self N (R14_5 self N (finN E0 self Try.f14) noEx) (exB 0 (R14_5 self N (finN E0 self Try.f14) noEx) noEx) N x0 x1 p0.1 (.bool false) t3 x2 S3 := by kernel_rfl
end
end Go.Proofs.Ytachpdpmoihjmaa.W
namespace Go.Proofs.Ytachpdpmoihjmaa.W
open Go.Proofs.Ytachpdpmoihjmaa.Ev
set_option maxRecDepth 100000
noncomputable section
noncomputable def C29 : Code := Try.f29.body.getD .skip
noncomputable def B29 : D := (annot C29 [[], [], [], [], [], [], [], [], [6, 66, 67, 68], [], [], [], [], [], [], [], [0], [8], []]).1
noncomputable def RL29 : List Nat := cellsOf Try.f29.results.toList
noncomputable def R29_54 (self : EV) (N : Nat) (nk : Ac → St → Rs) (ek : Nat → Ac → St → Rs) (a : Ac) (S : St) : Rs := projK [] a fun a => dr E0 self RL29 N (B29.r.r).r (mkK E0 self Try.f29 nk ek) a S
noncomputable def L29_64 (self : EV) (N : Nat) (nk : Ac → St → Rs) (ek : Nat → Ac → St → Rs) (n : Nat) ( v6 v66 v67 v68 : V) (S : St) : Rs := loopK [6, 66, 67, 68] (dr E0 self RL29 N (B29.r.r.l.r.l.l)) (mkK E0 self Try.f29 nk ek) n (fr 77 [(6, v6), (66, v66), (67, v67), (68, v68)]) S
noncomputable def F29 (self : EV) (N : Nat) (x0 x1 x2 x3 x4 x5 x6 : V) (S : St) : Rs := runF E0 self N Try.f29 B29 [x0, x1, x2, x3, x4, x5, x6] S
theorem F29_eq (self : EV) (N : Nat) (x0 x1 x2 x3 x4 x5 x6 : V) (S : St) : F29 self N x0 x1 x2 x3 x4 x5 x6 S =
(ld1 x1 S).bind fun p1 =>
(nilCheckV p1.1).bind fun t2 =>
(faP 0 false 1 t2).bind fun t3 =>
(ld1 t3 p1.2).bind fun p4 =>
(ixP 258 p4.1 x0).bind fun t6 =>
(faP 256 false 1 t6).bind fun t7 =>
(ld1 t7 p4.2).bind fun p8 =>
(binV E0 .eql 3 false true p8.1 (.int .i64 0)).bind fun t11 =>
ifK t11 (
(ld1 x2 (onS p8.2)).bind fun p12 =>
(ixA 2 1 false 1 x3 (.int .i64 1)).bind fun t13 =>
(ld1 t13 (onS p12.2)).bind fun p14 =>
(binV E0 .lss 3 false false p12.1 p14.1).bind fun t15 =>
(guardV true t15).bind fun g17 => (bif g17 then ld1 x1 (onS p14.2) else some (.tuple [], (onS p14.2))).bind fun p17 =>
(guardV true t15).bind fun g18 => (bif g18 then nilCheckV p17.1 else some (.tuple [])).bind fun t18 =>
(guardV true t15).bind fun g19 => (bif g19 then faP 0 false 1 t18 else some (.tuple [])).bind fun t19 =>
(guardV true t15).bind fun g20 => (bif g20 then ld1 t19 (onS p17.2) else some (.tuple [], (onS p17.2))).bind fun p20 =>
(guardV true t15).bind fun g21 => (bif g21 then some x0 else some (.tuple [])).bind fun t21 =>
(guardV true t15).bind fun g22 => (bif g22 then ld1 x4 (onS p20.2) else some (.tuple [], (onS p20.2))).bind fun p22 =>
(guardV true t15).bind fun g23 => (bif g23 then ld1 x2 (onS p22.2) else some (.tuple [], (onS p22.2))).bind fun p23 =>
(guardV true t15).bind fun g24 => (bif g24 then ixS p22.1 p23.1 else some (.tuple [])).bind fun t24 =>
(guardV true t15).bind fun g25 => (bif g25 then ixP 258 p20.1 t21 else some (.tuple [])).bind fun t25 =>
(guardV true t15).bind fun g26 => (bif g26 then faP 0 true 256 t25 else some (.tuple [])).bind fun t26 =>
(guardV true t15).bind fun g27 => (bif g27 then faP 0 true 256 t26 else some (.tuple [])).bind fun t27 =>
(guardV true t15).bind fun g28 => (bif g28 then ixA 256 1 false 1 t27 t24 else some (.tuple [])).bind fun t28 =>
(guardV true t15).bind fun g29 => (bif g29 then ld1 t28 (onS p23.2) else some (.tuple [], (onS p23.2))).bind fun p29 =>
(pickV t15 (some p29.1) (some (.bool false))).bind fun t30 =>
(guardV true t30).bind fun g32 => (bif g32 then ld1 x5 (onS p29.2) else some (.tuple [], (onS p29.2))).bind fun p32 =>
(guardV true t30).bind fun g33 => (bif g33 then ld1 x2 (onS p32.2) else some (.tuple [], (onS p32.2))).bind fun p33 =>
(guardV true t30).bind fun g34 => (bif g34 then binV E0 .add 3 false true p33.1 (.int .i64 1) else some (.tuple [])).bind fun t34 =>
(guardV true t30).bind fun g35 => (bif g35 then ixA 2 1 false 1 x3 (.int .i64 0) else some (.tuple [])).bind fun t35 =>
(guardV true t30).bind fun g36 => (bif g36 then ld1 t35 (onS p33.2) else some (.tuple [], (onS p33.2))).bind fun p36 =>
(guardV true t30).bind fun g37 => (bif g37 then binV E0 .sub 3 false false t34 p36.1 else some (.tuple [])).bind fun t37 =>
(guardV true t30).bind fun g38 => (bif g38 then ixP 1 p32.1 t37 else some (.tuple [])).bind fun t38 =>
(guardV true t30).bind fun g39 => (bif g39 then ld1 t38 (onS p36.2) else some (.tuple [], (onS p36.2))).bind fun p39 =>
(guardV true t30).bind fun g40 => (bif g40 then some x0 else some (.tuple [])).bind fun t40 =>
(guardV true t30).bind fun g41 => (bif g41 then binV E0 .add 3 false true t40 (.int .i64 1) else some (.tuple [])).bind fun t41 =>
(guardV true t30).bind fun g42 => (bif g42 then ixP 1 p39.1 t41 else some (.tuple [])).bind fun t42 =>
(guardV true t30).bind fun g43 => (bif g43 then ld1 t42 (onS p39.2) else some (.tuple [], (onS p39.2))).bind fun p43 =>
(pickV t30 (some p43.1) (some (.bool false))).bind fun t44 =>
endP [(0, [2]), (5, [10, 11]), (8, [10, 11]), (10, [11]), (20, [21, 24]), (21, [24])] p8.2 [p12.2.log, [], p14.2.log, [], [], p17.2.log, [], [], p20.2.log, [], p22.2.log, p23.2.log, [], [], [], [], [], p29.2.log, [], [], p32.2.log, p33.2.log, [], [], p36.2.log, [], [], p39.2.log, [], [], [], p43.2.log, [], []] (onS p43.2) fun S46 =>
some (.ret t44, S46)) (
(binV E0 .eql 3 false true p8.1 (.int .i64 6)).bind fun t48 =>
ifK t48 (
(ld1 x2 p8.2).bind fun p49 =>
(ixA 2 1 false 1 x3 (.int .i64 1)).bind fun t50 =>
(ld1 t50 p49.2).bind fun p51 =>
(binV E0 .eql 3 false false p49.1 p51.1).bind fun t52 =>
some (.ret t52, p51.2)) (
(ld1 x1 p8.2).bind fun p56 =>
(ld1 x2 p56.2).bind fun p58 =>
(ld1 x4 p58.2).bind fun p59 =>
(lnStr p59.1 p59.2).bind fun p60 =>
callP (self.f 28 [p56.1, x0, p58.1, p60.1] p60.2) fun t61 S61 =>
(lnS t61 S61).bind fun p62 =>
L29_64 self N (R29_54 self N (finN E0 self Try.f29) noEx) (exB 0 (R29_54 self N (finN E0 self Try.f29) noEx) noEx) N x6 t61 p62.1 (.int .i64 0) p62.2)) := by kernel_rfl
noncomputable def C22 : Code := Try.f22.body.getD .skip
noncomputable def B22 : D := (annot C22 [[], [], [], [3, 4, 5, 7, 8], [], [7], [], [], [], [], [], [3, 4, 5, 7, 8, 9, 10, 41], [], [3, 4, 5, 7, 8], [], [], [3, 4, 5, 7, 8, 9, 10, 11, 41], [], [3, 4, 5, 7, 8, 9, 10, 41], [], [], [0, 3, 4, 5, 7, 8, 9, 10, 41], [3, 4, 5, 7, 8, 9, 10, 41], [0, 3, 4, 5, 7, 8], [3, 4, 5, 7, 8], [], [], [0, 7], [6], []]).1
noncomputable def RL22 : List Nat := cellsOf Try.f22.results.toList
noncomputable def R22_13 (self : EV) (N : Nat) (nk : Ac → St → Rs) (ek : Nat → Ac → St → Rs) (a : Ac) (S : St) : Rs := projK [7] a fun a => dr E0 self RL22 N (B22.r.r).r (mkK E0 self Try.f22 nk ek) a S
theorem R22_13_eq (self : EV) (N : Nat) (nk : Ac → St → Rs) (ek : Nat → Ac → St → Rs) ( v7 : V) (S : St) : R22_13 self N nk ek (fr 68 [(7, v7)]) S =
(ld1 v7 S).bind fun p14 =>
some (.ret p14.1, p14.2) := by kernel_rfl
noncomputable def N22_20 (self : EV) (N : Nat) (nk : Ac → St → Rs) (ek : Nat → Ac → St → Rs) (n : Nat) : Ac → St → Rs := fun a S => projK [3, 4, 5, 7, 8] a fun a => loopK [3, 4, 5, 7, 8] (dr E0 self RL22 N (B22.r.r.l.r.l.l)) (mkK E0 self Try.f22 nk ek) n a S
noncomputable def L22_20 (self : EV) (N : Nat) (nk : Ac → St → Rs) (ek : Nat → Ac → St → Rs) (n : Nat) ( v3 v4 v5 v7 v8 : V) (S : St) : Rs := loopK [3, 4, 5, 7, 8] (dr E0 self RL22 N (B22.r.r.l.r.l.l)) (mkK E0 self Try.f22 nk ek) n (fr 68 [(3, v3), (4, v4), (5, v5), (7, v7), (8, v8)]) S
noncomputable def R22_25 (self : EV) (N : Nat) (nk : Ac → St → Rs) (ek : Nat → Ac → St → Rs) (a : Ac) (S : St) : Rs := projK [3, 4, 5, 7, 8] a fun a => dr E0 self RL22 N (B22.r.r.l.r.l.l.r).r (mkK E0 self Try.f22 nk ek) a S
theorem R22_25_eq (self : EV) (N : Nat) (nk : Ac → St → Rs) (ek : Nat → Ac → St → Rs) ( v3 v4 v5 v7 v8 : V) (S : St) : R22_25 self N nk ek (fr 68 [(3, v3), (4, v4), (5, v5), (7, v7), (8, v8)]) S =
(ld1 v8 S).bind fun p26 =>
(some (nwP 3 1 (one (.int .i64 0)) p26.2)).bind fun p27 =>
(stP 1 p27.1 p26.1 p27.2).bind fun p28 =>
(ld1 p27.1 p28.2).bind fun p29 =>
(binV E0 .sub 3 false true p29.1 (.int .i64 1)).bind fun t30 =>
(stP 1 p27.1 t30 p29.2).bind fun p31 =>
nk (fr 68 [(3, v3), (4, v4), (5, v5), (7, v7), (8, p27.1)]) p31.2 := by kernel_rfl
noncomputable def N22_51 (self : EV) (N : Nat) (nk : Ac → St → Rs) (ek : Nat → Ac → St → Rs) (n : Nat) : Ac → St → Rs := fun a S => projK [3, 4, 5, 7, 8, 9, 10, 41] a fun a => loopK [3, 4, 5, 7, 8, 9, 10, 41] (dr E0 self RL22 N (B22.r.r.l.r.l.l.r.l.l.r.r.r.r.l.l)) (mkK E0 self Try.f22 nk ek) n a S
noncomputable def L22_51 (self : EV) (N : Nat) (nk : Ac → St → Rs) (ek : Nat → Ac → St → Rs) (n : Nat) ( v3 v4 v5 v7 v8 v9 v10 v41 : V) (S : St) : Rs := loopK [3, 4, 5, 7, 8, 9, 10, 41] (dr E0 self RL22 N (B22.r.r.l.r.l.l.r.l.l.r.r.r.r.l.l)) (mkK E0 self Try.f22 nk ek) n (fr 68 [(3, v3), (4, v4), (5, v5), (7, v7), (8, v8), (9, v9), (10, v10), (41, v41)]) S
noncomputable def R22_53 (self : EV) (N : Nat) (nk : Ac → St → Rs) (ek : Nat → Ac → St → Rs) (a : Ac) (S : St) : Rs := projK [3, 4, 5, 7, 8, 9, 10, 41] a fun a => dr E0 self RL22 N (B22.r.r.l.r.l.l.r.l.l.r.r.r.r.l.l.r.r).r (mkK E0 self Try.f22 nk ek) a S
theorem R22_53_eq (self : EV) (N : Nat) (nk : Ac → St → Rs) (ek : Nat → Ac → St → Rs) ( v3 v4 v5 v7 v8 v9 v10 v41 : V) (S : St) : R22_53 self N nk ek (fr 68 [(3, v3), (4, v4), (5, v5), (7, v7), (8, v8), (9, v9), (10, v10), (41, v41)]) S =
(binV E0 .add 3 false true v41 (.int .i64 1)).bind fun t54 =>
nk (fr 68 [(3, v3), (4, v4), (5, v5), (7, v7), (8, v8), (9, v9), (10, v10), (41, t54)]) S := by kernel_rfl
noncomputable def L22_63 (self : EV) (N : Nat) (nk : Ac → St → Rs) (ek : Nat → Ac → St → Rs) (n : Nat) ( v3 v4 v5 v7 v8 v9 v10 v11 v41 : V) (S : St) : Rs := loopK [3, 4, 5, 7, 8, 9, 10, 11, 41] (dr E0 self RL22 N (B22.r.r.l.r.l.l.r.l.l.r.r.r.r.l.l.r.r.l.l.r.l.l)) (mkK E0 self Try.f22 nk ek) n (fr 68 [(3, v3), (4, v4), (5, v5), (7, v7), (8, v8), (9, v9), (10, v10), (11, v11), (41, v41)]) S
theorem L22_63_eq (self : EV) (N : Nat) (nk : Ac → St → Rs) (ek : Nat → Ac → St → Rs) (n : Nat) ( v3 v4 v5 v7 v8 v9 v10 v11 v41 : V) (S : St) : L22_63 self N nk ek (n + 1) v3 v4 v5 v7 v8 v9 v10 v11 v41 S =
(binV E0 .geq 3 false true v11 (.int .i64 0)).bind fun t65 =>
ifK t65 (
(ld1 v9 (onS S)).bind fun p66 =>
(ld1 v9 (onS p66.2)).bind fun p68 =>
(ixP 1 p68.1 v11).bind fun t70 =>
(ld1 t70 (onS p68.2)).bind fun p71 =>
(guardV false p71.1).bind fun g73 => (bif g73 then some v10 else some (.tuple [])).bind fun t73 =>
(guardV false p71.1).bind fun g74 => (bif g74 then some v11 else some (.tuple [])).bind fun t74 =>
(guardV false p71.1).bind fun g75 => callD (planOf E0 (B22.r.r.l.r.l.l.r.l.l.r.r.r.r.l.l.r.r.l.l.r.l.l.r.l.l).ops) S 9 [p66.2.log, [], p68.2.log, [], [], p71.2.log, [], [], []] (bif g75 then callK E0 self t73 [t74] (onS p71.2) else some (.ret (.tuple []), (onS p71.2))) fun t75 S75 =>
(pickV p71.1 (some (.bool true)) (some t75)).bind fun t76 =>
(ixP 1 p66.1 v11).bind fun t77 =>
(stP 1 t77 t76 (onS S75)).bind fun p78 =>
endP [(0, [2, 5, 9])] S [p66.2.log, [], p68.2.log, [], [], p71.2.log, [], [], [], S75.log, [], [], p78.2.log] p78.2 fun S79 =>
(binV E0 .sub 3 false true v11 (.int .i64 1)).bind fun t81 =>
L22_63 self N nk ek n v3 v4 v5 v7 v8 v9 v10 t81 v41 S79) (
ek 4 (fr 68 [(3, v3), (4, v4), (5, v5), (7, v7), (8, v8), (9, v9), (10, v10), (41, v41)]) S) := by kernel_rfl
theorem L22_51_eq (self : EV) (N : Nat) (nk : Ac → St → Rs) (ek : Nat → Ac → St → Rs) (n : Nat) ( v3 v4 v5 v7 v8 v9 v10 v41 : V) (S : St) : L22_51 self N nk ek (n + 1) v3 v4 v5 v7 v8 v9 v10 v41 S =
(binV E0 .lss 3 false true v41 (.int .i64 11)).bind fun t52 =>
ifK t52 (
(ld1 v3 S).bind fun p56 =>
(nilCheckV p56.1).bind fun t57 =>
(faP 0 false 1 t57).bind fun t58 =>
(ld1 t58 p56.2).bind fun p59 =>
(lnS p59.1 p59.2).bind fun p60 =>
(binV E0 .sub 3 false true p60.1 (.int .i64 1)).bind fun t61 =>
L22_63 self N (R22_53 self N (N22_51 self N nk ek n) ek) (exB 4 (R22_53 self N (N22_51 self N nk ek n) ek) (exB 3 (R22_53 self N (N22_51 self N nk ek n) ek) ek)) N v3 v4 v5 v7 v8 v9 v10 t61 v41 p60.2) (
ek 2 (fr 68 [(3, v3), (4, v4), (5, v5), (7, v7), (8, v8)]) S) := by kernel_rfl
theorem N22_51_eq (self : EV) (N : Nat) (nk : Ac → St → Rs) (ek : Nat → Ac → St → Rs) (n : Nat) ( v3 v4 v5 v7 v8 v9 v10 v41 : V) (S : St) : N22_51 self N nk ek n (fr 68 [(3, v3), (4, v4), (5, v5), (7, v7), (8, v8), (9, v9), (10, v10), (41, v41)]) S = L22_51 self N nk ek n v3 v4 v5 v7 v8 v9 v10 v41 S := by kernel_rfl
theorem L22_20_eq (self : EV) (N : Nat) (nk : Ac → St → Rs) (ek : Nat → Ac → St → Rs) (n : Nat) ( v3 v4 v5 v7 v8 : V) (S : St) : L22_20 self N nk ek (n + 1) v3 v4 v5 v7 v8 S =
(ld1 v8 S).bind fun p21 =>
(ixA 2 1 false 1 v5 (.int .i64 0)).bind fun t22 =>
(ld1 t22 p21.2).bind fun p23 =>
(binV E0 .geq 3 false false p21.1 p23.1).bind fun t24 =>
ifK t24 (
(ld1 v3 p23.2).bind fun p32 =>
(nilCheckV p32.1).bind fun t33 =>
(faP 0 false 1 t33).bind fun t34 =>
(ld1 t34 p32.2).bind fun p35 =>
(lnS p35.1 p35.2).bind fun p36 =>
(makeSliceK E0 65 p36.1 p36.1 p36.2).bind fun p37 =>
(some (nwP 65 1 (one .nilslice) p37.2)).bind fun p38 =>
(stP 1 p38.1 p37.1 p38.2).bind fun p39 =>
(ld1 v7 p39.2).bind fun p40 =>
(ld1 v8 p40.2).bind fun p41 =>
(ixA 2 1 false 1 v5 (.int .i64 0)).bind fun t42 =>
(ld1 t42 p41.2).bind fun p43 =>
(binV E0 .sub 3 false false p41.1 p43.1).bind fun t44 =>
(ld1 p38.1 p43.2).bind fun p45 =>
(ixP 1 p40.1 t44).bind fun t46 =>
(stP 1 t46 p45.1 p45.2).bind fun p47 =>
L22_51 self N (R22_25 self N (N22_20 self N nk ek n) ek) (exB 2 (R22_25 self N (N22_20 self N nk ek n) ek) (exB 1 (R22_25 self N (N22_20 self N nk ek n) ek) ek)) N v3 v4 v5 v7 v8 p38.1 (.fn (.func 29) [] [v3, v8, v5, v4, v7, p38.1]) (.int .i64 0) p47.2) (
ek 0 (fr 68 [(7, v7)]) p23.2) := by kernel_rfl
theorem N22_20_eq (self : EV) (N : Nat) (nk : Ac → St → Rs) (ek : Nat → Ac → St → Rs) (n : Nat) ( v3 v4 v5 v7 v8 : V) (S : St) : N22_20 self N nk ek n (fr 68 [(3, v3), (4, v4), (5, v5), (7, v7), (8, v8)]) S = L22_20 self N nk ek n v3 v4 v5 v7 v8 S := by kernel_rfl
noncomputable def F22 (self : EV) (N : Nat) (x0 x1 x2 : V) (S : St) : Rs := runF E0 self N Try.f22 B22 [x0, x1, x2] S
theorem F22_eq (self : EV) (N : Nat) (x0 x1 x2 : V) (S : St) : F22 self N x0 x1 x2 S =
(boxK 22 x0 S).bind fun p0 =>
(boxK 9 x1 p0.2).bind fun p1 =>
(boxK 30 x2 p1.2).bind fun p2 =>
(ixA 2 1 false 1 p2.1 (.int .i64 1)).bind fun t4 =>
(ld1 t4 p2.2).bind fun p5 =>
(ixA 2 1 false 1 p2.1 (.int .i64 0)).bind fun t6 =>
(ld1 t6 p5.2).bind fun p7 =>
(binV E0 .sub 3 false false p5.1 p7.1).bind fun t8 =>
(binV E0 .add 3 false true t8 (.int .i64 1)).bind fun t9 =>
(makeSliceK E0 63 t9 t9 p7.2).bind fun p10 =>
(some (nwP 63 1 (one .nilslice) p10.2)).bind fun p11 =>
(stP 1 p11.1 p10.1 p11.2).bind fun p12 =>
(ixA 2 1 false 1 p2.1 (.int .i64 1)).bind fun t16 =>
(ld1 t16 p12.2).bind fun p17 =>
(some (nwP 3 1 (one (.int .i64 0)) p17.2)).bind fun p18 =>
(stP 1 p18.1 p17.1 p18.2).bind fun p19 =>
L22_20 self N (R22_13 self N (finN E0 self Try.f22) noEx) (exB 0 (R22_13 self N (finN E0 self Try.f22) noEx) noEx) N p0.1 p1.1 p2.1 p11.1 p18.1 p19.2 := by kernel_rfl
noncomputable def C15 : Code := Try.f15.body.getD .skip
noncomputable def B15 : D := (annot C15 [[], [], [], [0, 1, 5, 7, 20, 21], [], [0, 1, 5, 7], [], [], [], [0, 0, 1, 5, 7], [6], [], [], [], [0, 5, 7, 9, 10, 11], [], [7], [], [], [], [], [], [], [], [], [], [], [], [0, 7], [6], []]).1
noncomputable def RL15 : List Nat := cellsOf Try.f15.results.toList
noncomputable def R15_9 (self : EV) (N : Nat) (nk : Ac → St → Rs) (ek : Nat → Ac → St → Rs) (a : Ac) (S : St) : Rs := projK [0, 1, 5, 7] a fun a => dr E0 self RL15 N (B15.r.r).r (mkK E0 self Try.f15 nk ek) a S
noncomputable def R15_23 (self : EV) (N : Nat) (nk : Ac → St → Rs) (ek : Nat → Ac → St → Rs) (a : Ac) (S : St) : Rs := projK [7] a fun a => dr E0 self RL15 N (B15.r.r.r.l.r.r.r).r (mkK E0 self Try.f15 nk ek) a S
theorem R15_23_eq (self : EV) (N : Nat) (nk : Ac → St → Rs) (ek : Nat → Ac → St → Rs) ( v7 : V) (S : St) : R15_23 self N nk ek (fr 100 [(7, v7)]) S =
some (.ret v7, S) := by kernel_rfl
noncomputable def L15_26 (self : EV) (N : Nat) (nk : Ac → St → Rs) (ek : Nat → Ac → St → Rs) (n : Nat) ( v0 v5 v7 v9 v10 v11 : V) (S : St) : Rs := loopK [0, 5, 7, 9, 10, 11] (dr E0 self RL15 N (B15.r.r.r.l.r.r.r.l.l.l)) (mkK E0 self Try.f15 nk ek) n (fr 100 [(0, v0), (5, v5), (7, v7), (9, v9), (10, v10), (11, v11)]) S
theorem L15_26_eq (self : EV) (N : Nat) (nk : Ac → St → Rs) (ek : Nat → Ac → St → Rs) (n : Nat) ( v0 v5 v7 v9 v10 v11 : V) (S : St) : L15_26 self N nk ek (n + 1) v0 v5 v7 v9 v10 v11 S =
(nilCheckV v0).bind fun t28 =>
(faP 0 false 1 t28).bind fun t29 =>
(ld1 t29 S).bind fun p30 =>
(ixP 258 p30.1 v10).bind fun t32 =>
(faP 256 false 1 t32).bind fun t33 =>
(ld1 t33 p30.2).bind fun p34 =>
(binV E0 .neq 3 false true p34.1 (.int .i64 6)).bind fun t35 =>
ifK t35 (
(nilCheckV v0).bind fun t37 =>
(faP 0 false 1 t37).bind fun t38 =>
(ld1 t38 p34.2).bind fun p39 =>
(ixP 258 p39.1 v10).bind fun t41 =>
(ldA 258 t41 p39.2).bind fun p42 =>
(some (nwP 50 258 (Tr.ofListFrom .nil [(.bool false), (.bool false), (.bool false), (.bool false), (.bool false), (.bool false), (.bool false), (.bool false), (.bool false), (.bool false), (.bool false), (.bool false), (.bool false), (.bool false), (.bool false), (.bool false), (.bool false), (.bool false), (.bool false), (.bool false), (.bool false), (.bool false), (.bool false), (.bool false), (.bool false), (.bool false), (.bool false), (.bool false), (.bool false), (.bool false), (.bool false), (.bool false), (.bool false), (.bool false), (.bool false), (.bool false), (.bool false), (.bool false), (.bool false), (.bool false), (.bool false), (.bool false), (.bool false), (.bool false), (.bool false), (.bool false), (.bool false), (.bool false), (.bool false), (.bool false), (.bool false), (.bool false), (.bool false), (.bool false), (.bool false), (.bool false), (.bool false), (.bool false), (.bool false), (.bool false), (.bool false), (.bool false), (.bool false), (.bool false), (.bool false), (.bool false), (.bool false), (.bool false), (.bool false), (.bool false), (.bool false), (.bool false), (.bool false), (.bool false), (.bool false), (.bool false), (.bool false), (.bool false), (.bool false), (.bool false), (.bool false), (.bool false), (.bool false), (.bool false), (.bool false), (.bool false), (.bool false), (.bool false), (.bool false), (.bool false), (.bool false), (.bool false), (.bool false), (.bool false), (.bool false), (.bool false), (.bool false), (.bool false), (.bool false), (.bool false), (.bool false), (.bool false), (.bool false), (.bool false), (.bool false), (.bool false), (.bool false), (.bool false), (.bool false), (.bool false), (.bool false), (.bool false), (.bool false), (.bool false), (.bool false), (.bool false), (.bool false), (.bool false), (.bool false), (.bool false), (.bool false), (.bool false), (.bool false), (.bool false), (.bool false), (.bool false), (.bool false), (.bool false), (.bool false), (.bool false), (.bool false), (.bool false), (.bool false), (.bool false), (.bool false), (.bool false), (.bool false), (.bool false), (.bool false), (.bool false), (.bool false), (.bool false), (.bool false), (.bool false), (.bool false), (.bool false), (.bool false), (.bool false), (.bool false), (.bool false), (.bool false), (.bool false), (.bool false), (.bool false), (.bool false), (.bool false), (.bool false), (.bool false), (.bool false), (.bool false), (.bool false), (.bool false), (.bool false), (.bool false), (.bool false), (.bool false), (.bool false), (.bool false), (.bool false), (.bool false), (.bool false), (.bool false), (.bool false), (.bool false), (.bool false), (.bool false), (.bool false), (.bool false), (.bool false), (.bool false), (.bool false), (.bool false), (.bool false), (.bool false), (.bool false), (.bool false), (.bool false), (.bool false), (.bool false), (.bool false), (.bool false), (.bool false), (.bool false), (.bool false), (.bool false), (.bool false), (.bool false), (.bool false), (.bool false), (.bool false), (.bool false), (.bool false), (.bool false), (.bool false), (.bool false), (.bool false), (.bool false), (.bool false), (.bool false), (.bool false), (.bool false), (.bool false), (.bool false), (.bool false), (.bool false), (.bool false), (.bool false), (.bool false), (.bool false), (.bool false), (.bool false), (.bool false), (.bool false), (.bool false), (.bool false), (.bool false), (.bool false), (.bool false), (.bool false), (.bool false), (.bool false), (.bool false), (.bool false), (.bool false), (.bool false), (.bool false), (.bool false), (.bool false), (.bool false), (.bool false), (.bool false), (.bool false), (.bool false), (.bool false), (.bool false), (.bool false), (.bool false), (.bool false), (.bool false), (.bool false), (.bool false), (.bool false), (.bool false), (.bool false), (.bool false), (.bool false), (.int .i64 0), (.int .i64 0)] 0) p42.2)).bind fun p43 =>
(stP 258 p43.1 p42.1 p43.2).bind fun p44 =>
(faP 256 false 1 p43.1).bind fun t45 =>
(ld1 t45 p44.2).bind fun p46 =>
(binV E0 .eql 3 false true p46.1 (.int .i64 0)).bind fun t47 =>
ifK t47 (
(binV E0 .add 3 false true v11 (.int .i64 1)).bind fun t50 =>
(binV E0 .add 3 false true v10 (.int .i64 1)).bind fun t53 =>
L15_26 self N nk ek n v0 v5 v7 v9 t53 t50 p46.2) (
(binV E0 .eql 3 false true p46.1 (.int .i64 5)).bind fun t55 =>
ifK t55 (
(faP 257 false 1 p43.1).bind fun t58 =>
(ld1 t58 (onS p46.2)).bind fun p59 =>
(binV E0 .quo 3 false true p59.1 (.int .i64 2)).bind fun t60 =>
(faP 257 false 1 p43.1).bind fun t61 =>
(ld1 t61 (onS p59.2)).bind fun p62 =>
(binV E0 .rem 3 false true p62.1 (.int .i64 2)).bind fun t63 =>
(ixP 2 v7 t60).bind fun t65 =>
(ixA 2 1 false 1 t65 t63).bind fun t66 =>
(stP 1 t66 v11 (onS p62.2)).bind fun p67 =>
endP [(2, [5])] p46.2 [[], [], p59.2.log, [], [], p62.2.log, [], [], [], [], p67.2.log] p67.2 fun S68 =>
(binV E0 .add 3 false true v10 (.int .i64 1)).bind fun t70 =>
L15_26 self N nk ek n v0 v5 v7 v9 t70 v11 S68) (
(binV E0 .eql 3 false true p46.1 (.int .i64 3)).bind fun t72 =>
ifK t72 (
(binV E0 .add 3 false true v10 (.int .i64 1)).bind fun t75 =>
(ixA 2 1 false 1 v5 (.int .i64 0)).bind fun t79 =>
(ld1 t79 p46.2).bind fun p80 =>
(binV E0 .sub 3 false false v11 p80.1).bind fun t81 =>
(ixP 1 v9 t81).bind fun t82 =>
(ld1 t82 p80.2).bind fun p83 =>
(ixP 1 p83.1 t75).bind fun t85 =>
(ld1 t85 p83.2).bind fun p86 =>
(unV .not p86.1).bind fun t87 =>
ifK t87 (
(faP 257 false 1 p43.1).bind fun t88 =>
(ld1 t88 p86.2).bind fun p89 =>
L15_26 self N nk ek n v0 v5 v7 v9 p89.1 v11 p89.2) (
L15_26 self N nk ek n v0 v5 v7 v9 t75 v11 p86.2)) (
(binV E0 .eql 3 false true p46.1 (.int .i64 4)).bind fun t91 =>
ifK t91 (
(faP 257 false 1 p43.1).bind fun t93 =>
(ld1 t93 p46.2).bind fun p94 =>
L15_26 self N nk ek n v0 v5 v7 v9 p94.1 v11 p94.2) (
(binV E0 .add 3 false true v10 (.int .i64 1)).bind fun t97 =>
L15_26 self N nk ek n v0 v5 v7 v9 t97 v11 p46.2))))) (
ek 2 (fr 100 [(7, v7)]) p34.2) := by kernel_rfl
theorem R15_9_eq (self : EV) (N : Nat) (nk : Ac → St → Rs) (ek : Nat → Ac → St → Rs) ( v0 v1 v5 v7 : V) (S : St) : R15_9 self N nk ek (fr 100 [(0, v0), (1, v1), (5, v5), (7, v7)]) S =
(ldA 2 v5 S).bind fun p11 =>
(ixP 2 v7 (.int .i64 0)).bind fun t12 =>
(stP 2 t12 p11.1 p11.2).bind fun p13 =>
(ldA 2 v5 p13.2).bind fun p16 =>
callP (self.f 22 [v0, v1, p16.1] p16.2) fun t17 S17 =>
(ixA 2 1 false 1 v5 (.int .i64 0)).bind fun t19 =>
(ld1 t19 (onS S17)).bind fun p20 =>
L15_26 self N (R15_23 self N (fun a s => projK [6] a fun a => nk a s) ek) (exB 2 (R15_23 self N (fun a s => projK [6] a fun a => nk a s) ek) ek) N v0 v5 v7 t17 (.int .i64 0) p20.1 (relog S17 (onS p20.2) [[], p20.2.log, [], []]) := by kernel_rfl
noncomputable def L15_102 (self : EV) (N : Nat) (nk : Ac → St → Rs) (ek : Nat → Ac → St → Rs) (n : Nat) ( v0 v1 v5 v7 v20 v21 : V) (S : St) : Rs := loopK [0, 1, 5, 7, 20, 21] (dr E0 self RL15 N (B15.r.r.l.r.l.l)) (mkK E0 self Try.f15 nk ek) n (fr 100 [(0, v0), (1, v1), (5, v5), (7, v7), (20, v20), (21, v21)]) S
theorem L15_102_eq (self : EV) (N : Nat) (nk : Ac → St → Rs) (ek : Nat → Ac → St → Rs) (n : Nat) ( v0 v1 v5 v7 v20 v21 : V) (S : St) : L15_102 self N nk ek (n + 1) v0 v1 v5 v7 v20 v21 S =
(binV E0 .lss 3 false false v21 v20).bind fun t103 =>
ifK t103 (
(buildV E0 30 [(0, (.int .i64 (-1))), (1, (.int .i64 (-1)))]).bind fun t108 =>
(ixP 2 v7 v21).bind fun t109 =>
(stP 2 t109 t108 S).bind fun p110 =>
(binV E0 .add 3 false true v21 (.int .i64 1)).bind fun t111 =>
L15_102 self N nk ek n v0 v1 v5 v7 v20 t111 p110.2) (
ek 0 (fr 100 [(0, v0), (1, v1), (5, v5), (7, v7)]) S) := by kernel_rfl
noncomputable def F15 (self : EV) (N : Nat) (x0 x1 x2 : V) (S : St) : Rs := runF E0 self N Try.f15 B15 [x0, x1, x2] S
theorem F15_eq (self : EV) (N : Nat) (x0 x1 x2 : V) (S : St) : F15 self N x0 x1 x2 S =
(boxK 30 x2 S).bind fun p0 =>
(nilCheckV x0).bind fun t3 =>
(faP 1 false 1 t3).bind fun t4 =>
(ld1 t4 p0.2).bind fun p5 =>
(binV E0 .add 3 false true p5.1 (.int .i64 1)).bind fun t6 =>
(makeSliceK E0 27 t6 t6 p5.2).bind fun p7 =>
(lnS p7.1 p7.2).bind fun p100 =>
L15_102 self N (R15_9 self N (finN E0 self Try.f15) noEx) (exB 0 (R15_9 self N (finN E0 self Try.f15) noEx) noEx) N x0 x1 p0.1 p7.1 p100.1 (.int .i64 0) p100.2 := by kernel_rfl
end
end Go.Proofs.Ytachpdpmoihjmaa.W
namespace Go.Proofs.Ytachpdpmoihjmaa.W
open Go.Proofs.Ytachpdpmoihjmaa.Ev
set_option maxRecDepth 100000
noncomputable section
noncomputable def C8 : Code := Try.f8.body.getD .skip
noncomputable def B8 : D := (annot C8 [[], [], [], [], [], [], [], [], []]).1
noncomputable def F8 (self : EV) (N : Nat) (x0 x1 x2 : V) (S : St) : Rs := runF E0 self N Try.f8 B8 [x0, x1, x2] S
theorem F8_eq (self : EV) (N : Nat) (x0 x1 x2 : V) (S : St) : F8 self N x0 x1 x2 S =
(binV E0 .eql 22 false true x0 .nilptr).bind fun t3 =>
(guardV false t3).bind fun g5 => (bif g5 then some x2 else some (.tuple [])).bind fun t5 =>
(guardV false t3).bind fun g6 => (bif g6 then binV E0 .lss 3 false true t5 (.int .i64 0) else some (.tuple [])).bind fun t6 =>
(pickV t3 (some (.bool true)) (some t6)).bind fun t7 =>
(guardV false t7).bind fun g9 => (bif g9 then some x2 else some (.tuple [])).bind fun t9 =>
(guardV false t7).bind fun g10 => (bif g10 then some x1 else some (.tuple [])).bind fun t10 =>
(guardV false t7).bind fun g11 => (bif g11 then lnStr t10 S else some (.tuple [], S)).bind fun p11 =>
(guardV false t7).bind fun g12 => (bif g12 then binV E0 .gtr 3 false false t9 p11.1 else some (.tuple [])).bind fun t12 =>
(pickV t7 (some (.bool true)) (some t12)).bind fun t13 =>
ifK t13 (
some (.ret (.tuple [.nilslice, (.bool false)]), p11.2)) (
callP (self.f 14 [x0, x1, x2] p11.2) fun t19 S19 =>
(extractV t19 0).bind fun t21 =>
(extractV t19 1).bind fun t22 =>
(some (nwP 30 2 (Tr.ofListFrom .nil [(.int .i64 0), (.int .i64 0)] 0) S19)).bind fun p23 =>
(stP 2 p23.1 t21 p23.2).bind fun p24 =>
(unV .not t22).bind fun t27 =>
ifK t27 (
some (.ret (.tuple [.nilslice, (.bool false)]), p24.2)) (
(ldA 2 p23.1 p24.2).bind fun p32 =>
callP (self.f 15 [x0, x1, p32.1] p32.2) fun t33 S33 =>
some (.ret (.tuple [t33, (.bool true)]), S33))) := by kernel_rfl
noncomputable def C3 : Code := Try.f3.body.getD .skip
noncomputable def B3 : D := (annot C3 [[], [], [], [], [], [], [], [], [0, 1, 5, 7], [], [], [], [], [], [0, 1, 5, 7, 8, 9], [], [0, 1, 5, 7, 8], [], [], [], [0, 0, 1, 5, 7, 8], [0, 1, 5, 7], [], [], [], [0, 0, 1, 5, 7], [0, 1, 5, 7], [0], [4], []]).1
noncomputable def RL3 : List Nat := cellsOf Try.f3.results.toList
noncomputable def R3_28 (self : EV) (N : Nat) (nk : Ac → St → Rs) (ek : Nat → Ac → St → Rs) (a : Ac) (S : St) : Rs := projK [] a fun a => dr E0 self RL3 N (B3.r.r.r.r.r).r (mkK E0 self Try.f3 nk ek) a S
theorem R3_28_eq (self : EV) (N : Nat) (nk : Ac → St → Rs) (ek : Nat → Ac → St → Rs) (S : St) : R3_28 self N nk ek (fr 96 []) S =
callP (self.f 9 [] S) fun t29 S29 =>
some (.ret t29, S29) := by kernel_rfl
noncomputable def N3_32 (self : EV) (N : Nat) (nk : Ac → St → Rs) (ek : Nat → Ac → St → Rs) (n : Nat) : Ac → St → Rs := fun a S => projK [0, 1, 5, 7] a fun a => loopK [0, 1, 5, 7] (dr E0 self RL3 N (B3.r.r.r.r.r.l.r.l.l)) (mkK E0 self Try.f3 nk ek) n a S
noncomputable def L3_32 (self : EV) (N : Nat) (nk : Ac → St → Rs) (ek : Nat → Ac → St → Rs) (n : Nat) ( v0 v1 v5 v7 : V) (S : St) : Rs := loopK [0, 1, 5, 7] (dr E0 self RL3 N (B3.r.r.r.r.r.l.r.l.l)) (mkK E0 self Try.f3 nk ek) n (fr 96 [(0, v0), (1, v1), (5, v5), (7, v7)]) S
noncomputable def R3_37 (self : EV) (N : Nat) (nk : Ac → St → Rs) (ek : Nat → Ac → St → Rs) (a : Ac) (S : St) : Rs := projK [0, 1, 5, 7] a fun a => dr E0 self RL3 N (B3.r.r.r.r.r.l.r.l.l.r).r (mkK E0 self Try.f3 nk ek) a S
theorem R3_37_eq (self : EV) (N : Nat) (nk : Ac → St → Rs) (ek : Nat → Ac → St → Rs) ( v0 v1 v5 v7 : V) (S : St) : R3_37 self N nk ek (fr 96 [(0, v0), (1, v1), (5, v5), (7, v7)]) S =
(binV E0 .add 3 false true v7 (.int .i64 1)).bind fun t39 =>
nk (fr 96 [(0, v0), (1, v1), (5, v5), (7, t39)]) S := by kernel_rfl
noncomputable def R3_42 (self : EV) (N : Nat) (nk : Ac → St → Rs) (ek : Nat → Ac → St → Rs) (a : Ac) (S : St) : Rs := projK [0, 1, 5, 7, 8] a fun a => dr E0 self RL3 N (B3.r.r.r.r.r.l.r.l.l.r.l.l.r).r (mkK E0 self Try.f3 nk ek) a S
theorem R3_42_eq (self : EV) (N : Nat) (nk : Ac → St → Rs) (ek : Nat → Ac → St → Rs) ( v0 v1 v5 v7 v8 : V) (S : St) : R3_42 self N nk ek (fr 96 [(0, v0), (1, v1), (5, v5), (7, v7), (8, v8)]) S =
callP (self.f 8 [v5, v1, v7] S) fun t46 S46 =>
(extractV t46 0).bind fun t48 =>
(extractV t46 1).bind fun t49 =>
(binV E0 .geq 3 false true v8 (.int .i64 0)).bind fun t54 =>
(binV E0 .neq 4 false false t49 t54).bind fun t55 =>
(guardV false t55).bind fun g57 => (bif g57 then some t49 else some (.tuple [])).bind fun t57 =>
(guardV false t55).bind fun g58 => (bif g58 then some t57 else some (.tuple [])).bind fun t58 =>
(guardV true t58).bind fun g59 => (bif g59 then some t48 else some (.tuple [])).bind fun t59 =>
(guardV true t58).bind fun g60 => (bif g60 then lnS t59 S46 else some (.tuple [], S46)).bind fun p60 =>
(guardV true t58).bind fun g61 => (bif g61 then binV E0 .neq 3 false true p60.1 (.int .i64 1) else some (.tuple [])).bind fun t61 =>
(guardV true t58).bind fun g62 => (bif g62 then some t61 else some (.tuple [])).bind fun t62 =>
(guardV false t62).bind fun g63 => (bif g63 then some t48 else some (.tuple [])).bind fun t63 =>
(guardV false t62).bind fun g64 => (bif g64 then ixP 2 t63 (.int .i64 0) else some (.tuple [])).bind fun t64 =>
(guardV false t62).bind fun g65 => (bif g65 then ldA 2 t64 p60.2 else some (.tuple [], p60.2)).bind fun p65 =>
(guardV false t62).bind fun g66 => (bif g66 then some v8 else some (.tuple [])).bind fun t66 =>
(guardV false t62).bind fun g67 => (bif g67 then some v8 else some (.tuple [])).bind fun t67 =>
(guardV false t62).bind fun g68 => (bif g68 then some v0 else some (.tuple [])).bind fun t68 =>
(guardV false t62).bind fun g69 => (bif g69 then lnStr t68 p65.2 else some (.tuple [], p65.2)).bind fun p69 =>
(guardV false t62).bind fun g70 => (bif g70 then binV E0 .add 3 false false t67 p69.1 else some (.tuple [])).bind fun t70 =>
(guardV false t62).bind fun g71 => (bif g71 then buildV E0 30 [(0, t66), (1, t70)] else some (.tuple [])).bind fun t71 =>
(guardV false t62).bind fun g72 => (bif g72 then binV E0 .neq 30 false false p65.1 t71 else some (.tuple [])).bind fun t72 =>
(guardV true t58).bind fun g73 => (bif g73 then pickV t62 (some (.bool true)) (some t72) else some (.tuple [])).bind fun t73 =>
(guardV false t55).bind fun g74 => (bif g74 then pickV t58 (some t73) (some (.bool false)) else some (.tuple [])).bind fun t74 =>
(pickV t55 (some (.bool true)) (some t74)).bind fun t75 =>
ifK t75 (
some (.ret (.bool false), p69.2)) (
nk (fr 96 [(0, v0), (1, v1), (5, v5), (7, v7)]) p69.2) := by kernel_rfl
noncomputable def L3_79 (self : EV) (N : Nat) (nk : Ac → St → Rs) (ek : Nat → Ac → St → Rs) (n : Nat) ( v0 v1 v5 v7 v8 v9 : V) (S : St) : Rs := loopK [0, 1, 5, 7, 8, 9] (dr E0 self RL3 N (B3.r.r.r.r.r.l.r.l.l.r.l.l.r.l.r.l.l)) (mkK E0 self Try.f3 nk ek) n (fr 96 [(0, v0), (1, v1), (5, v5), (7, v7), (8, v8), (9, v9)]) S
theorem L3_79_eq (self : EV) (N : Nat) (nk : Ac → St → Rs) (ek : Nat → Ac → St → Rs) (n : Nat) ( v0 v1 v5 v7 v8 v9 : V) (S : St) : L3_79 self N nk ek (n + 1) v0 v1 v5 v7 v8 v9 S =
(lnStr v0 S).bind fun p82 =>
(binV E0 .add 3 false false v9 p82.1).bind fun t83 =>
(lnStr v1 p82.2).bind fun p85 =>
(binV E0 .leq 3 false false t83 p85.1).bind fun t86 =>
(guardV true t86).bind fun g88 => (bif g88 then some v8 else some (.tuple [])).bind fun t88 =>
(guardV true t86).bind fun g89 => (bif g89 then binV E0 .lss 3 false true t88 (.int .i64 0) else some (.tuple [])).bind fun t89 =>
(pickV t86 (some t89) (some (.bool false))).bind fun t90 =>
ifK t90 (
(lnStr v0 p85.2).bind fun p95 =>
(binV E0 .add 3 false false v9 p95.1).bind fun t96 =>
(sliceV E0 9 v1 (some v9) (some t96) none p95.2).bind fun p97 =>
(binV E0 .eql 9 false false p97.1 v0).bind fun t99 =>
ifK t99 (
(binV E0 .add 3 false true v9 (.int .i64 1)).bind fun t103 =>
L3_79 self N nk ek n v0 v1 v5 v7 v9 t103 p97.2) (
(binV E0 .add 3 false true v9 (.int .i64 1)).bind fun t106 =>
L3_79 self N nk ek n v0 v1 v5 v7 v8 t106 p97.2)) (
ek 2 (fr 96 [(0, v0), (1, v1), (5, v5), (7, v7), (8, v8)]) p85.2) := by kernel_rfl
theorem L3_32_eq (self : EV) (N : Nat) (nk : Ac → St → Rs) (ek : Nat → Ac → St → Rs) (n : Nat) ( v0 v1 v5 v7 : V) (S : St) : L3_32 self N nk ek (n + 1) v0 v1 v5 v7 S =
(lnStr v1 S).bind fun p35 =>
(binV E0 .leq 3 false false v7 p35.1).bind fun t36 =>
ifK t36 (
L3_79 self N (R3_42 self N (R3_37 self N (N3_32 self N nk ek n) ek) (exB 1 (R3_37 self N (N3_32 self N nk ek n) ek) ek)) (exB 2 (R3_42 self N (R3_37 self N (N3_32 self N nk ek n) ek) (exB 1 (R3_37 self N (N3_32 self N nk ek n) ek) ek)) (exB 1 (R3_37 self N (N3_32 self N nk ek n) ek) ek)) N v0 v1 v5 v7 (.int .i64 (-1)) v7 p35.2) (
ek 0 (fr 96 []) p35.2) := by kernel_rfl
theorem N3_32_eq (self : EV) (N : Nat) (nk : Ac → St → Rs) (ek : Nat → Ac → St → Rs) (n : Nat) ( v0 v1 v5 v7 : V) (S : St) : N3_32 self N nk ek n (fr 96 [(0, v0), (1, v1), (5, v5), (7, v7)]) S = L3_32 self N nk ek n v0 v1 v5 v7 S := by kernel_rfl
noncomputable def F3 (self : EV) (N : Nat) (x0 x1 : V) (S : St) : Rs := runF E0 self N Try.f3 B3 [x0, x1] S
theorem F3_eq (self : EV) (N : Nat) (x0 x1 : V) (S : St) : F3 self N x0 x1 S =
(lnStr x0 S).bind fun p3 =>
(foldK minV p3.1 [(.int .i64 60)] p3.2).bind fun p4 =>
(sliceV E0 9 x0 none (some p4.1) none p4.2).bind fun p5 =>
(lnStr x1 p5.2).bind fun p9 =>
(foldK minV p9.1 [(.int .i64 100)] p9.2).bind fun p10 =>
(sliceV E0 9 x1 none (some p10.1) none p10.2).bind fun p11 =>
callP (self.f 7 [p5.1] p11.2) fun t14 S14 =>
callP (self.f 6 [t14] S14) fun t15 S15 =>
(extractV t15 0).bind fun t17 =>
(extractV t15 1).bind fun t18 =>
(binV E0 .neq 23 false true t18 (.int .i64 0)).bind fun t22 =>
(guardV false t22).bind fun g24 => (bif g24 then some t17 else some (.tuple [])).bind fun t24 =>
(guardV false t22).bind fun g25 => (bif g25 then binV E0 .eql 22 false true t24 .nilptr else some (.tuple [])).bind fun t25 =>
(pickV t22 (some (.bool true)) (some t25)).bind fun t26 =>
ifK t26 (
some (.ret (.bool false), S15)) (
L3_32 self N (R3_28 self N (finN E0 self Try.f3) noEx) (exB 0 (R3_28 self N (finN E0 self Try.f3) noEx) noEx) N p5.1 p11.1 t17 (.int .i64 0) S15) := by kernel_rfl
end
end Go.Proofs.Ytachpdpmoihjmaa.W
