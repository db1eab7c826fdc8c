/-
  WHAT THE FUNCTIONS COME TO: each is read by the evaluator, printed, and told as a function of data, part 3 of 13 (no condition).
-/
import Derived.Test.YthmkdoaaciamlaaW2
import Derived.Test.YthmkdoaaciamlaaProg
import Derived.KernelRfl
namespace Go.Proofs.Ythmkdoaaciamlaa.W
open Go.Proofs.Ythmkdoaaciamlaa.Ev
set_option maxRecDepth 100000
noncomputable section
noncomputable def C54 : Code := Try.f54.body.getD .skip
noncomputable def B54 : D := (annot C54 [[], [], [0, 3], [], [0, 3], [], [0, 0, 3], [2], [], [], [], [], [], [], [0, 3, 4, 5], [], [0, 3, 4], [], [], [0, 0, 3, 4], [2], [], [], [], [], [], []]).1
noncomputable def RL54 : List Nat := cellsOf Try.f54.results.toList
noncomputable def R54_2 (self : EV) (N : Nat) (nk : Ac → St → Rs) (ek : Nat → Ac → St → Rs) (a : Ac) (S : St) : Rs := projK [0, 3] a fun a => dr E0 self RL54 N (B54.r.r).r (mkK E0 self Try.f54 nk ek) a S
noncomputable def R54_18 (self : EV) (N : Nat) (nk : Ac → St → Rs) (ek : Nat → Ac → St → Rs) (a : Ac) (S : St) : Rs := projK [0, 3, 4] a fun a => dr E0 self RL54 N (B54.r.r.r.l.r.r).r (mkK E0 self Try.f54 nk ek) a S
theorem R54_18_eq (self : EV) (N : Nat) (nk : Ac → St → Rs) (ek : Nat → Ac → St → Rs) ( v0 v3 v4 : V) (S : St) : R54_18 self N nk ek (fr 76 [(0, v0), (3, v3), (4, v4)]) S =
callD (planOf E0 (B54.r.r.r.l.r.r.r.l.l.l).ops) S 1 [[]] (self.f 46 [(sv []), v4] (onS S)) fun t20 S20 =>
(nilCheckV v0).bind fun t22 =>
(faP 0 false 1 t22).bind fun t23 =>
(ld1 t23 (onS S20)).bind fun p24 =>
(binV E0 .add 3 false true v3 (.int .i64 1)).bind fun t26 =>
(sliceV E0 9 p24.1 none (some t26) none (onS p24.2)).bind fun p27 =>
(binV E0 .neq 9 false false t20 p27.1).bind fun t28 =>
endP [(1, [5, 8])] S [[], S20.log, [], [], [], p24.2.log, [], [], p27.2.log, []] (onS p27.2) fun S29 =>
ifK t28 (
callP (self.f 55 [v0] S29) fun t31 S31 =>
some (.ret (.int .u64 0), S31)) (
(nilCheckV v0).bind fun t35 =>
(faP 0 false 1 t35).bind fun t36 =>
(ld1 t36 S29).bind fun p37 =>
(binV E0 .add 3 false true v3 (.int .i64 1)).bind fun t39 =>
(sliceV E0 9 p37.1 (some t39) none none p37.2).bind fun p40 =>
(nilCheckV v0).bind fun t41 =>
(faP 0 false 1 t41).bind fun t42 =>
(stP 1 t42 p40.1 p40.2).bind fun p43 =>
some (.ret v4, p43.2)) := by kernel_rfl
noncomputable def L54_47 (self : EV) (N : Nat) (nk : Ac → St → Rs) (ek : Nat → Ac → St → Rs) (n : Nat) ( v0 v3 v4 v5 : V) (S : St) : Rs := loopK [0, 3, 4, 5] (dr E0 self RL54 N (B54.r.r.r.l.r.r.l.r.l.l)) (mkK E0 self Try.f54 nk ek) n (fr 76 [(0, v0), (3, v3), (4, v4), (5, v5)]) S
theorem L54_47_eq (self : EV) (N : Nat) (nk : Ac → St → Rs) (ek : Nat → Ac → St → Rs) (n : Nat) ( v0 v3 v4 v5 : V) (S : St) : L54_47 self N nk ek (n + 1) v0 v3 v4 v5 S =
(binV E0 .leq 3 false false v5 v3).bind fun t50 =>
ifK t50 (
(binV E0 .mul 71 true false (.int .u64 128) v4).bind fun t52 =>
(nilCheckV v0).bind fun t54 =>
(faP 0 false 1 t54).bind fun t55 =>
(ld1 t55 S).bind fun p56 =>
(ixS p56.1 v5).bind fun t58 =>
(binV E0 .rem 5 false true t58 (.int .u8 128)).bind fun t59 =>
(cvI .u64 t59 p56.2).bind fun p60 =>
(binV E0 .add 71 false false t52 p60.1).bind fun t61 =>
(binV E0 .add 3 false true v5 (.int .i64 1)).bind fun t64 =>
L54_47 self N nk ek n v0 v3 t61 t64 p60.2) (
ek 2 (fr 76 [(0, v0), (3, v3), (4, v4)]) S) := by kernel_rfl
theorem R54_2_eq (self : EV) (N : Nat) (nk : Ac → St → Rs) (ek : Nat → Ac → St → Rs) ( v0 v3 : V) (S : St) : R54_2 self N nk ek (fr 76 [(0, v0), (3, v3)]) S =
(nilCheckV v0).bind fun t5 =>
(faP 0 false 1 t5).bind fun t6 =>
(ld1 t6 S).bind fun p7 =>
(lnStr p7.1 p7.2).bind fun p8 =>
(binV E0 .geq 3 false false v3 p8.1).bind fun t9 =>
(guardV false t9).bind fun g11 => (bif g11 then some v3 else some (.tuple [])).bind fun t11 =>
(guardV false t9).bind fun g12 => (bif g12 then binV E0 .gtr 3 false true t11 (.int .i64 9) else some (.tuple [])).bind fun t12 =>
(pickV t9 (some (.bool true)) (some t12)).bind fun t13 =>
ifK t13 (
callP (self.f 55 [v0] p8.2) fun t15 S15 =>
some (.ret (.int .u64 0), S15)) (
L54_47 self N (R54_18 self N (fun a s => projK [2] a fun a => nk a s) ek) (exB 2 (R54_18 self N (fun a s => projK [2] a fun a => nk a s) ek) ek) N v0 v3 (.int .u64 0) (.int .i64 0) p8.2) := by kernel_rfl
noncomputable def L54_66 (self : EV) (N : Nat) (nk : Ac → St → Rs) (ek : Nat → Ac → St → Rs) (n : Nat) ( v0 v3 : V) (S : St) : Rs := loopK [0, 3] (dr E0 self RL54 N (B54.r.r.l.l.l)) (mkK E0 self Try.f54 nk ek) n (fr 76 [(0, v0), (3, v3)]) S
theorem L54_66_eq (self : EV) (N : Nat) (nk : Ac → St → Rs) (ek : Nat → Ac → St → Rs) (n : Nat) ( v0 v3 : V) (S : St) : L54_66 self N nk ek (n + 1) v0 v3 S =
(nilCheckV v0).bind fun t69 =>
(faP 0 false 1 t69).bind fun t70 =>
(ld1 t70 S).bind fun p71 =>
(lnStr p71.1 p71.2).bind fun p72 =>
(binV E0 .lss 3 false false v3 p72.1).bind fun t73 =>
(guardV true t73).bind fun g75 => (bif g75 then some v0 else some (.tuple [])).bind fun t75 =>
(guardV true t73).bind fun g76 => (bif g76 then nilCheckV t75 else some (.tuple [])).bind fun t76 =>
(guardV true t73).bind fun g77 => (bif g77 then faP 0 false 1 t76 else some (.tuple [])).bind fun t77 =>
(guardV true t73).bind fun g78 => (bif g78 then ld1 t77 p72.2 else some (.tuple [], p72.2)).bind fun p78 =>
(guardV true t73).bind fun g79 => (bif g79 then some v3 else some (.tuple [])).bind fun t79 =>
(guardV true t73).bind fun g80 => (bif g80 then ixS p78.1 t79 else some (.tuple [])).bind fun t80 =>
(guardV true t73).bind fun g81 => (bif g81 then binV E0 .geq 5 false true t80 (.int .u8 128) else some (.tuple [])).bind fun t81 =>
(pickV t73 (some t81) (some (.bool false))).bind fun t82 =>
ifK t82 (
(binV E0 .add 3 false true v3 (.int .i64 1)).bind fun t84 =>
L54_66 self N nk ek n v0 t84 p78.2) (
ek 0 (fr 76 [(0, v0), (3, v3)]) p78.2) := by kernel_rfl
noncomputable def F54 (self : EV) (N : Nat) (x0 : V) (S : St) : Rs := runF E0 self N Try.f54 B54 [x0] S
theorem F54_eq (self : EV) (N : Nat) (x0 : V) (S : St) : F54 self N x0 S =
L54_66 self N (R54_2 self N (finN E0 self Try.f54) noEx) (exB 0 (R54_2 self N (finN E0 self Try.f54) noEx) noEx) N x0 (.int .i64 0) S := by kernel_rfl
noncomputable def C55 : Code := Try.f55.body.getD .skip
noncomputable def B55 : D := (annot C55 [[]]).1
noncomputable def F55 (self : EV) (N : Nat) (x0 : V) (S : St) : Rs := runF E0 self N Try.f55 B55 [x0] S
theorem F55_eq (self : EV) (N : Nat) (x0 : V) (S : St) : F55 self N x0 S =
(nilCheckV x0).bind fun t1 =>
(faP 0 false 1 t1).bind fun t2 =>
(stP 1 t2 (sv []) S).bind fun p3 =>
(nilCheckV x0).bind fun t5 =>
(faP 1 false 1 t5).bind fun t6 =>
(stP 1 t6 (.bool true) p3.2).bind fun p7 =>
some (.ret (.tuple []), p7.2) := by kernel_rfl
noncomputable def C56 : Code := Try.f56.body.getD .skip
noncomputable def B56 : D := (annot C56 [[], []]).1
noncomputable def F56 (self : EV) (N : Nat) (x0 : V) (S : St) : Rs := runF E0 self N Try.f56 B56 [x0] S
theorem F56_eq (self : EV) (N : Nat) (x0 : V) (S : St) : F56 self N x0 S =
(nilCheckV x0).bind fun t2 =>
(faP 1 false 1 t2).bind fun t3 =>
(ld1 t3 S).bind fun p4 =>
(unV .not p4.1).bind fun t5 =>
some (.ret t5, p4.2) := by kernel_rfl
noncomputable def C31 : Code := Try.f31.body.getD .skip
noncomputable def B31 : D := (annot C31 [[], [], [], [], [], [], [], [], []]).1
noncomputable def F31 (self : EV) (N : Nat) (x0 : V) (S : St) : Rs := runF E0 self N Try.f31 B31 [x0] S
theorem F31_eq (self : EV) (N : Nat) (x0 : V) (S : St) : F31 self N x0 S =
callP (self.f 54 [x0] S) fun t2 S2 =>
(nilCheckV x0).bind fun t6 =>
(faP 0 false 1 t6).bind fun t7 =>
(ld1 t7 S2).bind fun p8 =>
(lnStr p8.1 p8.2).bind fun p9 =>
(cvI .u64 p9.1 p9.2).bind fun p10 =>
(binV E0 .gtr 71 false false t2 p10.1).bind fun t11 =>
ifK t11 (
callP (self.f 55 [x0] p10.2) fun t13 S13 =>
some (.ret (sv []), S13)) (
(nilCheckV x0).bind fun t16 =>
(faP 0 false 1 t16).bind fun t17 =>
(ld1 t17 p10.2).bind fun p18 =>
(sliceV E0 9 p18.1 none (some t2) none p18.2).bind fun p20 =>
(nilCheckV x0).bind fun t24 =>
(faP 0 false 1 t24).bind fun t25 =>
(ld1 t25 p20.2).bind fun p26 =>
(sliceV E0 9 p26.1 (some t2) none none p26.2).bind fun p28 =>
(nilCheckV x0).bind fun t29 =>
(faP 0 false 1 t29).bind fun t30 =>
(stP 1 t30 p28.1 p28.2).bind fun p31 =>
some (.ret p20.1, p31.2)) := by kernel_rfl
noncomputable def C33 : Code := Try.f33.body.getD .skip
noncomputable def B33 : D := (annot C33 [[], []]).1
noncomputable def F33 (self : EV) (N : Nat) (x0 : V) (S : St) : Rs := runF E0 self N Try.f33 B33 [x0] S
theorem F33_eq (self : EV) (N : Nat) (x0 : V) (S : St) : F33 self N x0 S =
(nilCheckV x0).bind fun t2 =>
(faP 1 false 1 t2).bind fun t3 =>
(ld1 t3 S).bind fun p4 =>
(unV .not p4.1).bind fun t5 =>
(guardV true t5).bind fun g7 => (bif g7 then some x0 else some (.tuple [])).bind fun t7 =>
(guardV true t5).bind fun g8 => (bif g8 then nilCheckV t7 else some (.tuple [])).bind fun t8 =>
(guardV true t5).bind fun g9 => (bif g9 then faP 0 false 1 t8 else some (.tuple [])).bind fun t9 =>
(guardV true t5).bind fun g10 => (bif g10 then ld1 t9 p4.2 else some (.tuple [], p4.2)).bind fun p10 =>
(guardV true t5).bind fun g11 => (bif g11 then binV E0 .eql 9 false true p10.1 (sv []) else some (.tuple [])).bind fun t11 =>
(pickV t5 (some t11) (some (.bool false))).bind fun t12 =>
some (.ret t12, p10.2) := by kernel_rfl
noncomputable def C32 : Code := Try.f32.body.getD .skip
noncomputable def B32 : D := (annot C32 [[], [], [], [], [], [], [], [], [], [], [], [], [], [], [], [], [], [0, 1, 4, 6, 8, 9], [], [0, 4, 6], [], [], [], [], [], [], [], [], [0, 0, 4, 6], [4, 6], [], [0, 4, 6], [4, 5], []]).1
noncomputable def RL32 : List Nat := cellsOf Try.f32.results.toList
noncomputable def R32_9 (self : EV) (N : Nat) (nk : Ac → St → Rs) (ek : Nat → Ac → St → Rs) (a : Ac) (S : St) : Rs := projK [4, 6] a fun a => dr E0 self RL32 N (B32.r.r).r (mkK E0 self Try.f32 nk ek) a S
theorem R32_9_eq (self : EV) (N : Nat) (nk : Ac → St → Rs) (ek : Nat → Ac → St → Rs) ( v4 v6 : V) (S : St) : R32_9 self N nk ek (fr 90 [(4, v4), (6, v6)]) S =
(ldA 5 v6 S).bind fun p10 =>
(stP 5 v4 p10.1 p10.2).bind fun p11 =>
(ldrA 5 v4 p11.2).bind fun p13 =>
some (.ret (.tuple [p13.1, (.bool false)]), p13.2) := by kernel_rfl
noncomputable def R32_73 (self : EV) (N : Nat) (nk : Ac → St → Rs) (ek : Nat → Ac → St → Rs) (a : Ac) (S : St) : Rs := projK [0, 4, 6] a fun a => dr E0 self RL32 N (B32.r.r.l.r.l.r.r.r.r.r.l.r.r).r (mkK E0 self Try.f32 nk ek) a S
theorem R32_73_eq (self : EV) (N : Nat) (nk : Ac → St → Rs) (ek : Nat → Ac → St → Rs) ( v0 v4 v6 : V) (S : St) : R32_73 self N nk ek (fr 90 [(0, v0), (4, v4), (6, v6)]) S =
(ldA 5 v6 (onS S)).bind fun p74 =>
callD (planOf E0 (B32.r.r.l.r.l.r.r.r.r.r.l.r.r.r.l.l).ops) S 2 [p74.2.log, []] (self.f 56 [v0] (onS p74.2)) fun t76 S76 =>
(stP 5 v4 p74.1 (onS S76)).bind fun p77 =>
endP [(0, [2])] S [p74.2.log, [], S76.log, p77.2.log, []] (onS p77.2) fun S79 =>
(ldrA 5 v4 S79).bind fun p80 =>
some (.ret (.tuple [p80.1, t76]), p80.2) := by kernel_rfl
noncomputable def L32_82 (self : EV) (N : Nat) (nk : Ac → St → Rs) (ek : Nat → Ac → St → Rs) (n : Nat) ( v0 v1 v4 v6 v8 v9 : V) (S : St) : Rs := loopK [0, 1, 4, 6, 8, 9] (dr E0 self RL32 N (B32.r.r.l.r.l.r.r.r.r.r.l.r.r.l.r.l.l)) (mkK E0 self Try.f32 nk ek) n (fr 90 [(0, v0), (1, v1), (4, v4), (6, v6), (8, v8), (9, v9)]) S
theorem L32_82_eq (self : EV) (N : Nat) (nk : Ac → St → Rs) (ek : Nat → Ac → St → Rs) (n : Nat) ( v0 v1 v4 v6 v8 v9 : V) (S : St) : L32_82 self N nk ek (n + 1) v0 v1 v4 v6 v8 v9 S =
(binV E0 .lss 71 false false v9 v8).bind fun t85 =>
ifK t85 (
callP (self.f 31 [v0] S) fun t87 S87 =>
(binV E0 .sub 3 false true v1 (.int .i64 1)).bind fun t91 =>
callP (self.f 32 [v0, t91] S87) fun t92 S92 =>
(extractV t92 0).bind fun t94 =>
(extractV t92 1).bind fun t95 =>
(some (nwP 24 5 (Tr.ofListFrom .nil [(sv []), (.int .i64 0), (.bool false), (sv []), .nilslice] 0) S92)).bind fun p96 =>
(stP 5 p96.1 t94 p96.2).bind fun p97 =>
(unV .not t95).bind fun t100 =>
ifK t100 (
(ldA 5 v6 p97.2).bind fun p101 =>
(stP 5 v4 p101.1 p101.2).bind fun p102 =>
(ldrA 5 v4 p102.2).bind fun p104 =>
some (.ret (.tuple [p104.1, (.bool false)]), p104.2)) (
(faP 0 false 1 p96.1).bind fun t106 =>
(stP 1 t106 t87 p97.2).bind fun p107 =>
(faP 4 false 1 v6).bind fun t108 =>
(ld1 t108 p107.2).bind fun p109 =>
(ldA 5 p96.1 p109.2).bind fun p110 =>
(bsP 24 5 1 (Tr.ofListFrom .nil [(sv []), (.int .i64 0), (.bool false), (sv []), .nilslice] 0) [(0, p110.1)] p110.2).bind fun p111 =>
(apP 24 5 72 p109.1 p111.1 p111.2).bind fun p112 =>
(faP 4 false 1 v6).bind fun t113 =>
(stP 1 t113 p112.1 p112.2).bind fun p114 =>
(binV E0 .add 71 false true v9 (.int .u64 1)).bind fun t116 =>
L32_82 self N nk ek n v0 v1 v4 v6 v8 t116 p114.2)) (
ek 1 (fr 90 [(0, v0), (4, v4), (6, v6)]) S) := by kernel_rfl
noncomputable def F32 (self : EV) (N : Nat) (x0 x1 : V) (S : St) : Rs := runF E0 self N Try.f32 B32 [x0, x1] S
theorem F32_eq (self : EV) (N : Nat) (x0 x1 : V) (S : St) : F32 self N x0 x1 S =
(some (nwP 24 5 (Tr.ofListFrom .nil [(sv []), (.int .i64 0), (.bool false), (sv []), .nilslice] 0) S)).bind fun p0 =>
callP (self.f 54 [x0] p0.2) fun t3 S3 =>
(binV E0 .rem 71 false true t3 (.int .u64 1000)).bind fun t4 =>
(cvI .i64 t4 S3).bind fun p5 =>
(buildV E0 24 [(1, p5.1)]).bind fun t6 =>
(some (nwP 24 5 (Tr.ofListFrom .nil [(sv []), (.int .i64 0), (.bool false), (sv []), .nilslice] 0) p5.2)).bind fun p7 =>
(stP 5 p7.1 t6 p7.2).bind fun p8 =>
(faP 1 false 1 p7.1).bind fun t14 =>
(ld1 t14 p8.2).bind fun p15 =>
(binV E0 .eql 3 false true p15.1 (.int .i64 1)).bind fun t16 =>
ifK t16 (
callP (self.f 54 [x0] p15.2) fun t19 S19 =>
(binV E0 .eql 71 false true t19 (.int .u64 1)).bind fun t22 =>
(faP 2 false 1 p7.1).bind fun t23 =>
(stP 1 t23 t22 S19).bind fun p24 =>
callP (self.f 31 [x0] p24.2) fun t26 S26 =>
(faP 3 false 1 p7.1).bind fun t27 =>
(stP 1 t27 t26 S26).bind fun p28 =>
(ldA 5 p7.1 (onS p28.2)).bind fun p29 =>
(binV E0 .leq 71 false true t19 (.int .u64 1)).bind fun t31 =>
(guardV true t31).bind fun g33 => (bif g33 then some x0 else some (.tuple [])).bind fun t33 =>
(guardV true t31).bind fun g34 => callD (planOf E0 (B32.r.r.l.r.l.r.l.r.r.r.l).ops) p28.2 5 [p29.2.log, [], [], [], []] (bif g34 then self.f 56 [t33] (onS p29.2) else some (.ret (.tuple []), (onS p29.2))) fun t34 S34 =>
(pickV t31 (some t34) (some (.bool false))).bind fun t35 =>
(stP 5 p0.1 p29.1 (onS S34)).bind fun p36 =>
endP [(0, [5])] p28.2 [p29.2.log, [], [], [], [], S34.log, [], p36.2.log, []] (onS p36.2) fun S38 =>
(ldrA 5 p0.1 S38).bind fun p39 =>
some (.ret (.tuple [p39.1, t35]), p39.2)) (
(binV E0 .eql 3 false true p15.1 (.int .i64 3)).bind fun t40 =>
ifK t40 (
callP (self.f 31 [x0] p15.2) fun t43 S43 =>
(faP 3 false 1 p7.1).bind fun t44 =>
(stP 1 t44 t43 S43).bind fun p45 =>
(ldA 5 p7.1 (onS p45.2)).bind fun p46 =>
callD (planOf E0 (B32.r.r.l.r.l.r.r.r.l.r.l).ops) p45.2 2 [p46.2.log, []] (self.f 56 [x0] (onS p46.2)) fun t48 S48 =>
(stP 5 p0.1 p46.1 (onS S48)).bind fun p49 =>
endP [(0, [2])] p45.2 [p46.2.log, [], S48.log, p49.2.log, []] (onS p49.2) fun S51 =>
(ldrA 5 p0.1 S51).bind fun p52 =>
some (.ret (.tuple [p52.1, t48]), p52.2)) (
(binV E0 .eql 3 false true p15.1 (.int .i64 2)).bind fun t53 =>
ifK t53 (
callP (self.f 54 [x0] p15.2) fun t56 S56 =>
(binV E0 .eql 3 false true x1 (.int .i64 0)).bind fun t59 =>
(guardV false t59).bind fun g61 => (bif g61 then some t56 else some (.tuple [])).bind fun t61 =>
(guardV false t59).bind fun g62 => (bif g62 then binV E0 .gtr 71 false true t61 (.int .u64 2000) else some (.tuple [])).bind fun t62 =>
(pickV t59 (some (.bool true)) (some t62)).bind fun t63 =>
(guardV false t63).bind fun g65 => (bif g65 then some x0 else some (.tuple [])).bind fun t65 =>
(guardV false t63).bind fun g66 => callP (bif g66 then self.f 56 [t65] S56 else some (.ret (.tuple []), S56)) fun t66 S66 =>
(guardV false t63).bind fun g67 => (bif g67 then unV .not t66 else some (.tuple [])).bind fun t67 =>
(pickV t63 (some (.bool true)) (some t67)).bind fun t68 =>
ifK t68 (
(ldA 5 p7.1 S66).bind fun p69 =>
(stP 5 p0.1 p69.1 p69.2).bind fun p70 =>
(ldrA 5 p0.1 p70.2).bind fun p72 =>
some (.ret (.tuple [p72.1, (.bool false)]), p72.2)) (
L32_82 self N (R32_73 self N (R32_9 self N (finN E0 self Try.f32) noEx) (exB 0 (R32_9 self N (finN E0 self Try.f32) noEx) noEx)) (exB 1 (R32_73 self N (R32_9 self N (finN E0 self Try.f32) noEx) (exB 0 (R32_9 self N (finN E0 self Try.f32) noEx) noEx)) (exB 0 (R32_9 self N (finN E0 self Try.f32) noEx) noEx)) N x0 x1 p0.1 p7.1 t56 (.int .u64 0) S66)) (
R32_9 self N (finN E0 self Try.f32) noEx (fr 90 [(4, p0.1), (6, p7.1)]) p15.2))) := by kernel_rfl
noncomputable def C13 : Code := Try.f13.body.getD .skip
noncomputable def B13 : D := (annot C13 [[], [], [], [], [], [], [], [], [], [], [], []]).1
noncomputable def F13 (self : EV) (N : Nat) (x0 : V) (S : St) : Rs := runF E0 self N Try.f13 B13 [x0] S
theorem F13_eq (self : EV) (N : Nat) (x0 : V) (S : St) : F13 self N x0 S =
(some (nwP 24 5 (Tr.ofListFrom .nil [(sv []), (.int .i64 0), (.bool false), (sv []), .nilslice] 0) S)).bind fun p0 =>
(buildV E0 62 [(0, x0)]).bind fun t3 =>
(boxK 62 t3 p0.2).bind fun p4 =>
callP (self.f 31 [p4.1] p4.2) fun t7 S7 =>
callP (self.f 32 [p4.1, (.int .i64 13)] S7) fun t10 S10 =>
(extractV t10 0).bind fun t12 =>
(extractV t10 1).bind fun t13 =>
(some (nwP 24 5 (Tr.ofListFrom .nil [(sv []), (.int .i64 0), (.bool false), (sv []), .nilslice] 0) S10)).bind fun p14 =>
(stP 5 p14.1 t12 p14.2).bind fun p15 =>
(binV E0 .neq 9 false true t7 (sv [119, 104, 105, 115, 107, 45, 116, 114, 101, 101])).bind fun t18 =>
(guardV false t18).bind fun g20 => (bif g20 then some t13 else some (.tuple [])).bind fun t20 =>
(guardV false t18).bind fun g21 => (bif g21 then unV .not t20 else some (.tuple [])).bind fun t21 =>
(pickV t18 (some (.bool true)) (some t21)).bind fun t22 =>
(guardV false t22).bind fun g24 => (bif g24 then some p4.1 else some (.tuple [])).bind fun t24 =>
(guardV false t22).bind fun g25 => callP (bif g25 then self.f 33 [t24] p15.2 else some (.ret (.tuple []), p15.2)) fun t25 S25 =>
(guardV false t22).bind fun g26 => (bif g26 then unV .not t25 else some (.tuple [])).bind fun t26 =>
(pickV t22 (some (.bool true)) (some t26)).bind fun t27 =>
ifK t27 (
(buildV E0 24 []).bind fun t28 =>
(stP 5 p0.1 t28 S25).bind fun p29 =>
(ldrA 5 p0.1 p29.2).bind fun p31 =>
some (.ret (.tuple [p31.1, (.int .i64 4)]), p31.2)) (
(ldA 5 p14.1 S25).bind fun p32 =>
callP (self.f 10 [p32.1] p32.2) fun t33 S33 =>
(extractV t33 0).bind fun t35 =>
(extractV t33 1).bind fun t36 =>
(binV E0 .neq 26 false true t36 (.int .i64 0)).bind fun t40 =>
(guardV false t40).bind fun g42 => (bif g42 then some t35 else some (.tuple [])).bind fun t42 =>
(guardV false t40).bind fun g43 => (bif g43 then some x0 else some (.tuple [])).bind fun t43 =>
(guardV false t40).bind fun g44 => (bif g44 then binV E0 .neq 9 false false t42 t43 else some (.tuple [])).bind fun t44 =>
(pickV t40 (some (.bool true)) (some t44)).bind fun t45 =>
ifK t45 (
(buildV E0 24 []).bind fun t46 =>
(stP 5 p0.1 t46 S33).bind fun p47 =>
(ldrA 5 p0.1 p47.2).bind fun p49 =>
some (.ret (.tuple [p49.1, (.int .i64 4)]), p49.2)) (
(ldA 5 p14.1 S33).bind fun p50 =>
(stP 5 p0.1 p50.1 p50.2).bind fun p51 =>
(ldrA 5 p0.1 p51.2).bind fun p53 =>
some (.ret (.tuple [p53.1, (.int .i64 0)]), p53.2))) := by kernel_rfl
end
end Go.Proofs.Ythmkdoaaciamlaa.W
namespace Go.Proofs.Ythmkdoaaciamlaa.W
open Go.Proofs.Ythmkdoaaciamlaa.Ev
set_option maxRecDepth 100000
noncomputable section
noncomputable def C26 : Code := Try.f26.body.getD .skip
noncomputable def B26 : D := (annot C26 [[], []]).1
noncomputable def F26 (self : EV) (N : Nat) (x0 : V) (S : St) : Rs := runF E0 self N Try.f26 B26 [x0] S
theorem F26_eq (self : EV) (N : Nat) (x0 : V) (S : St) : F26 self N x0 S =
(convertV E0 9 37 x0 S).bind fun p2 =>
(buildV E0 74 [(0, p2.1)]).bind fun t3 =>
(boxK 74 t3 p2.2).bind fun p4 =>
some (.ret p4.1, p4.2) := by kernel_rfl
noncomputable def C27 : Code := Try.f27.body.getD .skip
noncomputable def B27 : D := (annot C27 [[]]).1
noncomputable def F27 (self : EV) (N : Nat) (x0 : V) (S : St) : Rs := runF E0 self N Try.f27 B27 [x0] S
theorem F27_eq (self : EV) (N : Nat) (x0 : V) (S : St) : F27 self N x0 S =
(unV .not x0).bind fun t1 =>
ifK t1 (
(buildV E0 51 []).bind fun t2 =>
callP (panicK (.iface 51 t2) S) fun t4 S4 =>
some (.ret (.tuple []), S4)) (
some (.ret (.tuple []), S)) := by kernel_rfl
noncomputable def C28 : Code := Try.f28.body.getD .skip
noncomputable def B28 : D := (annot C28 [[], [], [], [], [], []]).1
noncomputable def F28 (self : EV) (N : Nat) (x0 : V) (S : St) : Rs := runF E0 self N Try.f28 B28 [x0] S
theorem F28_eq (self : EV) (N : Nat) (x0 : V) (S : St) : F28 self N x0 S =
callP (self.f 47 [x0] S) fun t2 S2 =>
(some (nwP 71 1 (one (.int .u64 0)) S2)).bind fun p3 =>
(stP 1 p3.1 t2 p3.2).bind fun p4 =>
(ld1 p3.1 p4.2).bind fun p5 =>
(binV E0 .eql 71 false true p5.1 (.int .u64 0)).bind fun t6 =>
ifK t6 (
some (.ret (sv []), p5.2)) (
callP (self.f 48 [x0, (.fn (.func 49) [] [p3.1])] p5.2) fun t10 S10 =>
(convertV E0 37 9 t10 S10).bind fun p11 =>
some (.ret p11.1, p11.2)) := by kernel_rfl
noncomputable def C30 : Code := Try.f30.body.getD .skip
noncomputable def B30 : D := (annot C30 [[], []]).1
noncomputable def F30 (self : EV) (N : Nat) (x0 : V) (S : St) : Rs := runF E0 self N Try.f30 B30 [x0] S
theorem F30_eq (self : EV) (N : Nat) (x0 : V) (S : St) : F30 self N x0 S =
callP (self.f 53 [x0] S) fun t2 S2 =>
(guardV true t2).bind fun g4 => (bif g4 then some x0 else some (.tuple [])).bind fun t4 =>
(guardV true t2).bind fun g5 => (bif g5 then nilCheckV t4 else some (.tuple [])).bind fun t5 =>
(guardV true t2).bind fun g6 => (bif g6 then faP 0 false 1 t5 else some (.tuple [])).bind fun t6 =>
(guardV true t2).bind fun g7 => (bif g7 then ld1 t6 S2 else some (.tuple [], S2)).bind fun p7 =>
(guardV true t2).bind fun g8 => (bif g8 then lnS p7.1 p7.2 else some (.tuple [], p7.2)).bind fun p8 =>
(guardV true t2).bind fun g9 => (bif g9 then binV E0 .eql 3 false true p8.1 (.int .i64 0) else some (.tuple [])).bind fun t9 =>
(pickV t2 (some t9) (some (.bool false))).bind fun t10 =>
some (.ret t10, p8.2) := by kernel_rfl
noncomputable def C47 : Code := Try.f47.body.getD .skip
noncomputable def B47 : D := (annot C47 [[], [], [2, 6, 7, 8], [], [2], [], [], [], [0, 2], [2], []]).1
noncomputable def RL47 : List Nat := cellsOf Try.f47.results.toList
noncomputable def R47_1 (self : EV) (N : Nat) (nk : Ac → St → Rs) (ek : Nat → Ac → St → Rs) (a : Ac) (S : St) : Rs := projK [2] a fun a => dr E0 self RL47 N (B47.r).r (mkK E0 self Try.f47 nk ek) a S
theorem R47_1_eq (self : EV) (N : Nat) (nk : Ac → St → Rs) (ek : Nat → Ac → St → Rs) ( v2 : V) (S : St) : R47_1 self N nk ek (fr 20 [(2, v2)]) S =
some (.ret v2, S) := by kernel_rfl
noncomputable def L47_8 (self : EV) (N : Nat) (nk : Ac → St → Rs) (ek : Nat → Ac → St → Rs) (n : Nat) ( v2 v6 v7 v8 : V) (S : St) : Rs := loopK [2, 6, 7, 8] (dr E0 self RL47 N (B47.r.l.r.l.l)) (mkK E0 self Try.f47 nk ek) n (fr 20 [(2, v2), (6, v6), (7, v7), (8, v8)]) S
theorem L47_8_eq (self : EV) (N : Nat) (nk : Ac → St → Rs) (ek : Nat → Ac → St → Rs) (n : Nat) ( v2 v6 v7 v8 : V) (S : St) : L47_8 self N nk ek (n + 1) v2 v6 v7 v8 S =
(binV E0 .lss 3 false false v8 v7).bind fun t9 =>
ifK t9 (
(ixP 1 v6 v8).bind fun t10 =>
(ld1 t10 S).bind fun p11 =>
(binV E0 .mul 71 false true v2 (.int .u64 128)).bind fun t14 =>
(binV E0 .rem 5 false true p11.1 (.int .u8 128)).bind fun t16 =>
(cvI .u64 t16 p11.2).bind fun p17 =>
(binV E0 .add 71 false false t14 p17.1).bind fun t18 =>
(binV E0 .add 3 false true v8 (.int .i64 1)).bind fun t20 =>
L47_8 self N nk ek n t18 v6 v7 t20 p17.2) (
ek 0 (fr 20 [(2, v2)]) S) := by kernel_rfl
noncomputable def F47 (self : EV) (N : Nat) (x0 : V) (S : St) : Rs := runF E0 self N Try.f47 B47 [x0] S
theorem F47_eq (self : EV) (N : Nat) (x0 : V) (S : St) : F47 self N x0 S =
callP (self.f 48 [x0, (.fn (.func 69) [] [])] S) fun t5 S5 =>
(lnS t5 S5).bind fun p6 =>
L47_8 self N (R47_1 self N (finN E0 self Try.f47) noEx) (exB 0 (R47_1 self N (finN E0 self Try.f47) noEx) noEx) N (.int .u64 0) t5 p6.1 (.int .i64 0) p6.2 := by kernel_rfl
noncomputable def C48 : Code := Try.f48.body.getD .skip
noncomputable def B48 : D := (annot C48 [[], [], [], [], [], [], [], [], [], [], [], []]).1
noncomputable def F48 (self : EV) (N : Nat) (x0 x1 : V) (S : St) : Rs := runF E0 self N Try.f48 B48 [x0, x1] S
theorem F48_eq (self : EV) (N : Nat) (x0 x1 : V) (S : St) : F48 self N x0 x1 S =
(binV E0 .eql 54 false true x0 .nilptr).bind fun t2 =>
ifK t2 (
some (.ret .nilslice, S)) (
(nilCheckV x0).bind fun t6 =>
(faP 0 false 1 t6).bind fun t7 =>
(ld1 t7 S).bind fun p8 =>
callP (callK E0 self x1 [p8.1] p8.2) fun t9 S9 =>
(binV E0 .leq 3 false true t9 (.int .i64 0)).bind fun t12 =>
(guardV false t12).bind fun g14 => (bif g14 then some t9 else some (.tuple [])).bind fun t14 =>
(guardV false t12).bind fun g15 => (bif g15 then some x0 else some (.tuple [])).bind fun t15 =>
(guardV false t12).bind fun g16 => (bif g16 then nilCheckV t15 else some (.tuple [])).bind fun t16 =>
(guardV false t12).bind fun g17 => (bif g17 then faP 0 false 1 t16 else some (.tuple [])).bind fun t17 =>
(guardV false t12).bind fun g18 => (bif g18 then ld1 t17 S9 else some (.tuple [], S9)).bind fun p18 =>
(guardV false t12).bind fun g19 => (bif g19 then lnS p18.1 p18.2 else some (.tuple [], p18.2)).bind fun p19 =>
(guardV false t12).bind fun g20 => (bif g20 then binV E0 .gtr 3 false false t14 p19.1 else some (.tuple [])).bind fun t20 =>
(pickV t12 (some (.bool true)) (some t20)).bind fun t21 =>
ifK t21 (
(nilCheckV x0).bind fun t24 =>
(faP 0 false 1 t24).bind fun t25 =>
(stP 1 t25 .nilslice p19.2).bind fun p26 =>
(nilCheckV x0).bind fun t27 =>
(faP 1 false 1 t27).bind fun t28 =>
(stP 1 t28 (.bool true) p26.2).bind fun p29 =>
some (.ret .nilslice, p29.2)) (
(nilCheckV x0).bind fun t32 =>
(faP 0 false 1 t32).bind fun t33 =>
(ld1 t33 p19.2).bind fun p34 =>
(sliceV E0 37 p34.1 none (some t9) none p34.2).bind fun p36 =>
(nilCheckV x0).bind fun t40 =>
(faP 0 false 1 t40).bind fun t41 =>
(ld1 t41 p36.2).bind fun p42 =>
(sliceV E0 37 p42.1 (some t9) none none p42.2).bind fun p44 =>
(nilCheckV x0).bind fun t45 =>
(faP 0 false 1 t45).bind fun t46 =>
(stP 1 t46 p44.1 p44.2).bind fun p47 =>
some (.ret p36.1, p47.2))) := by kernel_rfl
noncomputable def C49 : Code := Try.f49.body.getD .skip
noncomputable def B49 : D := (annot C49 [[], []]).1
noncomputable def F49 (self : EV) (N : Nat) (x0 x1 : V) (S : St) : Rs := runF E0 self N Try.f49 B49 [x0, x1] S
theorem F49_eq (self : EV) (N : Nat) (x0 x1 : V) (S : St) : F49 self N x0 x1 S =
(ld1 x1 S).bind fun p1 =>
(lnS x0 p1.2).bind fun p3 =>
(cvI .u64 p3.1 p3.2).bind fun p4 =>
(binV E0 .add 71 false true p4.1 (.int .u64 1)).bind fun t5 =>
(foldK minV p1.1 [t5] p4.2).bind fun p6 =>
(cvI .i64 p6.1 p6.2).bind fun p7 =>
some (.ret p7.1, p7.2) := by kernel_rfl
noncomputable def C53 : Code := Try.f53.body.getD .skip
noncomputable def B53 : D := (annot C53 [[], []]).1
noncomputable def F53 (self : EV) (N : Nat) (x0 : V) (S : St) : Rs := runF E0 self N Try.f53 B53 [x0] S
theorem F53_eq (self : EV) (N : Nat) (x0 : V) (S : St) : F53 self N x0 S =
(binV E0 .neq 54 false true x0 .nilptr).bind fun t2 =>
(guardV true t2).bind fun g4 => (bif g4 then some x0 else some (.tuple [])).bind fun t4 =>
(guardV true t2).bind fun g5 => (bif g5 then nilCheckV t4 else some (.tuple [])).bind fun t5 =>
(guardV true t2).bind fun g6 => (bif g6 then faP 1 false 1 t5 else some (.tuple [])).bind fun t6 =>
(guardV true t2).bind fun g7 => (bif g7 then ld1 t6 S else some (.tuple [], S)).bind fun p7 =>
(guardV true t2).bind fun g8 => (bif g8 then unV .not p7.1 else some (.tuple [])).bind fun t8 =>
(pickV t2 (some t8) (some (.bool false))).bind fun t9 =>
some (.ret t9, p7.2) := by kernel_rfl
noncomputable def C69 : Code := Try.f69.body.getD .skip
noncomputable def B69 : D := (annot C69 [[], [], [0, 5, 6, 7], [], [], [], [], [], [], [], [], [], [], [], [0], [2], []]).1
noncomputable def RL69 : List Nat := cellsOf Try.f69.results.toList
noncomputable def R69_1 (self : EV) (N : Nat) (nk : Ac → St → Rs) (ek : Nat → Ac → St → Rs) (a : Ac) (S : St) : Rs := projK [] a fun a => dr E0 self RL69 N (B69.r).r (mkK E0 self Try.f69 nk ek) a S
theorem R69_1_eq (self : EV) (N : Nat) (nk : Ac → St → Rs) (ek : Nat → Ac → St → Rs) (S : St) : R69_1 self N nk ek (fr 35 []) S =
some (.ret (.int .i64 0), S) := by kernel_rfl
noncomputable def L69_6 (self : EV) (N : Nat) (nk : Ac → St → Rs) (ek : Nat → Ac → St → Rs) (n : Nat) ( v0 v5 v6 v7 : V) (S : St) : Rs := loopK [0, 5, 6, 7] (dr E0 self RL69 N (B69.r.l.r.l.l)) (mkK E0 self Try.f69 nk ek) n (fr 35 [(0, v0), (5, v5), (6, v6), (7, v7)]) S
theorem L69_6_eq (self : EV) (N : Nat) (nk : Ac → St → Rs) (ek : Nat → Ac → St → Rs) (n : Nat) ( v0 v5 v6 v7 : V) (S : St) : L69_6 self N nk ek (n + 1) v0 v5 v6 v7 S =
(binV E0 .lss 3 false false v7 v6).bind fun t7 =>
ifK t7 (
(ixP 1 v5 v7).bind fun t9 =>
(ld1 t9 S).bind fun p10 =>
(binV E0 .eql 3 false true v7 (.int .i64 0)).bind fun t14 =>
(guardV true t14).bind fun g16 => (bif g16 then some p10.1 else some (.tuple [])).bind fun t16 =>
(guardV true t14).bind fun g17 => (bif g17 then binV E0 .eql 5 false true t16 (.int .u8 128) else some (.tuple [])).bind fun t17 =>
(pickV t14 (some t17) (some (.bool false))).bind fun t18 =>
ifK t18 (
ifK t18 (
some (.ret (.int .i64 0), p10.2)) (
(binV E0 .lss 5 false true p10.1 (.int .u8 128)).bind fun t22 =>
ifK t22 (
(binV E0 .add 3 false true v7 (.int .i64 1)).bind fun t25 =>
some (.ret t25, p10.2)) (
(binV E0 .add 3 false true v7 (.int .i64 1)).bind fun t27 =>
L69_6 self N nk ek n v0 v5 v6 t27 p10.2))) (
(binV E0 .eql 3 false true v7 (.int .i64 9)).bind fun t30 =>
(guardV true t30).bind fun g32 => (bif g32 then some v0 else some (.tuple [])).bind fun t32 =>
(guardV true t30).bind fun g33 => (bif g33 then ixP 1 t32 (.int .i64 0) else some (.tuple [])).bind fun t33 =>
(guardV true t30).bind fun g34 => (bif g34 then ld1 t33 p10.2 else some (.tuple [], p10.2)).bind fun p34 =>
(guardV true t30).bind fun g35 => (bif g35 then binV E0 .gtr 5 false true p34.1 (.int .u8 129) else some (.tuple [])).bind fun t35 =>
(pickV t30 (some t35) (some (.bool false))).bind fun t36 =>
ifK t36 (
ifK t36 (
some (.ret (.int .i64 0), p34.2)) (
(binV E0 .lss 5 false true p10.1 (.int .u8 128)).bind fun t40 =>
ifK t40 (
(binV E0 .add 3 false true v7 (.int .i64 1)).bind fun t43 =>
some (.ret t43, p34.2)) (
(binV E0 .add 3 false true v7 (.int .i64 1)).bind fun t45 =>
L69_6 self N nk ek n v0 v5 v6 t45 p34.2))) (
(binV E0 .eql 3 false true v7 (.int .i64 10)).bind fun t48 =>
ifK t48 (
some (.ret (.int .i64 0), p34.2)) (
(binV E0 .lss 5 false true p10.1 (.int .u8 128)).bind fun t52 =>
ifK t52 (
(binV E0 .add 3 false true v7 (.int .i64 1)).bind fun t55 =>
some (.ret t55, p34.2)) (
(binV E0 .add 3 false true v7 (.int .i64 1)).bind fun t57 =>
L69_6 self N nk ek n v0 v5 v6 t57 p34.2))))) (
ek 0 (fr 35 []) S) := by kernel_rfl
noncomputable def F69 (self : EV) (N : Nat) (x0 : V) (S : St) : Rs := runF E0 self N Try.f69 B69 [x0] S
theorem F69_eq (self : EV) (N : Nat) (x0 : V) (S : St) : F69 self N x0 S =
(lnS x0 S).bind fun p4 =>
L69_6 self N (R69_1 self N (finN E0 self Try.f69) noEx) (exB 0 (R69_1 self N (finN E0 self Try.f69) noEx) noEx) N x0 x0 p4.1 (.int .i64 0) p4.2 := by kernel_rfl
end
end Go.Proofs.Ythmkdoaaciamlaa.W
namespace Go.Proofs.Ythmkdoaaciamlaa.W
open Go.Proofs.Ythmkdoaaciamlaa.Ev
set_option maxRecDepth 100000
noncomputable section
noncomputable def C29 : Code := Try.f29.body.getD .skip
noncomputable def B29 : D := (annot C29 [[], [], [], [], [], [], [], [], []]).1
noncomputable def F29 (self : EV) (N : Nat) (x0 : V) (S : St) : Rs := runF E0 self N Try.f29 B29 [x0] S
theorem F29_eq (self : EV) (N : Nat) (x0 : V) (S : St) : F29 self N x0 S =
(some (nwP 24 5 (Tr.ofListFrom .nil [(sv []), (.int .i64 0), (.bool false), (sv []), .nilslice] 0) S)).bind fun p0 =>
(nilCheckV x0).bind fun t2 =>
(faP 0 false 1 t2).bind fun t3 =>
(ld1 t3 p0.2).bind fun p4 =>
callP (self.f 47 [p4.1] p4.2) fun t5 S5 =>
(binV E0 .leq 71 false true t5 (.int .u64 3)).bind fun t8 =>
callP (self.f 27 [t8] S5) fun t9 S9 =>
(cvI .i64 t5 S9).bind fun p11 =>
(buildV E0 24 [(1, p11.1)]).bind fun t12 =>
(some (nwP 24 5 (Tr.ofListFrom .nil [(sv []), (.int .i64 0), (.bool false), (sv []), .nilslice] 0) p11.2)).bind fun p13 =>
(stP 5 p13.1 t12 p13.2).bind fun p14 =>
(makeMapK E0 80 none p14.2).bind fun p15 =>
(vu (updateV E0 80 p15.1 (.int .i64 1) (.fn (.func 50) [x0] []) p15.2)).bind fun p18 =>
(vu (updateV E0 80 p15.1 (.int .i64 3) (.fn (.func 51) [x0] []) p18.2)).bind fun p21 =>
(vu (updateV E0 80 p15.1 (.int .i64 2) (.fn (.func 52) [x0] []) p21.2)).bind fun p24 =>
(faP 1 false 1 p13.1).bind fun t26 =>
(ld1 t26 p24.2).bind fun p27 =>
(lookupV E0 80 p15.1 p27.1 true p27.2).bind fun p28 =>
(extractV p28.1 0).bind fun t30 =>
(extractV p28.1 1).bind fun t31 =>
callP (self.f 27 [t31] p28.2) fun t35 S35 =>
callP (callK E0 self t30 [p13.1] S35) fun t37 S37 =>
(nilCheckV x0).bind fun t39 =>
(faP 0 false 1 t39).bind fun t40 =>
(ld1 t40 S37).bind fun p41 =>
callP (self.f 53 [p41.1] p41.2) fun t42 S42 =>
callP (self.f 27 [t42] S42) fun t43 S43 =>
(ldA 5 p13.1 S43).bind fun p44 =>
(stP 5 p0.1 p44.1 p44.2).bind fun p45 =>
(ldrA 5 p0.1 p45.2).bind fun p46 =>
some (.ret p46.1, p46.2) := by kernel_rfl
noncomputable def C50 : Code := Try.f50.body.getD .skip
noncomputable def B50 : D := (annot C50 [[], []]).1
noncomputable def F50 (self : EV) (N : Nat) (x0 x1 : V) (S : St) : Rs := runF E0 self N Try.f50 B50 [x0, x1] S
theorem F50_eq (self : EV) (N : Nat) (x0 x1 : V) (S : St) : F50 self N x0 x1 S =
(nilCheckV x0).bind fun t1 =>
(faP 0 false 1 t1).bind fun t2 =>
(ld1 t2 S).bind fun p3 =>
callP (self.f 47 [p3.1] p3.2) fun t4 S4 =>
(binV E0 .leq 71 false true t4 (.int .u64 1)).bind fun t7 =>
callP (self.f 27 [t7] S4) fun t8 S8 =>
(binV E0 .eql 71 false true t4 (.int .u64 1)).bind fun t12 =>
(nilCheckV x0).bind fun t14 =>
(faP 0 false 1 t14).bind fun t15 =>
(ld1 t15 S8).bind fun p16 =>
callP (self.f 28 [p16.1] p16.2) fun t17 S17 =>
(nilCheckV x1).bind fun t18 =>
(faP 2 false 1 t18).bind fun t19 =>
(stP 1 t19 t12 S17).bind fun p20 =>
(nilCheckV x1).bind fun t21 =>
(faP 3 false 1 t21).bind fun t22 =>
(stP 1 t22 t17 p20.2).bind fun p23 =>
some (.ret (.tuple []), p23.2) := by kernel_rfl
noncomputable def C51 : Code := Try.f51.body.getD .skip
noncomputable def B51 : D := (annot C51 []).1
noncomputable def F51 (self : EV) (N : Nat) (x0 x1 : V) (S : St) : Rs := runF E0 self N Try.f51 B51 [x0, x1] S
theorem F51_eq (self : EV) (N : Nat) (x0 x1 : V) (S : St) : F51 self N x0 x1 S =
(nilCheckV x0).bind fun t2 =>
(faP 0 false 1 t2).bind fun t3 =>
(ld1 t3 S).bind fun p4 =>
callP (self.f 28 [p4.1] p4.2) fun t5 S5 =>
(nilCheckV x1).bind fun t6 =>
(faP 3 false 1 t6).bind fun t7 =>
(stP 1 t7 t5 S5).bind fun p8 =>
some (.ret (.tuple []), p8.2) := by kernel_rfl
noncomputable def C52 : Code := Try.f52.body.getD .skip
noncomputable def B52 : D := (annot C52 [[], [], [], [], [0, 1, 29, 30], [], [0], [], [], [], [], [], [0, 0], []]).1
noncomputable def RL52 : List Nat := cellsOf Try.f52.results.toList
noncomputable def R52_24 (self : EV) (N : Nat) (nk : Ac → St → Rs) (ek : Nat → Ac → St → Rs) (a : Ac) (S : St) : Rs := projK [0] a fun a => dr E0 self RL52 N (B52.r.r.r).r (mkK E0 self Try.f52 nk ek) a S
theorem R52_24_eq (self : EV) (N : Nat) (nk : Ac → St → Rs) (ek : Nat → Ac → St → Rs) ( v0 : V) (S : St) : R52_24 self N nk ek (fr 60 [(0, v0)]) S =
(nilCheckV v0).bind fun t26 =>
(faP 1 false 1 t26).bind fun t27 =>
(ld1 t27 S).bind fun p28 =>
(binV E0 .sub 3 false true p28.1 (.int .i64 1)).bind fun t29 =>
(nilCheckV v0).bind fun t30 =>
(faP 1 false 1 t30).bind fun t31 =>
(stP 1 t31 t29 p28.2).bind fun p32 =>
nk (fr 60 []) p32.2 := by kernel_rfl
noncomputable def L52_35 (self : EV) (N : Nat) (nk : Ac → St → Rs) (ek : Nat → Ac → St → Rs) (n : Nat) ( v0 v1 v29 v30 : V) (S : St) : Rs := loopK [0, 1, 29, 30] (dr E0 self RL52 N (B52.r.r.r.l.r.l.l)) (mkK E0 self Try.f52 nk ek) n (fr 60 [(0, v0), (1, v1), (29, v29), (30, v30)]) S
theorem L52_35_eq (self : EV) (N : Nat) (nk : Ac → St → Rs) (ek : Nat → Ac → St → Rs) (n : Nat) ( v0 v1 v29 v30 : V) (S : St) : L52_35 self N nk ek (n + 1) v0 v1 v29 v30 S =
(binV E0 .lss 71 false false v30 v29).bind fun t36 =>
ifK t36 (
(nilCheckV v0).bind fun t38 =>
(faP 0 false 1 t38).bind fun t39 =>
(ld1 t39 S).bind fun p40 =>
callP (self.f 28 [p40.1] p40.2) fun t41 S41 =>
callP (self.f 29 [v0] S41) fun t44 S44 =>
(some (nwP 24 5 (Tr.ofListFrom .nil [(sv []), (.int .i64 0), (.bool false), (sv []), .nilslice] 0) S44)).bind fun p45 =>
(stP 5 p45.1 t44 p45.2).bind fun p46 =>
(faP 0 false 1 p45.1).bind fun t48 =>
(stP 1 t48 t41 p46.2).bind fun p49 =>
(nilCheckV v1).bind fun t51 =>
(faP 4 false 1 t51).bind fun t52 =>
(ld1 t52 (onS p49.2)).bind fun p53 =>
(ldA 5 p45.1 (onS p53.2)).bind fun p54 =>
(lnS p53.1 (onS p54.2)).bind fun p55 =>
(bsP 24 5 1 (Tr.ofListFrom .nil [(sv []), (.int .i64 0), (.bool false), (sv []), .nilslice] 0) [(0, (vAgg [(sv []), (.int .i64 0), (.bool false), (sv []), .nilslice]))] (onS p55.2)).bind fun p56 =>
(apP 24 5 72 p53.1 p56.1 (onS p56.2)).bind fun p57 =>
(ixP 5 p57.1 p55.1).bind fun t58 =>
(stP 5 t58 p54.1 (onS p57.2)).bind fun p59 =>
(nilCheckV v1).bind fun t60 =>
(faP 4 false 1 t60).bind fun t61 =>
(stP 1 t61 p57.1 (onS p59.2)).bind fun p62 =>
endP [(3, [4, 6]), (4, [5, 6]), (5, [6]), (9, [12])] p49.2 [[], [], [], p53.2.log, p54.2.log, p55.2.log, p56.2.log, p57.2.log, [], p59.2.log, [], [], p62.2.log] p62.2 fun S63 =>
(binV E0 .add 71 false true v30 (.int .u64 1)).bind fun t64 =>
L52_35 self N nk ek n v0 v1 v29 t64 S63) (
ek 0 (fr 60 [(0, v0)]) S) := by kernel_rfl
noncomputable def F52 (self : EV) (N : Nat) (x0 x1 : V) (S : St) : Rs := runF E0 self N Try.f52 B52 [x0, x1] S
theorem F52_eq (self : EV) (N : Nat) (x0 x1 : V) (S : St) : F52 self N x0 x1 S =
(nilCheckV x0).bind fun t1 =>
(faP 0 false 1 t1).bind fun t2 =>
(ld1 t2 S).bind fun p3 =>
callP (self.f 47 [p3.1] p3.2) fun t4 S4 =>
(binV E0 .leq 71 false true t4 (.int .u64 2000)).bind fun t7 =>
(guardV true t7).bind fun g9 => (bif g9 then some x0 else some (.tuple [])).bind fun t9 =>
(guardV true t7).bind fun g10 => (bif g10 then nilCheckV t9 else some (.tuple [])).bind fun t10 =>
(guardV true t7).bind fun g11 => (bif g11 then faP 1 false 1 t10 else some (.tuple [])).bind fun t11 =>
(guardV true t7).bind fun g12 => (bif g12 then ld1 t11 S4 else some (.tuple [], S4)).bind fun p12 =>
(guardV true t7).bind fun g13 => (bif g13 then binV E0 .leq 3 false true p12.1 (.int .i64 12) else some (.tuple [])).bind fun t13 =>
(pickV t7 (some t13) (some (.bool false))).bind fun t14 =>
callP (self.f 27 [t14] p12.2) fun t15 S15 =>
(nilCheckV x0).bind fun t17 =>
(faP 1 false 1 t17).bind fun t18 =>
(ld1 t18 S15).bind fun p19 =>
(binV E0 .add 3 false true p19.1 (.int .i64 1)).bind fun t20 =>
(nilCheckV x0).bind fun t21 =>
(faP 1 false 1 t21).bind fun t22 =>
(stP 1 t22 t20 p19.2).bind fun p23 =>
L52_35 self N (R52_24 self N (finN E0 self Try.f52) noEx) (exB 0 (R52_24 self N (finN E0 self Try.f52) noEx) noEx) N x0 x1 t4 (.int .u64 0) p23.2 := by kernel_rfl
end
end Go.Proofs.Ythmkdoaaciamlaa.W
namespace Go.Proofs.Ythmkdoaaciamlaa.W
open Go.Proofs.Ythmkdoaaciamlaa.Ev
set_option maxRecDepth 100000
noncomputable section
noncomputable def C12 : Code := Try.f12.body.getD .skip
noncomputable def B12 : D := (annot C12 [[], [], [], [], [], [], [], []]).1
noncomputable def F12 (self : EV) (N : Nat) (x0 : V) (S : St) : Rs := runF E0 self N Try.f12 B12 [x0] S
theorem F12_eq (self : EV) (N : Nat) (x0 : V) (S : St) : F12 self N x0 S =
(some (nwP 24 5 (Tr.ofListFrom .nil [(sv []), (.int .i64 0), (.bool false), (sv []), .nilslice] 0) S)).bind fun p0 =>
(some (nwP 26 1 (one (.int .i64 0)) p0.2)).bind fun p1 =>
callPF E0 self Try.f12 (frD 42 [(0, x0), (2, p0.1), (3, p1.1), (7, (.fn (.func 25) [] [p0.1, p1.1])), (8, x0)] (adOf (.fn (.func 25) [] [p0.1, p1.1]) [] :: [])) (self.f 26 [x0] p1.2) fun t5 S5 =>
(buildV E0 57 [(0, t5)]).bind fun t6 =>
(boxK 57 t6 S5).bind fun p7 =>
(nilCheckV p7.1).bind fun t10 =>
(faP 0 false 1 t10).bind fun t11 =>
(ld1 t11 p7.2).bind fun p12 =>
callPF E0 self Try.f12 (frD 42 [(0, x0), (2, p0.1), (3, p1.1), (4, p7.1), (7, (.fn (.func 25) [] [p0.1, p1.1])), (8, x0), (9, t5), (10, t6), (11, p7.1), (12, p7.1), (13, t10), (14, t11), (15, p12.1)] (adOf (.fn (.func 25) [] [p0.1, p1.1]) [] :: [])) (self.f 28 [p12.1] p12.2) fun t13 S13 =>
(binV E0 .eql 9 false true t13 (sv [119, 104, 105, 115, 107, 45, 116, 114, 101, 101])).bind fun t14 =>
callPF E0 self Try.f12 (frD 42 [(0, x0), (2, p0.1), (3, p1.1), (4, p7.1), (7, (.fn (.func 25) [] [p0.1, p1.1])), (8, x0), (9, t5), (10, t6), (11, p7.1), (12, p7.1), (13, t10), (14, t11), (15, p12.1), (16, t13), (17, t14)] (adOf (.fn (.func 25) [] [p0.1, p1.1]) [] :: [])) (self.f 27 [t14] S13) fun t15 S15 =>
callPF E0 self Try.f12 (frD 42 [(0, x0), (2, p0.1), (3, p1.1), (4, p7.1), (7, (.fn (.func 25) [] [p0.1, p1.1])), (8, x0), (9, t5), (10, t6), (11, p7.1), (12, p7.1), (13, t10), (14, t11), (15, p12.1), (16, t13), (17, t14), (18, t15), (19, p7.1)] (adOf (.fn (.func 25) [] [p0.1, p1.1]) [] :: [])) (self.f 29 [p7.1] S15) fun t17 S17 =>
(stP 5 p0.1 t17 S17).bind fun p18 =>
(ldA 5 p0.1 p18.2).bind fun p19 =>
callPF E0 self Try.f12 (frD 42 [(0, x0), (2, p0.1), (3, p1.1), (4, p7.1), (7, (.fn (.func 25) [] [p0.1, p1.1])), (8, x0), (9, t5), (10, t6), (11, p7.1), (12, p7.1), (13, t10), (14, t11), (15, p12.1), (16, t13), (17, t14), (18, t15), (19, p7.1), (20, t17), (22, p19.1)] (adOf (.fn (.func 25) [] [p0.1, p1.1]) [] :: [])) (self.f 9 [p19.1] p19.2) fun t20 S20 =>
(extractV t20 0).bind fun t22 =>
(extractV t20 1).bind fun t23 =>
(nilCheckV p7.1).bind fun t27 =>
(faP 0 false 1 t27).bind fun t28 =>
(ld1 t28 S20).bind fun p29 =>
callPF E0 self Try.f12 (frD 42 [(0, x0), (2, p0.1), (3, p1.1), (4, p7.1), (5, t22), (6, t23), (7, (.fn (.func 25) [] [p0.1, p1.1])), (8, x0), (9, t5), (10, t6), (11, p7.1), (12, p7.1), (13, t10), (14, t11), (15, p12.1), (16, t13), (17, t14), (18, t15), (19, p7.1), (20, t17), (21, t20), (22, p19.1), (23, t20), (24, t22), (25, t23), (26, p7.1), (27, t27), (28, t28), (29, p29.1)] (adOf (.fn (.func 25) [] [p0.1, p1.1]) [] :: [])) (self.f 30 [p29.1] p29.2) fun t30 S30 =>
(guardV true t30).bind fun g32 => (bif g32 then some t23 else some (.tuple [])).bind fun t32 =>
(guardV true t30).bind fun g33 => (bif g33 then binV E0 .eql 26 false true t32 (.int .i64 0) else some (.tuple [])).bind fun t33 =>
(pickV t30 (some t33) (some (.bool false))).bind fun t34 =>
(guardV true t34).bind fun g36 => (bif g36 then some t22 else some (.tuple [])).bind fun t36 =>
(guardV true t34).bind fun g37 => (bif g37 then some x0 else some (.tuple [])).bind fun t37 =>
(guardV true t34).bind fun g38 => (bif g38 then binV E0 .eql 9 false false t36 t37 else some (.tuple [])).bind fun t38 =>
(pickV t34 (some t38) (some (.bool false))).bind fun t39 =>
callPF E0 self Try.f12 (frD 42 [(0, x0), (2, p0.1), (3, p1.1), (4, p7.1), (5, t22), (6, t23), (7, (.fn (.func 25) [] [p0.1, p1.1])), (8, x0), (9, t5), (10, t6), (11, p7.1), (12, p7.1), (13, t10), (14, t11), (15, p12.1), (16, t13), (17, t14), (18, t15), (19, p7.1), (20, t17), (21, t20), (22, p19.1), (23, t20), (24, t22), (25, t23), (26, p7.1), (27, t27), (28, t28), (29, p29.1), (30, t30), (31, t30), (32, t32), (33, t33), (34, t34), (35, t34), (36, t36), (37, t37), (38, t38), (39, t39)] (adOf (.fn (.func 25) [] [p0.1, p1.1]) [] :: [])) (self.f 27 [t39] S30) fun t40 S40 =>
(ldA 5 p0.1 S40).bind fun p41 =>
(stP 5 p0.1 p41.1 p41.2).bind fun p42 =>
(stP 1 p1.1 (.int .i64 0) p42.2).bind fun p43 =>
finR E0 self Try.f12 (frD 42 [(0, x0), (2, p0.1), (3, p1.1), (4, p7.1), (5, t22), (6, t23), (7, (.fn (.func 25) [] [p0.1, p1.1])), (8, x0), (9, t5), (10, t6), (11, p7.1), (12, p7.1), (13, t10), (14, t11), (15, p12.1), (16, t13), (17, t14), (18, t15), (19, p7.1), (20, t17), (21, t20), (22, p19.1), (23, t20), (24, t22), (25, t23), (26, p7.1), (27, t27), (28, t28), (29, p29.1), (30, t30), (31, t30), (32, t32), (33, t33), (34, t34), (35, t34), (36, t36), (37, t37), (38, t38), (39, t39), (40, t40), (41, p41.1)] (adOf (.fn (.func 25) [] [p0.1, p1.1]) [] :: [])) p43.2 := by kernel_rfl
theorem E25r (self : EV) (fn : Func) (a : Ac) (ds : List AD) (x0 x1 : V) (S : St) : lvK E0 self fn a (ad 25 [] [x0, x1] :: ds) .ret S =
(binV E0 .neq 20 false true .niliface .niliface).bind fun t3 =>
(ifK t3 (
(assertK E0 51 true .niliface).bind fun t5 =>
(extractV t5 0).bind fun t7 =>
(extractV t5 1).bind fun t8 =>
(some (nwP 51 0 (Tr.ofListFrom .nil [] 0) S)).bind fun p9 =>
(stP 0 p9.1 t7 p9.2).bind fun p10 =>
(unV .not t8).bind fun t13 =>
(ifK t13 (
callE (panicK .niliface p10.2) fun t15 S15 =>
(buildV E0 24 []).bind fun t16 =>
(stP 5 x0 t16 S15).bind fun p17 =>
(stP 1 x1 (.int .i64 4) p17.2).bind fun p18 =>
lvK E0 self fn a ds .ret p18.2) (
(buildV E0 24 []).bind fun t19 =>
(stP 5 x0 t19 p10.2).bind fun p20 =>
(stP 1 x1 (.int .i64 4) p20.2).bind fun p21 =>
lvK E0 self fn a ds .ret p21.2))) (
lvK E0 self fn a ds .ret S)) := by kernel_rfl
theorem E25p (self : EV) (fn : Func) (a : Ac) (ds : List AD) (x0 x1 : V) (v : V) (S : St) : lvK E0 self fn a (ad 25 [] [x0, x1] :: ds) (.pan v) S =
(binV E0 .neq 20 false true v .niliface).bind fun t3 =>
(ifK t3 (
(assertK E0 51 true v).bind fun t5 =>
(extractV t5 0).bind fun t7 =>
(extractV t5 1).bind fun t8 =>
(some (nwP 51 0 (Tr.ofListFrom .nil [] 0) S)).bind fun p9 =>
(stP 0 p9.1 t7 p9.2).bind fun p10 =>
(unV .not t8).bind fun t13 =>
(ifK t13 (
callE (panicK v p10.2) fun t15 S15 =>
(buildV E0 24 []).bind fun t16 =>
(stP 5 x0 t16 S15).bind fun p17 =>
(stP 1 x1 (.int .i64 4) p17.2).bind fun p18 =>
lvK E0 self fn a ds .ret p18.2) (
(buildV E0 24 []).bind fun t19 =>
(stP 5 x0 t19 p10.2).bind fun p20 =>
(stP 1 x1 (.int .i64 4) p20.2).bind fun p21 =>
lvK E0 self fn a ds .ret p21.2))) (
lvK E0 self fn a ds .ret S)) := by kernel_rfl
end
end Go.Proofs.Ythmkdoaaciamlaa.W
namespace Go.Proofs.Ythmkdoaaciamlaa.W
open Go.Proofs.Ythmkdoaaciamlaa.Ev
set_option maxRecDepth 100000
noncomputable section
noncomputable def C14 : Code := Try.f14.body.getD .skip
noncomputable def B14 : D := (annot C14 [[], [], [], [], [], [], [], [], [2, 3, 5], [], [], [], [], [], [], [0], [4], []]).1
noncomputable def RL14 : List Nat := cellsOf Try.f14.results.toList
noncomputable def R14_48 (self : EV) (N : Nat) (nk : Ac → St → Rs) (ek : Nat → Ac → St → Rs) (a : Ac) (S : St) : Rs := projK [] a fun a => dr E0 self RL14 N (B14.r.r.r).r (mkK E0 self Try.f14 nk ek) a S
theorem R14_48_eq (self : EV) (N : Nat) (nk : Ac → St → Rs) (ek : Nat → Ac → St → Rs) (S : St) : R14_48 self N nk ek (fr 68 []) S =
some (.ret (.bool true), S) := by kernel_rfl
noncomputable def L14_51 (self : EV) (N : Nat) (nk : Ac → St → Rs) (ek : Nat → Ac → St → Rs) (n : Nat) ( v2 v3 v5 : V) (S : St) : Rs := loopK [2, 3, 5] (dr E0 self RL14 N (B14.r.r.r.l.r.l.l)) (mkK E0 self Try.f14 nk ek) n (fr 68 [(2, v2), (3, v3), (5, v5)]) S
theorem L14_51_eq (self : EV) (N : Nat) (nk : Ac → St → Rs) (ek : Nat → Ac → St → Rs) (n : Nat) ( v2 v3 v5 : V) (S : St) : L14_51 self N nk ek (n + 1) v2 v3 v5 S =
(faP 4 false 1 v2).bind fun t53 =>
(ld1 t53 S).bind fun p54 =>
(lnS p54.1 p54.2).bind fun p55 =>
(binV E0 .lss 3 false false v5 p55.1).bind fun t56 =>
ifK t56 (
(faP 4 false 1 v2).bind fun t57 =>
(ld1 t57 (onS p55.2)).bind fun p58 =>
(ixP 5 p58.1 v5).bind fun t60 =>
(ldA 5 t60 (onS p58.2)).bind fun p61 =>
(faP 4 false 1 v3).bind fun t62 =>
(ld1 t62 (onS p61.2)).bind fun p63 =>
(ixP 5 p63.1 v5).bind fun t65 =>
(ldA 5 t65 (onS p63.2)).bind fun p66 =>
callD (planOf E0 (B14.r.r.r.l.r.l.l.r.l.l.l).ops) p55.2 10 [[], p58.2.log, [], [], p61.2.log, [], p63.2.log, [], [], p66.2.log] (self.f 14 [p61.1, p66.1] (onS p66.2)) fun t67 S67 =>
(unV .not t67).bind fun t68 =>
endP [(1, [6, 9]), (4, [6, 9])] p55.2 [[], p58.2.log, [], [], p61.2.log, [], p63.2.log, [], [], p66.2.log, S67.log, []] (onS S67) fun S69 =>
ifK t68 (
some (.ret (.bool false), S69)) (
(binV E0 .add 3 false true v5 (.int .i64 1)).bind fun t72 =>
L14_51 self N nk ek n v2 v3 t72 S69)) (
ek 0 (fr 68 []) p55.2) := by kernel_rfl
noncomputable def F14 (self : EV) (N : Nat) (x0 x1 : V) (S : St) : Rs := runF E0 self N Try.f14 B14 [x0, x1] S
theorem F14_eq (self : EV) (N : Nat) (x0 x1 : V) (S : St) : F14 self N x0 x1 S =
(boxK 24 x0 S).bind fun p0 =>
(boxK 24 x1 p0.2).bind fun p1 =>
(ldA 5 p0.1 p1.2).bind fun p3 =>
callP (self.f 34 [p3.1] p3.2) fun t4 S4 =>
(binV E0 .gtr 3 false true t4 (.int .i64 12)).bind fun t5 =>
(guardV false t5).bind fun g7 => (bif g7 then ldA 5 p1.1 S4 else some (.tuple [], S4)).bind fun p7 =>
(guardV false t5).bind fun g8 => callP (bif g8 then self.f 34 [p7.1] p7.2 else some (.ret (.tuple []), p7.2)) fun t8 S8 =>
(guardV false t5).bind fun g9 => (bif g9 then binV E0 .gtr 3 false true t8 (.int .i64 12) else some (.tuple [])).bind fun t9 =>
(pickV t5 (some (.bool true)) (some t9)).bind fun t10 =>
ifK t10 (
some (.ret (.bool false), S8)) (
(faP 0 false 1 p0.1).bind fun t12 =>
(ld1 t12 S8).bind fun p13 =>
(faP 0 false 1 p1.1).bind fun t14 =>
(ld1 t14 p13.2).bind fun p15 =>
(binV E0 .neq 9 false false p13.1 p15.1).bind fun t16 =>
(guardV false t16).bind fun g18 => (bif g18 then faP 1 false 1 p0.1 else some (.tuple [])).bind fun t18 =>
(guardV false t16).bind fun g19 => (bif g19 then ld1 t18 p15.2 else some (.tuple [], p15.2)).bind fun p19 =>
(guardV false t16).bind fun g20 => (bif g20 then faP 1 false 1 p1.1 else some (.tuple [])).bind fun t20 =>
(guardV false t16).bind fun g21 => (bif g21 then ld1 t20 p19.2 else some (.tuple [], p19.2)).bind fun p21 =>
(guardV false t16).bind fun g22 => (bif g22 then binV E0 .neq 3 false false p19.1 p21.1 else some (.tuple [])).bind fun t22 =>
(pickV t16 (some (.bool true)) (some t22)).bind fun t23 =>
(guardV false t23).bind fun g25 => (bif g25 then faP 2 false 1 p0.1 else some (.tuple [])).bind fun t25 =>
(guardV false t23).bind fun g26 => (bif g26 then ld1 t25 p21.2 else some (.tuple [], p21.2)).bind fun p26 =>
(guardV false t23).bind fun g27 => (bif g27 then faP 2 false 1 p1.1 else some (.tuple [])).bind fun t27 =>
(guardV false t23).bind fun g28 => (bif g28 then ld1 t27 p26.2 else some (.tuple [], p26.2)).bind fun p28 =>
(guardV false t23).bind fun g29 => (bif g29 then binV E0 .neq 4 false false p26.1 p28.1 else some (.tuple [])).bind fun t29 =>
(pickV t23 (some (.bool true)) (some t29)).bind fun t30 =>
(guardV false t30).bind fun g32 => (bif g32 then faP 3 false 1 p0.1 else some (.tuple [])).bind fun t32 =>
(guardV false t30).bind fun g33 => (bif g33 then ld1 t32 p28.2 else some (.tuple [], p28.2)).bind fun p33 =>
(guardV false t30).bind fun g34 => (bif g34 then faP 3 false 1 p1.1 else some (.tuple [])).bind fun t34 =>
(guardV false t30).bind fun g35 => (bif g35 then ld1 t34 p33.2 else some (.tuple [], p33.2)).bind fun p35 =>
(guardV false t30).bind fun g36 => (bif g36 then binV E0 .neq 9 false false p33.1 p35.1 else some (.tuple [])).bind fun t36 =>
(pickV t30 (some (.bool true)) (some t36)).bind fun t37 =>
(guardV false t37).bind fun g39 => (bif g39 then faP 4 false 1 p0.1 else some (.tuple [])).bind fun t39 =>
(guardV false t37).bind fun g40 => (bif g40 then ld1 t39 p35.2 else some (.tuple [], p35.2)).bind fun p40 =>
(guardV false t37).bind fun g41 => (bif g41 then lnS p40.1 p40.2 else some (.tuple [], p40.2)).bind fun p41 =>
(guardV false t37).bind fun g42 => (bif g42 then faP 4 false 1 p1.1 else some (.tuple [])).bind fun t42 =>
(guardV false t37).bind fun g43 => (bif g43 then ld1 t42 p41.2 else some (.tuple [], p41.2)).bind fun p43 =>
(guardV false t37).bind fun g44 => (bif g44 then lnS p43.1 p43.2 else some (.tuple [], p43.2)).bind fun p44 =>
(guardV false t37).bind fun g45 => (bif g45 then binV E0 .neq 3 false false p41.1 p44.1 else some (.tuple [])).bind fun t45 =>
(pickV t37 (some (.bool true)) (some t45)).bind fun t46 =>
ifK t46 (
some (.ret (.bool false), p44.2)) (
L14_51 self N (R14_48 self N (finN E0 self Try.f14) noEx) (exB 0 (R14_48 self N (finN E0 self Try.f14) noEx) noEx) N p0.1 p1.1 (.int .i64 0) p44.2)) := by kernel_rfl
noncomputable def C16 : Code := Try.f16.body.getD .skip
noncomputable def B16 : D := (annot C16 [[], [], [], [], []]).1
noncomputable def F16 (self : EV) (N : Nat) (x0 x1 : V) (S : St) : Rs := runF E0 self N Try.f16 B16 [x0, x1] S
theorem F16_eq (self : EV) (N : Nat) (x0 x1 : V) (S : St) : F16 self N x0 x1 S =
(boxK 24 x0 S).bind fun p0 =>
(boxK 24 x1 p0.2).bind fun p1 =>
(ldA 5 p0.1 p1.2).bind fun p3 =>
callP (self.f 35 [p3.1] p3.2) fun t4 S4 =>
(guardV false t4).bind fun g6 => (bif g6 then ldA 5 p1.1 S4 else some (.tuple [], S4)).bind fun p6 =>
(guardV false t4).bind fun g7 => callP (bif g7 then self.f 35 [p6.1] p6.2 else some (.ret (.tuple []), p6.2)) fun t7 S7 =>
(pickV t4 (some (.bool true)) (some t7)).bind fun t8 =>
ifK t8 (
some (.ret (.bool false), S7)) (
(faP 0 false 1 p0.1).bind fun t10 =>
(ld1 t10 S7).bind fun p11 =>
(faP 0 false 1 p1.1).bind fun t12 =>
(ld1 t12 p11.2).bind fun p13 =>
(binV E0 .eql 9 false false p11.1 p13.1).bind fun t14 =>
(guardV true t14).bind fun g16 => (bif g16 then faP 1 false 1 p0.1 else some (.tuple [])).bind fun t16 =>
(guardV true t14).bind fun g17 => (bif g17 then ld1 t16 p13.2 else some (.tuple [], p13.2)).bind fun p17 =>
(guardV true t14).bind fun g18 => (bif g18 then faP 1 false 1 p1.1 else some (.tuple [])).bind fun t18 =>
(guardV true t14).bind fun g19 => (bif g19 then ld1 t18 p17.2 else some (.tuple [], p17.2)).bind fun p19 =>
(guardV true t14).bind fun g20 => (bif g20 then binV E0 .eql 3 false false p17.1 p19.1 else some (.tuple [])).bind fun t20 =>
(pickV t14 (some t20) (some (.bool false))).bind fun t21 =>
(guardV true t21).bind fun g23 => (bif g23 then faP 2 false 1 p0.1 else some (.tuple [])).bind fun t23 =>
(guardV true t21).bind fun g24 => (bif g24 then ld1 t23 p19.2 else some (.tuple [], p19.2)).bind fun p24 =>
(guardV true t21).bind fun g25 => (bif g25 then faP 2 false 1 p1.1 else some (.tuple [])).bind fun t25 =>
(guardV true t21).bind fun g26 => (bif g26 then ld1 t25 p24.2 else some (.tuple [], p24.2)).bind fun p26 =>
(guardV true t21).bind fun g27 => (bif g27 then binV E0 .eql 4 false false p24.1 p26.1 else some (.tuple [])).bind fun t27 =>
(pickV t21 (some t27) (some (.bool false))).bind fun t28 =>
(guardV true t28).bind fun g30 => (bif g30 then faP 3 false 1 p0.1 else some (.tuple [])).bind fun t30 =>
(guardV true t28).bind fun g31 => (bif g31 then ld1 t30 p26.2 else some (.tuple [], p26.2)).bind fun p31 =>
(guardV true t28).bind fun g32 => (bif g32 then faP 3 false 1 p1.1 else some (.tuple [])).bind fun t32 =>
(guardV true t28).bind fun g33 => (bif g33 then ld1 t32 p31.2 else some (.tuple [], p31.2)).bind fun p33 =>
(guardV true t28).bind fun g34 => (bif g34 then binV E0 .eql 9 false false p31.1 p33.1 else some (.tuple [])).bind fun t34 =>
(pickV t28 (some t34) (some (.bool false))).bind fun t35 =>
(guardV true t35).bind fun g37 => (bif g37 then faP 4 false 1 p0.1 else some (.tuple [])).bind fun t37 =>
(guardV true t35).bind fun g38 => (bif g38 then ld1 t37 p33.2 else some (.tuple [], p33.2)).bind fun p38 =>
(guardV true t35).bind fun g39 => (bif g39 then faP 4 false 1 p1.1 else some (.tuple [])).bind fun t39 =>
(guardV true t35).bind fun g40 => (bif g40 then ld1 t39 p38.2 else some (.tuple [], p38.2)).bind fun p40 =>
(guardV true t35).bind fun g41 => callP (bif g41 then self.f 37 [p38.1, p40.1, (.fn (.func 16) [] [])] p40.2 else some (.ret (.tuple []), p40.2)) fun t41 S41 =>
(pickV t35 (some t41) (some (.bool false))).bind fun t42 =>
some (.ret t42, S41)) := by kernel_rfl
noncomputable def C37 : Code := Try.f37.body.getD .skip
noncomputable def B37 : D := (annot C37 [[], [], [], [], [], [1, 2, 15, 16, 17], [], [], [], [], [], [], [], [], [0], [6], []]).1
noncomputable def RL37 : List Nat := cellsOf Try.f37.results.toList
noncomputable def R37_7 (self : EV) (N : Nat) (nk : Ac → St → Rs) (ek : Nat → Ac → St → Rs) (a : Ac) (S : St) : Rs := projK [] a fun a => dr E0 self RL37 N (B37.r.r).r (mkK E0 self Try.f37 nk ek) a S
theorem R37_7_eq (self : EV) (N : Nat) (nk : Ac → St → Rs) (ek : Nat → Ac → St → Rs) (S : St) : R37_7 self N nk ek (fr 32 []) S =
some (.ret (.bool true), S) := by kernel_rfl
noncomputable def L37_12 (self : EV) (N : Nat) (nk : Ac → St → Rs) (ek : Nat → Ac → St → Rs) (n : Nat) ( v1 v2 v15 v16 v17 : V) (S : St) : Rs := loopK [1, 2, 15, 16, 17] (dr E0 self RL37 N (B37.r.r.l.r.l.l)) (mkK E0 self Try.f37 nk ek) n (fr 32 [(1, v1), (2, v2), (15, v15), (16, v16), (17, v17)]) S
theorem L37_12_eq (self : EV) (N : Nat) (nk : Ac → St → Rs) (ek : Nat → Ac → St → Rs) (n : Nat) ( v1 v2 v15 v16 v17 : V) (S : St) : L37_12 self N nk ek (n + 1) v1 v2 v15 v16 v17 S =
(binV E0 .lss 3 false false v17 v16).bind fun t13 =>
ifK t13 (
(ixP 5 v15 v17).bind fun t15 =>
(ldA 5 t15 S).bind fun p16 =>
(some (nwP 24 5 (Tr.ofListFrom .nil [(sv []), (.int .i64 0), (.bool false), (sv []), .nilslice] 0) p16.2)).bind fun p17 =>
(stP 5 p17.1 p16.1 p17.2).bind fun p19 =>
(ixP 5 v1 v17).bind fun t22 =>
(ldA 5 t22 p19.2).bind fun p23 =>
(some (nwP 24 5 (Tr.ofListFrom .nil [(sv []), (.int .i64 0), (.bool false), (sv []), .nilslice] 0) p23.2)).bind fun p24 =>
(stP 5 p24.1 p23.1 p24.2).bind fun p25 =>
(ldA 5 p17.1 p25.2).bind fun p27 =>
(ldA 5 p24.1 p27.2).bind fun p28 =>
callP (callK E0 self v2 [p27.1, p28.1] p28.2) fun t29 S29 =>
(unV .not t29).bind fun t30 =>
ifK t30 (
some (.ret (.bool false), S29)) (
(binV E0 .add 3 false true v17 (.int .i64 1)).bind fun t32 =>
L37_12 self N nk ek n v1 v2 v15 v16 t32 S29)) (
ek 0 (fr 32 []) S) := by kernel_rfl
noncomputable def F37 (self : EV) (N : Nat) (x0 x1 x2 : V) (S : St) : Rs := runF E0 self N Try.f37 B37 [x0, x1, x2] S
theorem F37_eq (self : EV) (N : Nat) (x0 x1 x2 : V) (S : St) : F37 self N x0 x1 x2 S =
(lnS x0 S).bind fun p2 =>
(lnS x1 p2.2).bind fun p4 =>
(binV E0 .neq 3 false false p2.1 p4.1).bind fun t5 =>
ifK t5 (
some (.ret (.bool false), p4.2)) (
(lnS x0 p4.2).bind fun p10 =>
L37_12 self N (R37_7 self N (finN E0 self Try.f37) noEx) (exB 0 (R37_7 self N (finN E0 self Try.f37) noEx) noEx) N x1 x2 x0 p10.1 (.int .i64 0) p10.2) := by kernel_rfl
end
end Go.Proofs.Ythmkdoaaciamlaa.W
