/-
  WHAT THE FUNCTIONS COME TO: each is read by the evaluator, printed, and told as a function of data, part 1 of 6 (no condition).
-/
import Derived.Test.YtbfdabjcgcbimaaREv4
import Derived.Test.YtbfdabjcgcbimaaRProg
import Derived.KernelRfl
namespace Go.Proofs.YtbfdabjcgcbimaaR.W
open Go.Proofs.YtbfdabjcgcbimaaR.Ev
set_option maxRecDepth 100000
noncomputable section
noncomputable def E0 : Env := envOf Try.prog [7, 8, 40, 41, 43, 44, 51, 52, 59, 68, 69, 79, 80, 81, 82, 85, 86, 91, 94] [] []
noncomputable def C15 : Code := Try.f15.body.getD .skip
noncomputable def B15 : D := (annot C15 [[], []]).1
noncomputable def F15 (self : EV) (N : Nat) (x0 : V) (S : St) : Rs := runF E0 self N Try.f15 B15 [x0] S
theorem F15_eq (self : EV) (N : Nat) (x0 : V) (S : St) : F15 self N x0 S =
(boxK 41 x0 S).bind fun p0 =>
(faP 2 false 1 p0.1).bind fun t2 =>
(ld1 t2 p0.2).bind fun p3 =>
(binV E0 .mul 3 false true p3.1 (.int .i64 128)).bind fun t4 =>
some (.ret t4, p3.2) := by kernel_rfl
noncomputable def C35 : Code := Try.f35.body.getD .skip
noncomputable def B35 : D := (annot C35 [[], []]).1
noncomputable def F35 (self : EV) (N : Nat) (x0 x1 : V) (S : St) : Rs := runF E0 self N Try.f35 B35 [x0, x1] S
theorem F35_eq (self : EV) (N : Nat) (x0 x1 : V) (S : St) : F35 self N x0 x1 S =
(boxK 41 x0 S).bind fun p0 =>
(faP 1 false 1 p0.1).bind fun t2 =>
(ld1 t2 p0.2).bind fun p3 =>
(binV E0 .add 3 false true p3.1 (.int .i64 2)).bind fun t4 =>
(faP 2 false 1 p0.1).bind fun t6 =>
(ld1 t6 p3.2).bind fun p7 =>
(binV E0 .mul 3 false false x1 p7.1).bind fun t8 =>
(binV E0 .add 3 false false t4 t8).bind fun t9 =>
some (.ret t9, p7.2) := by kernel_rfl
noncomputable def C47 : Code := Try.f47.body.getD .skip
noncomputable def B47 : D := (annot C47 [[], [], [], [], [], [0, 1, 5, 6], [], [0, 5, 6], [], [], [], [0, 0, 5, 6], [4], [], [], [], []]).1
noncomputable def RL47 : List Nat := cellsOf Try.f47.results.toList
noncomputable def R47_9 (self : EV) (N : Nat) (nk : Ac → St → Rs) (ek : Nat → Ac → St → Rs) (a : Ac) (S : St) : Rs := projK [0, 5, 6] a fun a => dr E0 self RL47 N (B47.r.r.r.r).r (mkK E0 self Try.f47 nk ek) a S
theorem R47_9_eq (self : EV) (N : Nat) (nk : Ac → St → Rs) (ek : Nat → Ac → St → Rs) ( v0 v5 v6 : V) (S : St) : R47_9 self N nk ek (fr 45 [(0, v0), (5, v5), (6, v6)]) S =
(lnStr v0 S).bind fun p11 =>
(binV E0 .add 3 false true p11.1 (.int .i64 10)).bind fun t12 =>
(binV E0 .sub 3 false false t12 v6).bind fun t14 =>
(makeSliceK E0 77 t14 t14 p11.2).bind fun p15 =>
(cpP 1 p15.1 v0 p15.2).bind fun p19 =>
(lnStr v0 (onS p19.2)).bind fun p22 =>
(sliceV E0 77 p15.1 (some p22.1) none none (onS p22.2)).bind fun p23 =>
(sliceV E0 91 v5 (some v6) none none (onS p23.2)).bind fun p25 =>
(cpP 1 p23.1 p25.1 (onS p25.2)).bind fun p26 =>
endP [(2, [5]), (3, [5])] p19.2 [[], [], p22.2.log, p23.2.log, [], p25.2.log, p26.2.log] p26.2 fun S27 =>
(convertV E0 77 9 p15.1 S27).bind fun p29 =>
some (.ret p29.1, p29.2) := by kernel_rfl
noncomputable def L47_34 (self : EV) (N : Nat) (nk : Ac → St → Rs) (ek : Nat → Ac → St → Rs) (n : Nat) ( v0 v1 v5 v6 : V) (S : St) : Rs := loopK [0, 1, 5, 6] (dr E0 self RL47 N (B47.r.r.r.r.l.r.l.l)) (mkK E0 self Try.f47 nk ek) n (fr 45 [(0, v0), (1, v1), (5, v5), (6, v6)]) S
theorem L47_34_eq (self : EV) (N : Nat) (nk : Ac → St → Rs) (ek : Nat → Ac → St → Rs) (n : Nat) ( v0 v1 v5 v6 : V) (S : St) : L47_34 self N nk ek (n + 1) v0 v1 v5 v6 S =
(binV E0 .gtr 42 false true v1 (.int .u64 0)).bind fun t36 =>
ifK t36 (
(binV E0 .sub 3 false true v6 (.int .i64 1)).bind fun t38 =>
(binV E0 .rem 42 false true v1 (.int .u64 128)).bind fun t42 =>
(cvI .u8 t42 S).bind fun p43 =>
(binV E0 .add 5 false true p43.1 (.int .u8 128)).bind fun t44 =>
(ixA 10 1 false 1 v5 t38).bind fun t45 =>
(stP 1 t45 t44 p43.2).bind fun p46 =>
(binV E0 .quo 42 false true v1 (.int .u64 128)).bind fun t48 =>
L47_34 self N nk ek n v0 t48 v5 t38 p46.2) (
ek 0 (fr 45 [(0, v0), (5, v5), (6, v6)]) S) := by kernel_rfl
noncomputable def F47 (self : EV) (N : Nat) (x0 x1 : V) (S : St) : Rs := runF E0 self N Try.f47 B47 [x0, x1] S
theorem F47_eq (self : EV) (N : Nat) (x0 x1 : V) (S : St) : F47 self N x0 x1 S =
(some (nwP 91 10 (Tr.ofListFrom .nil [(.int .u8 0), (.int .u8 0), (.int .u8 0), (.int .u8 0), (.int .u8 0), (.int .u8 0), (.int .u8 0), (.int .u8 0), (.int .u8 0), (.int .u8 0)] 0) S)).bind fun p1 =>
(binV E0 .rem 42 false true x1 (.int .u64 128)).bind fun t5 =>
(cvI .u8 t5 p1.2).bind fun p6 =>
(ixA 10 1 false 1 p1.1 (.int .i64 9)).bind fun t7 =>
(stP 1 t7 p6.1 p6.2).bind fun p8 =>
(binV E0 .quo 42 false true x1 (.int .u64 128)).bind fun t32 =>
L47_34 self N (R47_9 self N (finN E0 self Try.f47) noEx) (exB 0 (R47_9 self N (finN E0 self Try.f47) noEx) noEx) N x0 t32 p1.1 (.int .i64 9) p8.2 := by kernel_rfl
noncomputable def C34 : Code := Try.f34.body.getD .skip
noncomputable def B34 : D := (annot C34 [[], []]).1
noncomputable def F34 (self : EV) (N : Nat) (x0 x1 : V) (S : St) : Rs := runF E0 self N Try.f34 B34 [x0, x1] S
theorem F34_eq (self : EV) (N : Nat) (x0 x1 : V) (S : St) : F34 self N x0 x1 S =
(lnStr x1 S).bind fun p3 =>
(cvI .u64 p3.1 p3.2).bind fun p4 =>
callP (self.f 47 [x0, p4.1] p4.2) fun t5 S5 =>
(binV E0 .add 9 false false t5 x1).bind fun t7 =>
some (.ret t7, S5) := by kernel_rfl
noncomputable def C16 : Code := Try.f16.body.getD .skip
noncomputable def B16 : D := (annot C16 [[], [], [], [3, 6, 7, 8], [], [3], [], [], [], [0, 3], [2], []]).1
noncomputable def RL16 : List Nat := cellsOf Try.f16.results.toList
noncomputable def R16_2 (self : EV) (N : Nat) (nk : Ac → St → Rs) (ek : Nat → Ac → St → Rs) (a : Ac) (S : St) : Rs := projK [3] a fun a => dr E0 self RL16 N (B16.r.r).r (mkK E0 self Try.f16 nk ek) a S
theorem R16_2_eq (self : EV) (N : Nat) (nk : Ac → St → Rs) (ek : Nat → Ac → St → Rs) ( v3 : V) (S : St) : R16_2 self N nk ek (fr 17 [(3, v3)]) S =
some (.ret v3, S) := by kernel_rfl
noncomputable def L16_8 (self : EV) (N : Nat) (nk : Ac → St → Rs) (ek : Nat → Ac → St → Rs) (n : Nat) ( v3 v6 v7 v8 : V) (S : St) : Rs := loopK [3, 6, 7, 8] (dr E0 self RL16 N (B16.r.r.l.r.l.l)) (mkK E0 self Try.f16 nk ek) n (fr 17 [(3, v3), (6, v6), (7, v7), (8, v8)]) S
theorem L16_8_eq (self : EV) (N : Nat) (nk : Ac → St → Rs) (ek : Nat → Ac → St → Rs) (n : Nat) ( v3 v6 v7 v8 : V) (S : St) : L16_8 self N nk ek (n + 1) v3 v6 v7 v8 S =
(binV E0 .lss 3 false false v8 v7).bind fun t9 =>
ifK t9 (
(ixP 1 v6 v8).bind fun t10 =>
(ld1 t10 S).bind fun p11 =>
callP (self.f 34 [v3, p11.1] p11.2) fun t15 S15 =>
(binV E0 .add 3 false true v8 (.int .i64 1)).bind fun t17 =>
L16_8 self N nk ek n t15 v6 v7 t17 S15) (
ek 0 (fr 17 [(3, v3)]) S) := by kernel_rfl
noncomputable def F16 (self : EV) (N : Nat) (x0 : V) (S : St) : Rs := runF E0 self N Try.f16 B16 [x0] S
theorem F16_eq (self : EV) (N : Nat) (x0 : V) (S : St) : F16 self N x0 S =
(lnS x0 S).bind fun p6 =>
L16_8 self N (R16_2 self N (finN E0 self Try.f16) noEx) (exB 0 (R16_2 self N (finN E0 self Try.f16) noEx) noEx) N (sv []) x0 p6.1 (.int .i64 0) p6.2 := by kernel_rfl
end
end Go.Proofs.YtbfdabjcgcbimaaR.W
namespace Go.Proofs.YtbfdabjcgcbimaaR.W
open Go.Proofs.YtbfdabjcgcbimaaR.Ev
set_option maxRecDepth 100000
noncomputable section
noncomputable def C3 : Code := Try.f3.body.getD .skip
noncomputable def B3 : D := (annot C3 [[], [], [], [], [], [], [0, 4, 5], [], [], [], [], [], [], [0, 4, 5, 6, 7, 8], [], [0, 4, 5, 6, 7], [], [], [], [], [0, 0, 4, 5, 6, 7], [0, 4, 5], [], [], [], [], [], [], [], [], [], [0, 0, 4, 5], [0, 4, 5], [0], [2], []]).1
noncomputable def RL3 : List Nat := cellsOf Try.f3.results.toList
noncomputable def R3_15 (self : EV) (N : Nat) (nk : Ac → St → Rs) (ek : Nat → Ac → St → Rs) (a : Ac) (S : St) : Rs := projK [] a fun a => dr E0 self RL3 N (B3.r.r.r).r (mkK E0 self Try.f3 nk ek) a S
theorem R3_15_eq (self : EV) (N : Nat) (nk : Ac → St → Rs) (ek : Nat → Ac → St → Rs) (S : St) : R3_15 self N nk ek (fr 149 []) S =
callP (self.f 11 [] S) fun t16 S16 =>
some (.ret t16, S16) := by kernel_rfl
noncomputable def N3_19 (self : EV) (N : Nat) (nk : Ac → St → Rs) (ek : Nat → Ac → St → Rs) (n : Nat) : Ac → St → Rs := fun a S => projK [0, 4, 5] a fun a => loopK [0, 4, 5] (dr E0 self RL3 N (B3.r.r.r.l.r.l.l)) (mkK E0 self Try.f3 nk ek) n a S
noncomputable def L3_19 (self : EV) (N : Nat) (nk : Ac → St → Rs) (ek : Nat → Ac → St → Rs) (n : Nat) ( v0 v4 v5 : V) (S : St) : Rs := loopK [0, 4, 5] (dr E0 self RL3 N (B3.r.r.r.l.r.l.l)) (mkK E0 self Try.f3 nk ek) n (fr 149 [(0, v0), (4, v4), (5, v5)]) S
noncomputable def R3_28 (self : EV) (N : Nat) (nk : Ac → St → Rs) (ek : Nat → Ac → St → Rs) (a : Ac) (S : St) : Rs := projK [0, 4, 5] a fun a => dr E0 self RL3 N (B3.r.r.r.l.r.l.l.r).r (mkK E0 self Try.f3 nk ek) a S
theorem R3_28_eq (self : EV) (N : Nat) (nk : Ac → St → Rs) (ek : Nat → Ac → St → Rs) ( v0 v4 v5 : V) (S : St) : R3_28 self N nk ek (fr 149 [(0, v0), (4, v4), (5, v5)]) S =
(binV E0 .add 3 false true v5 (.int .i64 1)).bind fun t30 =>
nk (fr 149 [(0, v0), (4, v4), (5, t30)]) S := by kernel_rfl
noncomputable def R3_39 (self : EV) (N : Nat) (nk : Ac → St → Rs) (ek : Nat → Ac → St → Rs) (a : Ac) (S : St) : Rs := projK [0, 4, 5, 6, 7] a fun a => dr E0 self RL3 N (B3.r.r.r.l.r.l.l.r.l.l.r.r).r (mkK E0 self Try.f3 nk ek) a S
theorem R3_39_eq (self : EV) (N : Nat) (nk : Ac → St → Rs) (ek : Nat → Ac → St → Rs) ( v0 v4 v5 v6 v7 : V) (S : St) : R3_39 self N nk ek (fr 149 [(0, v0), (4, v4), (5, v5), (6, v6), (7, v7)]) S =
callP (self.f 7 [v4] S) fun t41 S41 =>
callP (self.f 5 [v4] S41) fun t43 S43 =>
callP (self.f 8 [v4, v6] S43) fun t48 S48 =>
(binV E0 .eql 31 false true t48 (.int .i64 0)).bind fun t51 =>
(guardV true t51).bind fun g53 => (bif g53 then some v7 else some (.tuple [])).bind fun t53 =>
(guardV true t51).bind fun g54 => (bif g54 then some t43 else some (.tuple [])).bind fun t54 =>
(guardV true t51).bind fun g55 => (bif g55 then binV E0 .gtr 3 false false t53 t54 else some (.tuple [])).bind fun t55 =>
(guardV true t51).bind fun g56 => (bif g56 then some t55 else some (.tuple [])).bind fun t56 =>
(guardV false t56).bind fun g57 => (bif g57 then some v4 else some (.tuple [])).bind fun t57 =>
(guardV false t56).bind fun g58 => callP (bif g58 then self.f 5 [t57] S48 else some (.ret (.tuple []), S48)) fun t58 S58 =>
(guardV false t56).bind fun g59 => (bif g59 then some t43 else some (.tuple [])).bind fun t59 =>
(guardV false t56).bind fun g60 => (bif g60 then some v7 else some (.tuple [])).bind fun t60 =>
(guardV false t56).bind fun g61 => (bif g61 then binV E0 .sub 3 false false t59 t60 else some (.tuple [])).bind fun t61 =>
(guardV false t56).bind fun g62 => (bif g62 then binV E0 .neq 3 false false t58 t61 else some (.tuple [])).bind fun t62 =>
(guardV true t51).bind fun g63 => (bif g63 then pickV t56 (some (.bool true)) (some t62) else some (.tuple [])).bind fun t63 =>
(guardV true t51).bind fun g64 => (bif g64 then some t63 else some (.tuple [])).bind fun t64 =>
(guardV false t64).bind fun g65 => (bif g65 then some v4 else some (.tuple [])).bind fun t65 =>
(guardV false t64).bind fun g66 => callP (bif g66 then self.f 7 [t65] S58 else some (.ret (.tuple []), S58)) fun t66 S66 =>
(guardV false t64).bind fun g67 => (bif g67 then lnS t66 S66 else some (.tuple [], S66)).bind fun p67 =>
(guardV false t64).bind fun g68 => (bif g68 then some t41 else some (.tuple [])).bind fun t68 =>
(guardV false t64).bind fun g69 => (bif g69 then lnS t68 p67.2 else some (.tuple [], p67.2)).bind fun p69 =>
(guardV false t64).bind fun g70 => (bif g70 then some v6 else some (.tuple [])).bind fun t70 =>
(guardV false t64).bind fun g71 => (bif g71 then lnS t70 p69.2 else some (.tuple [], p69.2)).bind fun p71 =>
(guardV false t64).bind fun g72 => (bif g72 then binV E0 .add 3 false false p69.1 p71.1 else some (.tuple [])).bind fun t72 =>
(guardV false t64).bind fun g73 => (bif g73 then binV E0 .neq 3 false false p67.1 t72 else some (.tuple [])).bind fun t73 =>
(guardV true t51).bind fun g74 => (bif g74 then pickV t64 (some (.bool true)) (some t73) else some (.tuple [])).bind fun t74 =>
(pickV t51 (some t74) (some (.bool false))).bind fun t75 =>
(guardV false t75).bind fun g77 => (bif g77 then some t48 else some (.tuple [])).bind fun t77 =>
(guardV false t75).bind fun g78 => (bif g78 then binV E0 .neq 31 false true t77 (.int .i64 0) else some (.tuple [])).bind fun t78 =>
(guardV false t75).bind fun g79 => (bif g79 then some t78 else some (.tuple [])).bind fun t79 =>
(guardV true t79).bind fun g80 => (bif g80 then some t48 else some (.tuple [])).bind fun t80 =>
(guardV true t79).bind fun g81 => (bif g81 then binV E0 .neq 31 false true t80 (.int .i64 10) else some (.tuple [])).bind fun t81 =>
(guardV true t79).bind fun g82 => (bif g82 then some t81 else some (.tuple [])).bind fun t82 =>
(guardV false t82).bind fun g83 => (bif g83 then some v7 else some (.tuple [])).bind fun t83 =>
(guardV false t82).bind fun g84 => (bif g84 then some t43 else some (.tuple [])).bind fun t84 =>
(guardV false t82).bind fun g85 => (bif g85 then binV E0 .leq 3 false false t83 t84 else some (.tuple [])).bind fun t85 =>
(guardV true t79).bind fun g86 => (bif g86 then pickV t82 (some (.bool true)) (some t85) else some (.tuple [])).bind fun t86 =>
(guardV true t79).bind fun g87 => (bif g87 then some t86 else some (.tuple [])).bind fun t87 =>
(guardV false t87).bind fun g88 => (bif g88 then some v4 else some (.tuple [])).bind fun t88 =>
(guardV false t87).bind fun g89 => callP (bif g89 then self.f 5 [t88] p71.2 else some (.ret (.tuple []), p71.2)) fun t89 S89 =>
(guardV false t87).bind fun g90 => (bif g90 then some t43 else some (.tuple [])).bind fun t90 =>
(guardV false t87).bind fun g91 => (bif g91 then binV E0 .neq 3 false false t89 t90 else some (.tuple [])).bind fun t91 =>
(guardV true t79).bind fun g92 => (bif g92 then pickV t87 (some (.bool true)) (some t91) else some (.tuple [])).bind fun t92 =>
(guardV true t79).bind fun g93 => (bif g93 then some t92 else some (.tuple [])).bind fun t93 =>
(guardV false t93).bind fun g94 => (bif g94 then some v4 else some (.tuple [])).bind fun t94 =>
(guardV false t93).bind fun g95 => callP (bif g95 then self.f 7 [t94] S89 else some (.ret (.tuple []), S89)) fun t95 S95 =>
(guardV false t93).bind fun g96 => (bif g96 then some t41 else some (.tuple [])).bind fun t96 =>
(guardV false t93).bind fun g97 => callP (bif g97 then self.f 9 [t95, t96] S95 else some (.ret (.tuple []), S95)) fun t97 S97 =>
(guardV false t93).bind fun g98 => (bif g98 then unV .not t97 else some (.tuple [])).bind fun t98 =>
(guardV true t79).bind fun g99 => (bif g99 then pickV t93 (some (.bool true)) (some t98) else some (.tuple [])).bind fun t99 =>
(guardV false t75).bind fun g100 => (bif g100 then pickV t79 (some t99) (some (.bool false)) else some (.tuple [])).bind fun t100 =>
(pickV t75 (some (.bool true)) (some t100)).bind fun t101 =>
ifK t101 (
some (.ret (.bool false), S97)) (
(binV E0 .eql 31 false true t48 (.int .i64 10)).bind fun t104 =>
ifK t104 (
callP (self.f 10 [v4, v6] S97) fun t107 S107 =>
(binV E0 .eql 31 false true t107 (.int .i64 0)).bind fun t110 =>
(binV E0 .leq 3 false true v7 (.int .i64 384)).bind fun t112 =>
(binV E0 .neq 4 false false t110 t112).bind fun t113 =>
(guardV false t113).bind fun g115 => (bif g115 then some t107 else some (.tuple [])).bind fun t115 =>
(guardV false t113).bind fun g116 => (bif g116 then binV E0 .eql 31 false true t115 (.int .i64 0) else some (.tuple [])).bind fun t116 =>
(guardV false t113).bind fun g117 => (bif g117 then some t116 else some (.tuple [])).bind fun t117 =>
(guardV true t117).bind fun g118 => (bif g118 then some v4 else some (.tuple [])).bind fun t118 =>
(guardV true t117).bind fun g119 => callP (bif g119 then self.f 5 [t118] S107 else some (.ret (.tuple []), S107)) fun t119 S119 =>
(guardV true t117).bind fun g120 => (bif g120 then some v7 else some (.tuple [])).bind fun t120 =>
(guardV true t117).bind fun g121 => (bif g121 then binV E0 .sub 3 true false (.int .i64 384) t120 else some (.tuple [])).bind fun t121 =>
(guardV true t117).bind fun g122 => (bif g122 then binV E0 .neq 3 false false t119 t121 else some (.tuple [])).bind fun t122 =>
(guardV true t117).bind fun g123 => (bif g123 then some t122 else some (.tuple [])).bind fun t123 =>
(guardV false t123).bind fun g124 => (bif g124 then some v4 else some (.tuple [])).bind fun t124 =>
(guardV false t123).bind fun g125 => callP (bif g125 then self.f 7 [t124] S119 else some (.ret (.tuple []), S119)) fun t125 S125 =>
(guardV false t123).bind fun g126 => (bif g126 then some v6 else some (.tuple [])).bind fun t126 =>
(guardV false t123).bind fun g127 => callP (bif g127 then self.f 9 [t125, t126] S125 else some (.ret (.tuple []), S125)) fun t127 S127 =>
(guardV false t123).bind fun g128 => (bif g128 then unV .not t127 else some (.tuple [])).bind fun t128 =>
(guardV true t117).bind fun g129 => (bif g129 then pickV t123 (some (.bool true)) (some t128) else some (.tuple [])).bind fun t129 =>
(guardV false t113).bind fun g130 => (bif g130 then pickV t117 (some t129) (some (.bool false)) else some (.tuple [])).bind fun t130 =>
(pickV t113 (some (.bool true)) (some t130)).bind fun t131 =>
ifK t131 (
some (.ret (.bool false), S127)) (
nk (fr 149 [(0, v0), (4, v4), (5, v5)]) S127)) (
nk (fr 149 [(0, v0), (4, v4), (5, v5)]) S97)) := by kernel_rfl
noncomputable def L3_134 (self : EV) (N : Nat) (nk : Ac → St → Rs) (ek : Nat → Ac → St → Rs) (n : Nat) ( v0 v4 v5 v6 v7 v8 : V) (S : St) : Rs := loopK [0, 4, 5, 6, 7, 8] (dr E0 self RL3 N (B3.r.r.r.l.r.l.l.r.l.l.r.r.l.r.l.l)) (mkK E0 self Try.f3 nk ek) n (fr 149 [(0, v0), (4, v4), (5, v5), (6, v6), (7, v7), (8, v8)]) S
theorem L3_134_eq (self : EV) (N : Nat) (nk : Ac → St → Rs) (ek : Nat → Ac → St → Rs) (n : Nat) ( v0 v4 v5 v6 v7 v8 : V) (S : St) : L3_134 self N nk ek (n + 1) v0 v4 v5 v6 v7 v8 S =
(lnS v6 S).bind fun p137 =>
(binV E0 .lss 3 false false v8 p137.1).bind fun t138 =>
ifK t138 (
(ixP 1 v6 v8).bind fun t142 =>
(ld1 t142 p137.2).bind fun p143 =>
(lnStr p143.1 p143.2).bind fun p144 =>
(binV E0 .add 3 false false v7 p144.1).bind fun t145 =>
(binV E0 .add 3 false true t145 (.int .i64 1)).bind fun t146 =>
(ixP 1 v6 v8).bind fun t150 =>
(ld1 t150 p144.2).bind fun p151 =>
(lnStr p151.1 p151.2).bind fun p152 =>
(binV E0 .geq 3 false true p152.1 (.int .i64 128)).bind fun t153 =>
ifK t153 (
(binV E0 .add 3 false true t146 (.int .i64 1)).bind fun t155 =>
(binV E0 .add 3 false true v8 (.int .i64 1)).bind fun t158 =>
L3_134 self N nk ek n v0 v4 v5 v6 t155 t158 p152.2) (
(binV E0 .add 3 false true v8 (.int .i64 1)).bind fun t161 =>
L3_134 self N nk ek n v0 v4 v5 v6 t146 t161 p152.2)) (
ek 2 (fr 149 [(0, v0), (4, v4), (5, v5), (6, v6), (7, v7)]) p137.2) := by kernel_rfl
theorem L3_19_eq (self : EV) (N : Nat) (nk : Ac → St → Rs) (ek : Nat → Ac → St → Rs) (n : Nat) ( v0 v4 v5 : V) (S : St) : L3_19 self N nk ek (n + 1) v0 v4 v5 S =
(lnS v0 S).bind fun p22 =>
(binV E0 .lss 3 false false v5 p22.1).bind fun t23 =>
(guardV true t23).bind fun g25 => (bif g25 then some v5 else some (.tuple [])).bind fun t25 =>
(guardV true t23).bind fun g26 => (bif g26 then binV E0 .lss 3 false true t25 (.int .i64 20) else some (.tuple [])).bind fun t26 =>
(pickV t23 (some t26) (some (.bool false))).bind fun t27 =>
ifK t27 (
(ixP 1 v0 v5).bind fun t34 =>
(ld1 t34 p22.2).bind fun p35 =>
callP (self.f 6 [p35.1] p35.2) fun t36 S36 =>
L3_134 self N (R3_39 self N (R3_28 self N (N3_19 self N nk ek n) ek) (exB 1 (R3_28 self N (N3_19 self N nk ek n) ek) ek)) (exB 2 (R3_39 self N (R3_28 self N (N3_19 self N nk ek n) ek) (exB 1 (R3_28 self N (N3_19 self N nk ek n) ek) ek)) (exB 1 (R3_28 self N (N3_19 self N nk ek n) ek) ek)) N v0 v4 v5 t36 (.int .i64 0) (.int .i64 0) S36) (
ek 0 (fr 149 []) p22.2) := by kernel_rfl
theorem N3_19_eq (self : EV) (N : Nat) (nk : Ac → St → Rs) (ek : Nat → Ac → St → Rs) (n : Nat) ( v0 v4 v5 : V) (S : St) : N3_19 self N nk ek n (fr 149 [(0, v0), (4, v4), (5, v5)]) S = L3_19 self N nk ek n v0 v4 v5 S := by kernel_rfl
noncomputable def F3 (self : EV) (N : Nat) (x0 : V) (S : St) : Rs := runF E0 self N Try.f3 B3 [x0] S
theorem F3_eq (self : EV) (N : Nat) (x0 : V) (S : St) : F3 self N x0 S =
callP (self.f 4 [(.int .i64 8)] S) fun t1 S1 =>
(extractV t1 0).bind fun t3 =>
(extractV t1 1).bind fun t4 =>
(binV E0 .eql 24 false true t4 .nilptr).bind fun t8 =>
(guardV false t8).bind fun g10 => (bif g10 then some t4 else some (.tuple [])).bind fun t10 =>
(guardV false t8).bind fun g11 => callP (bif g11 then self.f 5 [t10] S1 else some (.ret (.tuple []), S1)) fun t11 S11 =>
(guardV false t8).bind fun g12 => (bif g12 then binV E0 .neq 3 false true t11 (.int .i64 384) else some (.tuple [])).bind fun t12 =>
(pickV t8 (some (.bool true)) (some t12)).bind fun t13 =>
ifK t13 (
some (.ret (.bool false), S11)) (
L3_19 self N (R3_15 self N (finN E0 self Try.f3) noEx) (exB 0 (R3_15 self N (finN E0 self Try.f3) noEx) noEx) N x0 t4 (.int .i64 0) S11) := by kernel_rfl
end
end Go.Proofs.YtbfdabjcgcbimaaR.W
namespace Go.Proofs.YtbfdabjcgcbimaaR.W
open Go.Proofs.YtbfdabjcgcbimaaR.Ev
set_option maxRecDepth 100000
noncomputable section
noncomputable def C5 : Code := Try.f5.body.getD .skip
noncomputable def B5 : D := (annot C5 [[], [], [], [], []]).1
noncomputable def F5 (self : EV) (N : Nat) (x0 : V) (S : St) : Rs := runF E0 self N Try.f5 B5 [x0] S
theorem F5_eq (self : EV) (N : Nat) (x0 : V) (S : St) : F5 self N x0 S =
(binV E0 .eql 24 false true x0 .nilptr).bind fun t2 =>
ifK t2 (
some (.ret (.int .i64 0), S)) (
(nilCheckV x0).bind fun t5 =>
(faP 0 true 3 t5).bind fun t6 =>
(ldA 3 t6 (onS S)).bind fun p7 =>
callD (planOf E0 (B5.r.r.l).ops) S 4 [[], [], [], p7.2.log] (self.f 15 [p7.1] (onS p7.2)) fun t8 S8 =>
(nilCheckV x0).bind fun t10 =>
(faP 3 false 1 t10).bind fun t11 =>
(ld1 t11 (onS S8)).bind fun p12 =>
callD (planOf E0 (B5.r.r.l).ops) S 9 [[], [], [], p7.2.log, S8.log, [], [], [], p12.2.log] (self.f 16 [p12.1] (onS p12.2)) fun t13 S13 =>
(lnStr t13 (onS S13)).bind fun p14 =>
(binV E0 .sub 3 false false t8 p14.1).bind fun t15 =>
endP [(3, [8]), (4, [8])] S [[], [], [], p7.2.log, S8.log, [], [], [], p12.2.log, S13.log, p14.2.log, [], []] (onS p14.2) fun S17 =>
some (.ret t15, S17)) := by kernel_rfl
noncomputable def C6 : Code := Try.f6.body.getD .skip
noncomputable def B6 : D := (annot C6 [[], [], [], [0, 3, 4], [], [3], [], [], [0, 3], [2], []]).1
noncomputable def RL6 : List Nat := cellsOf Try.f6.results.toList
noncomputable def R6_2 (self : EV) (N : Nat) (nk : Ac → St → Rs) (ek : Nat → Ac → St → Rs) (a : Ac) (S : St) : Rs := projK [3] a fun a => dr E0 self RL6 N (B6.r.r).r (mkK E0 self Try.f6 nk ek) a S
theorem R6_2_eq (self : EV) (N : Nat) (nk : Ac → St → Rs) (ek : Nat → Ac → St → Rs) ( v3 : V) (S : St) : R6_2 self N nk ek (fr 30 [(3, v3)]) S =
some (.ret v3, S) := by kernel_rfl
noncomputable def L6_6 (self : EV) (N : Nat) (nk : Ac → St → Rs) (ek : Nat → Ac → St → Rs) (n : Nat) ( v0 v3 v4 : V) (S : St) : Rs := loopK [0, 3, 4] (dr E0 self RL6 N (B6.r.r.l.r.l.l)) (mkK E0 self Try.f6 nk ek) n (fr 30 [(0, v0), (3, v3), (4, v4)]) S
theorem L6_6_eq (self : EV) (N : Nat) (nk : Ac → St → Rs) (ek : Nat → Ac → St → Rs) (n : Nat) ( v0 v3 v4 : V) (S : St) : L6_6 self N nk ek (n + 1) v0 v3 v4 S =
(lnS v0 S).bind fun p9 =>
(binV E0 .lss 3 false false v4 p9.1).bind fun t10 =>
(guardV true t10).bind fun g12 => (bif g12 then some v4 else some (.tuple [])).bind fun t12 =>
(guardV true t10).bind fun g13 => (bif g13 then binV E0 .lss 3 false true t12 (.int .i64 8) else some (.tuple [])).bind fun t13 =>
(pickV t10 (some t13) (some (.bool false))).bind fun t14 =>
ifK t14 (
(ixP 1 v0 v4).bind fun t18 =>
(ld1 t18 (onS p9.2)).bind fun p19 =>
(ixP 1 v0 v4).bind fun t22 =>
(ld1 t22 (onS p19.2)).bind fun p23 =>
(lnStr p23.1 (onS p23.2)).bind fun p24 =>
(foldK minV p24.1 [(.int .i64 300)] (onS p24.2)).bind fun p25 =>
(sliceV E0 9 p19.1 none (some p25.1) none (onS p25.2)).bind fun p26 =>
(bsP 9 1 1 (Go.Proofs.YtbfdabjcgcbimaaR.Ev.one (sv [])) [(0, p26.1)] (onS p26.2)).bind fun p27 =>
(apP 9 1 16 v3 p27.1 (onS p27.2)).bind fun p28 =>
endP [(4, [8, 9, 10])] p9.2 [[], [], [], [], p19.2.log, [], [], [], p23.2.log, p24.2.log, p25.2.log, p26.2.log, p27.2.log, p28.2.log, []] (onS p28.2) fun S30 =>
(binV E0 .add 3 false true v4 (.int .i64 1)).bind fun t32 =>
L6_6 self N nk ek n v0 p28.1 t32 S30) (
ek 0 (fr 30 [(3, v3)]) p9.2) := by kernel_rfl
noncomputable def F6 (self : EV) (N : Nat) (x0 : V) (S : St) : Rs := runF E0 self N Try.f6 B6 [x0] S
theorem F6_eq (self : EV) (N : Nat) (x0 : V) (S : St) : F6 self N x0 S =
L6_6 self N (R6_2 self N (finN E0 self Try.f6) noEx) (exB 0 (R6_2 self N (finN E0 self Try.f6) noEx) noEx) N x0 .nilslice (.int .i64 0) S := by kernel_rfl
noncomputable def C7 : Code := Try.f7.body.getD .skip
noncomputable def B7 : D := (annot C7 [[], [], [], [], []]).1
noncomputable def F7 (self : EV) (N : Nat) (x0 : V) (S : St) : Rs := runF E0 self N Try.f7 B7 [x0] S
theorem F7_eq (self : EV) (N : Nat) (x0 : V) (S : St) : F7 self N x0 S =
(binV E0 .eql 24 false true x0 .nilptr).bind fun t2 =>
ifK t2 (
some (.ret .nilslice, S)) (
(nilCheckV x0).bind fun t5 =>
(faP 3 false 1 t5).bind fun t6 =>
(ld1 t6 S).bind fun p7 =>
callP (self.f 17 [p7.1] p7.2) fun t8 S8 =>
some (.ret t8, S8)) := by kernel_rfl
noncomputable def C8 : Code := Try.f8.body.getD .skip
noncomputable def B8 : D := (annot C8 [[], [], [], [], [], [], [], [], []]).1
noncomputable def F8 (self : EV) (N : Nat) (x0 x1 : V) (S : St) : Rs := runF E0 self N Try.f8 B8 [x0, x1] S
theorem F8_eq (self : EV) (N : Nat) (x0 x1 : V) (S : St) : F8 self N x0 x1 S =
(binV E0 .eql 24 false true x0 .nilptr).bind fun t2 =>
ifK t2 (
some (.ret (.int .i64 1), S)) (
callP (self.f 5 [x0] S) fun t7 S7 =>
callP (self.f 18 [x0, x1, t7] S7) fun t8 S8 =>
(binV E0 .neq 31 false true t8 (.int .i64 0)).bind fun t11 =>
(guardV false t11).bind fun g13 => (bif g13 then some x1 else some (.tuple [])).bind fun t13 =>
(guardV false t11).bind fun g14 => (bif g14 then lnS t13 S8 else some (.tuple [], S8)).bind fun p14 =>
(guardV false t11).bind fun g15 => (bif g15 then binV E0 .eql 3 false true p14.1 (.int .i64 0) else some (.tuple [])).bind fun t15 =>
(pickV t11 (some (.bool true)) (some t15)).bind fun t16 =>
ifK t16 (
some (.ret t8, p14.2)) (
(nilCheckV x0).bind fun t21 =>
(faP 5 false 1 t21).bind fun t22 =>
(ld1 t22 (onS p14.2)).bind fun p23 =>
(nilCheckV x0).bind fun t25 =>
(faP 3 false 1 t25).bind fun t26 =>
(ld1 t26 (onS p23.2)).bind fun p27 =>
callD (planOf E0 (B8.r.r.r.l).ops) p14.2 9 [[], [], [], [], p23.2.log, [], [], [], p27.2.log] (self.f 16 [p27.1] (onS p27.2)) fun t28 S28 =>
(lnStr t28 (onS S28)).bind fun p29 =>
(nilCheckV x0).bind fun t31 =>
(faP 3 false 1 t31).bind fun t32 =>
(ld1 t32 (onS p29.2)).bind fun p33 =>
(bsP 28 1 2 (Go.Proofs.YtbfdabjcgcbimaaR.Ev.one .nilslice) [(0, p33.1), (1, x1)] (onS p33.2)).bind fun p35 =>
callD (planOf E0 (B8.r.r.r.l).ops) p14.2 17 [[], [], [], [], p23.2.log, [], [], [], p27.2.log, S28.log, p29.2.log, [], [], [], p33.2.log, [], p35.2.log] (self.f 20 [p35.1] (onS p35.2)) fun t36 S36 =>
callD (planOf E0 (B8.r.r.r.l).ops) p14.2 18 [[], [], [], [], p23.2.log, [], [], [], p27.2.log, S28.log, p29.2.log, [], [], [], p33.2.log, [], p35.2.log, S36.log] (self.f 19 [x0, p23.1, p29.1, t36] (onS S36)) fun t37 S37 =>
endP [(4, [8, 9, 10, 14, 16, 17]), (8, [14, 16]), (9, [14, 16]), (10, [14, 16, 17])] p14.2 [[], [], [], [], p23.2.log, [], [], [], p27.2.log, S28.log, p29.2.log, [], [], [], p33.2.log, [], p35.2.log, S36.log, S37.log, []] (onS S37) fun S39 =>
some (.ret t37, S39))) := by kernel_rfl
noncomputable def C9 : Code := Try.f9.body.getD .skip
noncomputable def B9 : D := (annot C9 [[], [], [], [], [], [0, 1, 5], [], [], [], [], [], [], [0], [4], []]).1
noncomputable def RL9 : List Nat := cellsOf Try.f9.results.toList
noncomputable def R9_7 (self : EV) (N : Nat) (nk : Ac → St → Rs) (ek : Nat → Ac → St → Rs) (a : Ac) (S : St) : Rs := projK [] a fun a => dr E0 self RL9 N (B9.r.r).r (mkK E0 self Try.f9 nk ek) a S
theorem R9_7_eq (self : EV) (N : Nat) (nk : Ac → St → Rs) (ek : Nat → Ac → St → Rs) (S : St) : R9_7 self N nk ek (fr 26 []) S =
some (.ret (.bool true), S) := by kernel_rfl
noncomputable def L9_10 (self : EV) (N : Nat) (nk : Ac → St → Rs) (ek : Nat → Ac → St → Rs) (n : Nat) ( v0 v1 v5 : V) (S : St) : Rs := loopK [0, 1, 5] (dr E0 self RL9 N (B9.r.r.l.r.l.l)) (mkK E0 self Try.f9 nk ek) n (fr 26 [(0, v0), (1, v1), (5, v5)]) S
theorem L9_10_eq (self : EV) (N : Nat) (nk : Ac → St → Rs) (ek : Nat → Ac → St → Rs) (n : Nat) ( v0 v1 v5 : V) (S : St) : L9_10 self N nk ek (n + 1) v0 v1 v5 S =
(lnS v0 S).bind fun p13 =>
(binV E0 .lss 3 false false v5 p13.1).bind fun t14 =>
ifK t14 (
(ixP 1 v0 v5).bind fun t17 =>
(ld1 t17 (onS p13.2)).bind fun p18 =>
(ixP 1 v1 v5).bind fun t21 =>
(ld1 t21 (onS p18.2)).bind fun p22 =>
(binV E0 .neq 9 false false p18.1 p22.1).bind fun t23 =>
endP [(3, [7])] p13.2 [[], [], [], p18.2.log, [], [], [], p22.2.log, []] (onS p22.2) fun S24 =>
ifK t23 (
some (.ret (.bool false), S24)) (
(binV E0 .add 3 false true v5 (.int .i64 1)).bind fun t27 =>
L9_10 self N nk ek n v0 v1 t27 S24)) (
ek 0 (fr 26 []) p13.2) := by kernel_rfl
noncomputable def F9 (self : EV) (N : Nat) (x0 x1 : V) (S : St) : Rs := runF E0 self N Try.f9 B9 [x0, x1] S
theorem F9_eq (self : EV) (N : Nat) (x0 x1 : V) (S : St) : F9 self N x0 x1 S =
(lnS x0 S).bind fun p2 =>
(lnS x1 p2.2).bind fun p4 =>
(binV E0 .neq 3 false false p2.1 p4.1).bind fun t5 =>
ifK t5 (
some (.ret (.bool false), p4.2)) (
L9_10 self N (R9_7 self N (finN E0 self Try.f9) noEx) (exB 0 (R9_7 self N (finN E0 self Try.f9) noEx) noEx) N x0 x1 (.int .i64 0) p4.2) := by kernel_rfl
end
end Go.Proofs.YtbfdabjcgcbimaaR.W
namespace Go.Proofs.YtbfdabjcgcbimaaR.W
open Go.Proofs.YtbfdabjcgcbimaaR.Ev
set_option maxRecDepth 100000
noncomputable section
noncomputable def C10 : Code := Try.f10.body.getD .skip
noncomputable def B10 : D := (annot C10 [[], [], [], [], [], [], [], [], []]).1
noncomputable def F10 (self : EV) (N : Nat) (x0 x1 : V) (S : St) : Rs := runF E0 self N Try.f10 B10 [x0, x1] S
theorem F10_eq (self : EV) (N : Nat) (x0 x1 : V) (S : St) : F10 self N x0 x1 S =
(binV E0 .eql 24 false true x0 .nilptr).bind fun t2 =>
ifK t2 (
some (.ret (.int .i64 1), S)) (
(nilCheckV x0).bind fun t7 =>
(faP 0 true 3 t7).bind fun t8 =>
(ldA 3 t8 S).bind fun p9 =>
callP (self.f 15 [p9.1] p9.2) fun t10 S10 =>
callP (self.f 18 [x0, x1, t10] S10) fun t11 S11 =>
(binV E0 .neq 31 false true t11 (.int .i64 0)).bind fun t14 =>
ifK t14 (
some (.ret t11, S11)) (
(nilCheckV x0).bind fun t19 =>
(faP 5 false 1 t19).bind fun t20 =>
(ld1 t20 (onS S11)).bind fun p21 =>
(binV E0 .sub 3 true false (.int .i64 1) p21.1).bind fun t22 =>
callD (planOf E0 (B10.r.r.r.l).ops) S11 7 [[], [], [], [], p21.2.log, [], []] (self.f 17 [x1] (onS p21.2)) fun t24 S24 =>
callD (planOf E0 (B10.r.r.r.l).ops) S11 8 [[], [], [], [], p21.2.log, [], [], S24.log] (self.f 19 [x0, t22, (.int .i64 0), t24] (onS S24)) fun t25 S25 =>
endP [(4, [7])] S11 [[], [], [], [], p21.2.log, [], [], S24.log, S25.log, []] (onS S25) fun S27 =>
some (.ret t25, S27))) := by kernel_rfl
noncomputable def C17 : Code := Try.f17.body.getD .skip
noncomputable def B17 : D := (annot C17 [[], [], [], [], []]).1
noncomputable def F17 (self : EV) (N : Nat) (x0 : V) (S : St) : Rs := runF E0 self N Try.f17 B17 [x0] S
theorem F17_eq (self : EV) (N : Nat) (x0 : V) (S : St) : F17 self N x0 S =
(binV E0 .eql 28 false true x0 .nilslice).bind fun t2 =>
ifK t2 (
some (.ret .nilslice, S)) (
(bsP 9 1 0 (Go.Proofs.YtbfdabjcgcbimaaR.Ev.one (sv [])) [] S).bind fun p4 =>
(apP 9 1 16 p4.1 x0 p4.2).bind fun p6 =>
some (.ret p6.1, p6.2)) := by kernel_rfl
noncomputable def C18 : Code := Try.f18.body.getD .skip
noncomputable def B18 : D := (annot C18 [[], [], [], [], [], [], []]).1
noncomputable def F18 (self : EV) (N : Nat) (x0 x1 x2 : V) (S : St) : Rs := runF E0 self N Try.f18 B18 [x0, x1, x2] S
theorem F18_eq (self : EV) (N : Nat) (x0 x1 x2 : V) (S : St) : F18 self N x0 x1 x2 S =
(nilCheckV x0).bind fun t2 =>
(faP 7 false 1 t2).bind fun t3 =>
(ld1 t3 S).bind fun p4 =>
ifK p4.1 (
some (.ret (.int .i64 11), p4.2)) (
callP (self.f 16 [x1] p4.2) fun t8 S8 =>
(lnStr t8 S8).bind fun p9 =>
(binV E0 .gtr 3 false false p9.1 x2).bind fun t11 =>
ifK t11 (
some (.ret (.int .i64 10), p9.2)) (
some (.ret (.int .i64 0), p9.2))) := by kernel_rfl
noncomputable def C20 : Code := Try.f20.body.getD .skip
noncomputable def B20 : D := (annot C20 [[], [], [], [0, 3, 9, 10, 11], [], [0, 3], [], [], [], [], [], [0, 0, 3], [2], [], [], [6, 25, 26, 27], [], [6], [], [], [], [0, 6], [2], []]).1
noncomputable def RL20 : List Nat := cellsOf Try.f20.results.toList
noncomputable def R20_2 (self : EV) (N : Nat) (nk : Ac → St → Rs) (ek : Nat → Ac → St → Rs) (a : Ac) (S : St) : Rs := projK [0, 3] a fun a => dr E0 self RL20 N (B20.r.r).r (mkK E0 self Try.f20 nk ek) a S
noncomputable def R20_6 (self : EV) (N : Nat) (nk : Ac → St → Rs) (ek : Nat → Ac → St → Rs) (a : Ac) (S : St) : Rs := projK [6] a fun a => dr E0 self RL20 N (B20.r.r.r.l.r).r (mkK E0 self Try.f20 nk ek) a S
theorem R20_6_eq (self : EV) (N : Nat) (nk : Ac → St → Rs) (ek : Nat → Ac → St → Rs) ( v6 : V) (S : St) : R20_6 self N nk ek (fr 36 [(6, v6)]) S =
some (.ret v6, S) := by kernel_rfl
noncomputable def L20_12 (self : EV) (N : Nat) (nk : Ac → St → Rs) (ek : Nat → Ac → St → Rs) (n : Nat) ( v6 v25 v26 v27 : V) (S : St) : Rs := loopK [6, 25, 26, 27] (dr E0 self RL20 N (B20.r.r.r.l.r.l.r.l.l)) (mkK E0 self Try.f20 nk ek) n (fr 36 [(6, v6), (25, v25), (26, v26), (27, v27)]) S
theorem L20_12_eq (self : EV) (N : Nat) (nk : Ac → St → Rs) (ek : Nat → Ac → St → Rs) (n : Nat) ( v6 v25 v26 v27 : V) (S : St) : L20_12 self N nk ek (n + 1) v6 v25 v26 v27 S =
(binV E0 .lss 3 false false v27 v26).bind fun t13 =>
ifK t13 (
(ixP 1 v25 v27).bind fun t14 =>
(ld1 t14 S).bind fun p15 =>
(apP 9 1 16 v6 p15.1 p15.2).bind fun p19 =>
(binV E0 .add 3 false true v27 (.int .i64 1)).bind fun t21 =>
L20_12 self N nk ek n p19.1 v25 v26 t21 p19.2) (
ek 2 (fr 36 [(6, v6)]) S) := by kernel_rfl
theorem R20_2_eq (self : EV) (N : Nat) (nk : Ac → St → Rs) (ek : Nat → Ac → St → Rs) ( v0 v3 : V) (S : St) : R20_2 self N nk ek (fr 36 [(0, v0), (3, v3)]) S =
callP (self.f 36 [.nilslice, v3] S) fun t4 S4 =>
(lnS v0 S4).bind fun p10 =>
L20_12 self N (R20_6 self N (fun a s => projK [2] a fun a => nk a s) ek) (exB 2 (R20_6 self N (fun a s => projK [2] a fun a => nk a s) ek) ek) N t4 v0 p10.1 (.int .i64 0) p10.2 := by kernel_rfl
noncomputable def L20_26 (self : EV) (N : Nat) (nk : Ac → St → Rs) (ek : Nat → Ac → St → Rs) (n : Nat) ( v0 v3 v9 v10 v11 : V) (S : St) : Rs := loopK [0, 3, 9, 10, 11] (dr E0 self RL20 N (B20.r.r.l.r.l.l)) (mkK E0 self Try.f20 nk ek) n (fr 36 [(0, v0), (3, v3), (9, v9), (10, v10), (11, v11)]) S
theorem L20_26_eq (self : EV) (N : Nat) (nk : Ac → St → Rs) (ek : Nat → Ac → St → Rs) (n : Nat) ( v0 v3 v9 v10 v11 : V) (S : St) : L20_26 self N nk ek (n + 1) v0 v3 v9 v10 v11 S =
(binV E0 .lss 3 false false v11 v10).bind fun t27 =>
ifK t27 (
(ixP 1 v9 v11).bind fun t28 =>
(ld1 t28 S).bind fun p29 =>
(lnS p29.1 p29.2).bind fun p33 =>
(binV E0 .add 3 false false v3 p33.1).bind fun t34 =>
(binV E0 .lss 3 false true t34 (.int .i64 0)).bind fun t37 =>
ifK t37 (
callP (panicK (.iface 9 (sv [108, 101, 110, 32, 111, 117, 116, 32, 111, 102, 32, 114, 97, 110, 103, 101])) p33.2) fun t39 S39 =>
(binV E0 .add 3 false true v11 (.int .i64 1)).bind fun t40 =>
L20_26 self N nk ek n v0 t34 v9 v10 t40 S39) (
(binV E0 .add 3 false true v11 (.int .i64 1)).bind fun t42 =>
L20_26 self N nk ek n v0 t34 v9 v10 t42 p33.2)) (
ek 0 (fr 36 [(0, v0), (3, v3)]) S) := by kernel_rfl
noncomputable def F20 (self : EV) (N : Nat) (x0 : V) (S : St) : Rs := runF E0 self N Try.f20 B20 [x0] S
theorem F20_eq (self : EV) (N : Nat) (x0 : V) (S : St) : F20 self N x0 S =
(lnS x0 S).bind fun p24 =>
L20_26 self N (R20_2 self N (finN E0 self Try.f20) noEx) (exB 0 (R20_2 self N (finN E0 self Try.f20) noEx) noEx) N x0 (.int .i64 0) x0 p24.1 (.int .i64 0) p24.2 := by kernel_rfl
noncomputable def C36 : Code := Try.f36.body.getD .skip
noncomputable def B36 : D := (annot C36 [[], [], [0, 0, 1], [4], [], [], [], []]).1
noncomputable def RL36 : List Nat := cellsOf Try.f36.results.toList
noncomputable def R36_1 (self : EV) (N : Nat) (nk : Ac → St → Rs) (ek : Nat → Ac → St → Rs) (a : Ac) (S : St) : Rs := projK [0, 1] a fun a => dr E0 self RL36 N (B36.r).r (mkK E0 self Try.f36 nk ek) a S
theorem R36_1_eq (self : EV) (N : Nat) (nk : Ac → St → Rs) (ek : Nat → Ac → St → Rs) ( v0 v1 : V) (S : St) : R36_1 self N nk ek (fr 27 [(0, v0), (1, v1)]) S =
(capP v0 S).bind fun p4 =>
(lnS v0 p4.2).bind fun p6 =>
(binV E0 .sub 3 false false p4.1 p6.1).bind fun t7 =>
(binV E0 .sub 3 false false v1 t7).bind fun t8 =>
(binV E0 .gtr 3 false true t8 (.int .i64 0)).bind fun t11 =>
ifK t11 (
(capP v0 p6.2).bind fun p14 =>
(sliceV E0 28 v0 none (some p14.1) none p14.2).bind fun p15 =>
(extendAt E0 9 1 16 p15.1 t8 p15.2).bind fun p17 =>
(lnS v0 p17.2).bind fun p19 =>
(sliceV E0 28 p17.1 none (some p19.1) none p19.2).bind fun p20 =>
some (.ret p20.1, p20.2)) (
some (.ret v0, p6.2)) := by kernel_rfl
noncomputable def F36 (self : EV) (N : Nat) (x0 x1 : V) (S : St) : Rs := runF E0 self N Try.f36 B36 [x0, x1] S
theorem F36_eq (self : EV) (N : Nat) (x0 x1 : V) (S : St) : F36 self N x0 x1 S =
(binV E0 .lss 3 false true x1 (.int .i64 0)).bind fun t27 =>
ifK t27 (
callP (panicK (.iface 9 (sv [99, 97, 110, 110, 111, 116, 32, 98, 101, 32, 110, 101, 103, 97, 116, 105, 118, 101])) S) fun t29 S29 =>
R36_1 self N (finN E0 self Try.f36) noEx (fr 27 [(0, x0), (1, x1)]) S29) (
R36_1 self N (finN E0 self Try.f36) noEx (fr 27 [(0, x0), (1, x1)]) S) := by kernel_rfl
end
end Go.Proofs.YtbfdabjcgcbimaaR.W
namespace Go.Proofs.YtbfdabjcgcbimaaR.W
open Go.Proofs.YtbfdabjcgcbimaaR.Ev
set_option maxRecDepth 100000
noncomputable section
noncomputable def C19 : Code := Try.f19.body.getD .skip
noncomputable def B19 : D := (annot C19 [[], [], [], [], [0, 1, 3, 9, 10, 11], [], [0, 1, 3, 9, 10], [], [], [0, 0, 1, 3, 9, 10], [8], [], [], [], [], [], [], [], [], []]).1
noncomputable def RL19 : List Nat := cellsOf Try.f19.results.toList
noncomputable def R19_5 (self : EV) (N : Nat) (nk : Ac → St → Rs) (ek : Nat → Ac → St → Rs) (a : Ac) (S : St) : Rs := projK [0, 1, 3, 9, 10] a fun a => dr E0 self RL19 N (B19.r.r.r).r (mkK E0 self Try.f19 nk ek) a S
theorem R19_5_eq (self : EV) (N : Nat) (nk : Ac → St → Rs) (ek : Nat → Ac → St → Rs) ( v0 v1 v3 v9 v10 : V) (S : St) : R19_5 self N nk ek (fr 121 [(0, v0), (1, v1), (3, v3), (9, v9), (10, v10)]) S =
(nilCheckV v0).bind fun t8 =>
(faP 0 true 3 t8).bind fun t9 =>
(faP 0 false 1 t9).bind fun t10 =>
(ld1 t10 (onS S)).bind fun p11 =>
(nilCheckV v0).bind fun t14 =>
(faP 0 true 3 t14).bind fun t15 =>
(ldA 3 t15 (onS p11.2)).bind fun p16 =>
(nilCheckV v0).bind fun t18 =>
(faP 0 true 3 t18).bind fun t19 =>
(faP 1 false 1 t19).bind fun t20 =>
(ld1 t20 (onS p16.2)).bind fun p21 =>
(binV E0 .add 3 false true p21.1 (.int .i64 1)).bind fun t22 =>
(nilCheckV v0).bind fun t24 =>
(faP 6 false 1 t24).bind fun t25 =>
(ld1 t25 (onS p21.2)).bind fun p26 =>
(binV E0 .sub 3 false false t22 p26.1).bind fun t27 =>
(nilCheckV v0).bind fun t29 =>
(faP 4 false 1 t29).bind fun t30 =>
(ld1 t30 (onS p26.2)).bind fun p31 =>
(binV E0 .add 42 false true p31.1 (.int .u64 1)).bind fun t32 =>
(lnStr v9 (onS p31.2)).bind fun p35 =>
callD (planOf E0 (B19.r.r.r.r.l.l).ops) S 30 [[], [], [], [], [], p11.2.log, [], [], [], [], p16.2.log, [], [], [], [], p21.2.log, [], [], [], [], p26.2.log, [], [], [], [], p31.2.log, [], [], [], p35.2.log] (self.f 24 [t32, v1, p35.1] (onS p35.2)) fun t36 S36 =>
callD (planOf E0 (B19.r.r.r.r.l.l).ops) S 31 [[], [], [], [], [], p11.2.log, [], [], [], [], p16.2.log, [], [], [], [], p21.2.log, [], [], [], [], p26.2.log, [], [], [], [], p31.2.log, [], [], [], p35.2.log, S36.log] (self.f 23 [p16.1, t27, t36] (onS S36)) fun t37 S37 =>
(nilCheckV v0).bind fun t39 =>
(faP 0 true 3 t39).bind fun t40 =>
(faP 0 false 1 t40).bind fun t41 =>
(ld1 t41 (onS S37)).bind fun p42 =>
(bsP 56 1 3 (Go.Proofs.YtbfdabjcgcbimaaR.Ev.one .nilfn) [(0, (.fn (.func 25) [p11.1] [])), (1, t37), (2, (.fn (.func 25) [p42.1] []))] (onS p42.2)).bind fun p44 =>
(apP 56 1 8 v10 p44.1 (onS p44.2)).bind fun p45 =>
endP [(5, [10, 15, 20, 25, 29, 30, 31, 36]), (10, [15, 20, 25, 29, 30, 36]), (15, [20, 25, 29, 30, 36]), (20, [25, 29, 30, 36]), (25, [29, 36]), (29, [36]), (30, [36]), (31, [36])] S [[], [], [], [], [], p11.2.log, [], [], [], [], p16.2.log, [], [], [], [], p21.2.log, [], [], [], [], p26.2.log, [], [], [], [], p31.2.log, [], [], [], p35.2.log, S36.log, S37.log, [], [], [], [], p42.2.log, [], p44.2.log, p45.2.log, []] (onS p45.2) fun S47 =>
callP (self.f 22 [p45.1] S47) fun t49 S49 =>
(binV E0 .neq 31 false true t49 (.int .i64 0)).bind fun t52 =>
ifK t52 (
(nilCheckV v0).bind fun t54 =>
(faP 7 false 1 t54).bind fun t55 =>
(stP 1 t55 (.bool true) S49).bind fun p56 =>
some (.ret t49, p56.2)) (
(nilCheckV v0).bind fun t65 =>
(faP 6 false 1 t65).bind fun t66 =>
(ld1 t66 S49).bind fun p67 =>
(binV E0 .sub 3 true false (.int .i64 1) p67.1).bind fun t68 =>
(nilCheckV v0).bind fun t69 =>
(faP 3 false 1 t69).bind fun t70 =>
(stP 1 t70 v3 p67.2).bind fun p71 =>
(nilCheckV v0).bind fun t72 =>
(faP 5 false 1 t72).bind fun t73 =>
(stP 1 t73 v1 p71.2).bind fun p74 =>
(nilCheckV v0).bind fun t75 =>
(faP 6 false 1 t75).bind fun t76 =>
(stP 1 t76 t68 p74.2).bind fun p77 =>
(nilCheckV v0).bind fun t79 =>
(faP 4 false 1 t79).bind fun t80 =>
(ld1 t80 p77.2).bind fun p81 =>
(binV E0 .add 42 false true p81.1 (.int .u64 1)).bind fun t82 =>
(nilCheckV v0).bind fun t83 =>
(faP 4 false 1 t83).bind fun t84 =>
(stP 1 t84 t82 p81.2).bind fun p85 =>
some (.ret (.int .i64 0), p85.2)) := by kernel_rfl
noncomputable def L19_90 (self : EV) (N : Nat) (nk : Ac → St → Rs) (ek : Nat → Ac → St → Rs) (n : Nat) ( v0 v1 v3 v9 v10 v11 : V) (S : St) : Rs := loopK [0, 1, 3, 9, 10, 11] (dr E0 self RL19 N (B19.r.r.r.l.r.l.l)) (mkK E0 self Try.f19 nk ek) n (fr 121 [(0, v0), (1, v1), (3, v3), (9, v9), (10, v10), (11, v11)]) S
theorem L19_90_eq (self : EV) (N : Nat) (nk : Ac → St → Rs) (ek : Nat → Ac → St → Rs) (n : Nat) ( v0 v1 v3 v9 v10 v11 : V) (S : St) : L19_90 self N nk ek (n + 1) v0 v1 v3 v9 v10 v11 S =
(binV E0 .mul 3 false true v11 (.int .i64 128)).bind fun t92 =>
(lnStr v9 S).bind fun p94 =>
(binV E0 .lss 3 false false t92 p94.1).bind fun t95 =>
ifK t95 (
(nilCheckV v0).bind fun t98 =>
(faP 0 true 3 t98).bind fun t99 =>
(ldA 3 t99 (onS p94.2)).bind fun p100 =>
(nilCheckV v0).bind fun t102 =>
(faP 0 true 3 t102).bind fun t103 =>
(ldA 3 t103 (onS p100.2)).bind fun p104 =>
callD (planOf E0 (B19.r.r.r.l.r.l.l.r.l.l).ops) p94.2 10 [[], [], [], [], p100.2.log, [], [], [], p104.2.log, []] (self.f 35 [p104.1, v1] (onS p104.2)) fun t106 S106 =>
(binV E0 .add 3 false false t106 v11).bind fun t108 =>
(binV E0 .mul 3 false true v11 (.int .i64 128)).bind fun t111 =>
(binV E0 .add 3 false true v11 (.int .i64 1)).bind fun t113 =>
(binV E0 .mul 3 false true t113 (.int .i64 128)).bind fun t114 =>
(lnStr v9 (onS S106)).bind fun p116 =>
(foldK minV t114 [p116.1] (onS p116.2)).bind fun p117 =>
(sliceV E0 9 v9 (some t111) (some p117.1) none (onS p117.2)).bind fun p118 =>
callD (planOf E0 (B19.r.r.r.l.r.l.l.r.l.l).ops) p94.2 23 [[], [], [], [], p100.2.log, [], [], [], p104.2.log, [], S106.log, [], [], [], [], [], [], [], [], [], p116.2.log, p117.2.log, p118.2.log] (self.f 23 [p100.1, t108, p118.1] (onS p118.2)) fun t119 S119 =>
(bsP 56 1 1 (Go.Proofs.YtbfdabjcgcbimaaR.Ev.one .nilfn) [(0, t119)] (onS S119)).bind fun p120 =>
(apP 56 1 8 v10 p120.1 (onS p120.2)).bind fun p121 =>
endP [(4, [8, 10, 20, 21, 22]), (8, [20, 21, 22]), (10, [20, 21, 22])] p94.2 [[], [], [], [], p100.2.log, [], [], [], p104.2.log, [], S106.log, [], [], [], [], [], [], [], [], [], p116.2.log, p117.2.log, p118.2.log, S119.log, p120.2.log, p121.2.log, []] (onS p121.2) fun S123 =>
(binV E0 .add 3 false true v11 (.int .i64 1)).bind fun t125 =>
L19_90 self N nk ek n v0 v1 v3 v9 p121.1 t125 S123) (
ek 0 (fr 121 [(0, v0), (1, v1), (3, v3), (9, v9), (10, v10)]) p94.2) := by kernel_rfl
noncomputable def F19 (self : EV) (N : Nat) (x0 x1 x2 x3 : V) (S : St) : Rs := runF E0 self N Try.f19 B19 [x0, x1, x2, x3] S
theorem F19_eq (self : EV) (N : Nat) (x0 x1 x2 x3 : V) (S : St) : F19 self N x0 x1 x2 x3 S =
callP (self.f 16 [x3] S) fun t2 S2 =>
(binV E0 .quo 3 false true x2 (.int .i64 128)).bind fun t88 =>
L19_90 self N (R19_5 self N (finN E0 self Try.f19) noEx) (exB 0 (R19_5 self N (finN E0 self Try.f19) noEx) noEx) N x0 x1 x3 t2 .nilslice t88 S2 := by kernel_rfl
noncomputable def C22 : Code := Try.f22.body.getD .skip
noncomputable def B22 : D := (annot C22 [[], [], [6, 7, 8], [], [], [], [], [], [], [], [], [0], [2], []]).1
noncomputable def RL22 : List Nat := cellsOf Try.f22.results.toList
noncomputable def R22_1 (self : EV) (N : Nat) (nk : Ac → St → Rs) (ek : Nat → Ac → St → Rs) (a : Ac) (S : St) : Rs := projK [] a fun a => dr E0 self RL22 N (B22.r).r (mkK E0 self Try.f22 nk ek) a S
theorem R22_1_eq (self : EV) (N : Nat) (nk : Ac → St → Rs) (ek : Nat → Ac → St → Rs) (S : St) : R22_1 self N nk ek (fr 18 []) S =
some (.ret (.int .i64 0), S) := by kernel_rfl
noncomputable def L22_6 (self : EV) (N : Nat) (nk : Ac → St → Rs) (ek : Nat → Ac → St → Rs) (n : Nat) ( v6 v7 v8 : V) (S : St) : Rs := loopK [6, 7, 8] (dr E0 self RL22 N (B22.r.l.r.l.l)) (mkK E0 self Try.f22 nk ek) n (fr 18 [(6, v6), (7, v7), (8, v8)]) S
theorem L22_6_eq (self : EV) (N : Nat) (nk : Ac → St → Rs) (ek : Nat → Ac → St → Rs) (n : Nat) ( v6 v7 v8 : V) (S : St) : L22_6 self N nk ek (n + 1) v6 v7 v8 S =
(binV E0 .lss 3 false false v8 v7).bind fun t7 =>
ifK t7 (
(ixP 1 v6 v8).bind fun t8 =>
(ld1 t8 S).bind fun p9 =>
callP (callK E0 self p9.1 [] p9.2) fun t12 S12 =>
(binV E0 .neq 31 false true t12 (.int .i64 0)).bind fun t15 =>
ifK t15 (
some (.ret t12, S12)) (
(binV E0 .add 3 false true v8 (.int .i64 1)).bind fun t18 =>
L22_6 self N nk ek n v6 v7 t18 S12)) (
ek 0 (fr 18 []) S) := by kernel_rfl
noncomputable def F22 (self : EV) (N : Nat) (x0 : V) (S : St) : Rs := runF E0 self N Try.f22 B22 [x0] S
theorem F22_eq (self : EV) (N : Nat) (x0 : V) (S : St) : F22 self N x0 S =
(lnS x0 S).bind fun p4 =>
L22_6 self N (R22_1 self N (finN E0 self Try.f22) noEx) (exB 0 (R22_1 self N (finN E0 self Try.f22) noEx) noEx) N x0 p4.1 (.int .i64 0) p4.2 := by kernel_rfl
noncomputable def C23 : Code := Try.f23.body.getD .skip
noncomputable def B23 : D := (annot C23 [[], []]).1
noncomputable def F23 (self : EV) (N : Nat) (x0 x1 x2 : V) (S : St) : Rs := runF E0 self N Try.f23 B23 [x0, x1, x2] S
theorem F23_eq (self : EV) (N : Nat) (x0 x1 x2 : V) (S : St) : F23 self N x0 x1 x2 S =
(boxK 41 x0 S).bind fun p0 =>
(boxK 3 x1 p0.2).bind fun p1 =>
(boxK 9 x2 p1.2).bind fun p2 =>
some (.ret (.fn (.func 38) [] [p0.1, p1.1, p2.1]), p2.2) := by kernel_rfl
noncomputable def C38 : Code := Try.f38.body.getD .skip
noncomputable def B38 : D := (annot C38 [[], []]).1
noncomputable def F38 (self : EV) (N : Nat) (x0 x1 x2 : V) (S : St) : Rs := runF E0 self N Try.f38 B38 [x0, x1, x2] S
theorem F38_eq (self : EV) (N : Nat) (x0 x1 x2 : V) (S : St) : F38 self N x0 x1 x2 S =
(faP 0 false 1 x0).bind fun t1 =>
(ld1 t1 S).bind fun p2 =>
(ld1 x1 p2.2).bind fun p3 =>
(ld1 x2 p3.2).bind fun p4 =>
callP (self.f 39 [p2.1, p3.1, p4.1] p4.2) fun t5 S5 =>
some (.ret t5, S5) := by kernel_rfl
end
end Go.Proofs.YtbfdabjcgcbimaaR.W
namespace Go.Proofs.YtbfdabjcgcbimaaR.W
open Go.Proofs.YtbfdabjcgcbimaaR.Ev
set_option maxRecDepth 100000
noncomputable section
noncomputable def C24 : Code := Try.f24.body.getD .skip
noncomputable def B24 : D := (annot C24 [[], [], [], [0, 1, 2, 7, 11], [], [1, 2, 7], [], [], [], [0, 1, 2, 7], [6], [], [1, 2, 7, 23], [], [7], [], [], [], [0, 7], [6], [], [], [], []]).1
noncomputable def RL24 : List Nat := cellsOf Try.f24.results.toList
noncomputable def R24_2 (self : EV) (N : Nat) (nk : Ac → St → Rs) (ek : Nat → Ac → St → Rs) (a : Ac) (S : St) : Rs := projK [1, 2, 7] a fun a => dr E0 self RL24 N (B24.r.r).r (mkK E0 self Try.f24 nk ek) a S
noncomputable def R24_3 (self : EV) (N : Nat) (nk : Ac → St → Rs) (ek : Nat → Ac → St → Rs) (a : Ac) (S : St) : Rs := projK [7] a fun a => dr E0 self RL24 N (B24.r.r.r.l).r (mkK E0 self Try.f24 nk ek) a S
theorem R24_3_eq (self : EV) (N : Nat) (nk : Ac → St → Rs) (ek : Nat → Ac → St → Rs) ( v7 : V) (S : St) : R24_3 self N nk ek (fr 55 [(7, v7)]) S =
(makeSliceK E0 77 (.int .i64 80) (.int .i64 80) S).bind fun p4 =>
(sliceV E0 69 v7 none none none p4.2).bind fun p7 =>
(cpP 1 p4.1 p7.1 p7.2).bind fun p8 =>
(sliceV E0 77 p4.1 (some (.int .i64 64)) none none (onS p8.2)).bind fun p10 =>
(sliceV E0 69 v7 none none none (onS p10.2)).bind fun p11 =>
(cpP 1 p10.1 p11.1 (onS p11.2)).bind fun p12 =>
endP [(1, [2])] p8.2 [[], p10.2.log, p11.2.log, p12.2.log] p12.2 fun S13 =>
(convertV E0 77 9 p4.1 S13).bind fun p15 =>
some (.ret p15.1, p15.2) := by kernel_rfl
noncomputable def L24_18 (self : EV) (N : Nat) (nk : Ac → St → Rs) (ek : Nat → Ac → St → Rs) (n : Nat) ( v1 v2 v7 v23 : V) (S : St) : Rs := loopK [1, 2, 7, 23] (dr E0 self RL24 N (B24.r.r.r.l.l.r.l.l)) (mkK E0 self Try.f24 nk ek) n (fr 55 [(1, v1), (2, v2), (7, v7), (23, v23)]) S
theorem L24_18_eq (self : EV) (N : Nat) (nk : Ac → St → Rs) (ek : Nat → Ac → St → Rs) (n : Nat) ( v1 v2 v7 v23 : V) (S : St) : L24_18 self N nk ek (n + 1) v1 v2 v7 v23 S =
(binV E0 .lss 3 false true v23 (.int .i64 4)).bind fun t19 =>
ifK t19 (
(binV E0 .add 3 true false (.int .i64 8) v23).bind fun t23 =>
(binV E0 .add 3 true false (.int .i64 12) v23).bind fun t25 =>
(binV E0 .mul 3 true false (.int .i64 8) v23).bind fun t28 =>
(binV E0 .sub 3 true false (.int .i64 24) t28).bind fun t29 =>
(binV E0 .shr 3 false false v1 t29).bind fun t30 =>
(cvI .u8 t30 (onS S)).bind fun p31 =>
(binV E0 .mul 3 true false (.int .i64 8) v23).bind fun t34 =>
(binV E0 .sub 3 true false (.int .i64 24) t34).bind fun t35 =>
(binV E0 .shr 3 false false v2 t35).bind fun t36 =>
(cvI .u8 t36 (onS p31.2)).bind fun p37 =>
(ixA 16 1 false 1 v7 t23).bind fun t38 =>
(stP 1 t38 p31.1 (onS p37.2)).bind fun p39 =>
(ixA 16 1 false 1 v7 t25).bind fun t40 =>
(stP 1 t40 p37.1 (onS p39.2)).bind fun p41 =>
endP [(9, [15]), (15, [17])] S [[], [], [], [], [], [], [], [], [], p31.2.log, [], [], [], [], [], p37.2.log, [], p39.2.log, [], p41.2.log] p41.2 fun S42 =>
(binV E0 .add 3 false true v23 (.int .i64 1)).bind fun t43 =>
L24_18 self N nk ek n v1 v2 v7 t43 S42) (
ek 2 (fr 55 [(7, v7)]) S) := by kernel_rfl
theorem R24_2_eq (self : EV) (N : Nat) (nk : Ac → St → Rs) (ek : Nat → Ac → St → Rs) ( v1 v2 v7 : V) (S : St) : R24_2 self N nk ek (fr 55 [(1, v1), (2, v2), (7, v7)]) S =
L24_18 self N (R24_3 self N (fun a s => projK [6] a fun a => nk a s) ek) (exB 2 (R24_3 self N (fun a s => projK [6] a fun a => nk a s) ek) ek) N v1 v2 v7 (.int .i64 0) S := by kernel_rfl
noncomputable def L24_46 (self : EV) (N : Nat) (nk : Ac → St → Rs) (ek : Nat → Ac → St → Rs) (n : Nat) ( v0 v1 v2 v7 v11 : V) (S : St) : Rs := loopK [0, 1, 2, 7, 11] (dr E0 self RL24 N (B24.r.r.l.r.l.l)) (mkK E0 self Try.f24 nk ek) n (fr 55 [(0, v0), (1, v1), (2, v2), (7, v7), (11, v11)]) S
theorem L24_46_eq (self : EV) (N : Nat) (nk : Ac → St → Rs) (ek : Nat → Ac → St → Rs) (n : Nat) ( v0 v1 v2 v7 v11 : V) (S : St) : L24_46 self N nk ek (n + 1) v0 v1 v2 v7 v11 S =
(binV E0 .lss 3 false true v11 (.int .i64 8)).bind fun t47 =>
ifK t47 (
(binV E0 .mul 3 true false (.int .i64 8) v11).bind fun t53 =>
(binV E0 .sub 3 true false (.int .i64 56) t53).bind fun t54 =>
(binV E0 .shr 42 false false v0 t54).bind fun t55 =>
(cvI .u8 t55 S).bind fun p56 =>
(ixA 16 1 false 1 v7 v11).bind fun t57 =>
(stP 1 t57 p56.1 p56.2).bind fun p58 =>
(binV E0 .add 3 false true v11 (.int .i64 1)).bind fun t59 =>
L24_46 self N nk ek n v0 v1 v2 v7 t59 p58.2) (
ek 0 (fr 55 [(1, v1), (2, v2), (7, v7)]) S) := by kernel_rfl
noncomputable def F24 (self : EV) (N : Nat) (x0 x1 x2 : V) (S : St) : Rs := runF E0 self N Try.f24 B24 [x0, x1, x2] S
theorem F24_eq (self : EV) (N : Nat) (x0 x1 x2 : V) (S : St) : F24 self N x0 x1 x2 S =
(some (nwP 69 16 (Tr.ofListFrom .nil [(.int .u8 0), (.int .u8 0), (.int .u8 0), (.int .u8 0), (.int .u8 0), (.int .u8 0), (.int .u8 0), (.int .u8 0), (.int .u8 0), (.int .u8 0), (.int .u8 0), (.int .u8 0), (.int .u8 0), (.int .u8 0), (.int .u8 0), (.int .u8 0)] 0) S)).bind fun p1 =>
L24_46 self N (R24_2 self N (finN E0 self Try.f24) noEx) (exB 0 (R24_2 self N (finN E0 self Try.f24) noEx) noEx) N x0 x1 x2 p1.1 (.int .i64 0) p1.2 := by kernel_rfl
noncomputable def C25 : Code := Try.f25.body.getD .skip
noncomputable def B25 : D := (annot C25 [[], [], [], [], []]).1
noncomputable def F25 (self : EV) (N : Nat) (x0 : V) (S : St) : Rs := runF E0 self N Try.f25 B25 [x0] S
theorem F25_eq (self : EV) (N : Nat) (x0 : V) (S : St) : F25 self N x0 S =
(boxK 23 x0 S).bind fun p0 =>
(ld1 p0.1 p0.2).bind fun p2 =>
(binV E0 .eql 23 false true p2.1 .nilptr).bind fun t3 =>
ifK t3 (
some (.ret (.int .i64 1), p2.2)) (
(ld1 p0.1 p2.2).bind fun p5 =>
callP (self.f 40 [p5.1, (.fn (.func 41) [] [p0.1])] p5.2) fun t7 S7 =>
some (.ret t7, S7)) := by kernel_rfl
noncomputable def C41 : Code := Try.f41.body.getD .skip
noncomputable def B41 : D := (annot C41 [[], [0, 6, 7, 8], [], [0], [], [], [], [0, 0], []]).1
noncomputable def RL41 : List Nat := cellsOf Try.f41.results.toList
noncomputable def R41_0 (self : EV) (N : Nat) (nk : Ac → St → Rs) (ek : Nat → Ac → St → Rs) (a : Ac) (S : St) : Rs := projK [0] a fun a => dr E0 self RL41 N (B41).r (mkK E0 self Try.f41 nk ek) a S
theorem R41_0_eq (self : EV) (N : Nat) (nk : Ac → St → Rs) (ek : Nat → Ac → St → Rs) ( v0 : V) (S : St) : R41_0 self N nk ek (fr 25 [(0, v0)]) S =
(ld1 v0 S).bind fun p1 =>
(nilCheckV p1.1).bind fun t2 =>
(faP 1 false 1 t2).bind fun t3 =>
(stP 1 t3 .nilslice p1.2).bind fun p4 =>
nk (fr 25 []) p4.2 := by kernel_rfl
noncomputable def L41_11 (self : EV) (N : Nat) (nk : Ac → St → Rs) (ek : Nat → Ac → St → Rs) (n : Nat) ( v0 v6 v7 v8 : V) (S : St) : Rs := loopK [0, 6, 7, 8] (dr E0 self RL41 N (B41.l.r.l.l)) (mkK E0 self Try.f41 nk ek) n (fr 25 [(0, v0), (6, v6), (7, v7), (8, v8)]) S
theorem L41_11_eq (self : EV) (N : Nat) (nk : Ac → St → Rs) (ek : Nat → Ac → St → Rs) (n : Nat) ( v0 v6 v7 v8 : V) (S : St) : L41_11 self N nk ek (n + 1) v0 v6 v7 v8 S =
(binV E0 .lss 3 false false v8 v7).bind fun t12 =>
ifK t12 (
(ixP 129 v6 v8).bind fun t13 =>
(ldA 129 t13 S).bind fun p14 =>
(some (nwP 82 129 (Tr.ofListFrom .nil [(.int .i64 0), (.int .u8 0), (.int .u8 0), (.int .u8 0), (.int .u8 0), (.int .u8 0), (.int .u8 0), (.int .u8 0), (.int .u8 0), (.int .u8 0), (.int .u8 0), (.int .u8 0), (.int .u8 0), (.int .u8 0), (.int .u8 0), (.int .u8 0), (.int .u8 0), (.int .u8 0), (.int .u8 0), (.int .u8 0), (.int .u8 0), (.int .u8 0), (.int .u8 0), (.int .u8 0), (.int .u8 0), (.int .u8 0), (.int .u8 0), (.int .u8 0), (.int .u8 0), (.int .u8 0), (.int .u8 0), (.int .u8 0), (.int .u8 0), (.int .u8 0), (.int .u8 0), (.int .u8 0), (.int .u8 0), (.int .u8 0), (.int .u8 0), (.int .u8 0), (.int .u8 0), (.int .u8 0), (.int .u8 0), (.int .u8 0), (.int .u8 0), (.int .u8 0), (.int .u8 0), (.int .u8 0), (.int .u8 0), (.int .u8 0), (.int .u8 0), (.int .u8 0), (.int .u8 0), (.int .u8 0), (.int .u8 0), (.int .u8 0), (.int .u8 0), (.int .u8 0), (.int .u8 0), (.int .u8 0), (.int .u8 0), (.int .u8 0), (.int .u8 0), (.int .u8 0), (.int .u8 0), (.int .u8 0), (.int .u8 0), (.int .u8 0), (.int .u8 0), (.int .u8 0), (.int .u8 0), (.int .u8 0), (.int .u8 0), (.int .u8 0), (.int .u8 0), (.int .u8 0), (.int .u8 0), (.int .u8 0), (.int .u8 0), (.int .u8 0), (.int .u8 0), (.int .u8 0), (.int .u8 0), (.int .u8 0), (.int .u8 0), (.int .u8 0), (.int .u8 0), (.int .u8 0), (.int .u8 0), (.int .u8 0), (.int .u8 0), (.int .u8 0), (.int .u8 0), (.int .u8 0), (.int .u8 0), (.int .u8 0), (.int .u8 0), (.int .u8 0), (.int .u8 0), (.int .u8 0), (.int .u8 0), (.int .u8 0), (.int .u8 0), (.int .u8 0), (.int .u8 0), (.int .u8 0), (.int .u8 0), (.int .u8 0), (.int .u8 0), (.int .u8 0), (.int .u8 0), (.int .u8 0), (.int .u8 0), (.int .u8 0), (.int .u8 0), (.int .u8 0), (.int .u8 0), (.int .u8 0), (.int .u8 0), (.int .u8 0), (.int .u8 0), (.int .u8 0), (.int .u8 0), (.int .u8 0), (.int .u8 0), (.int .u8 0), (.int .u8 0), (.int .u8 0), (.int .u8 0)] 0) p14.2)).bind fun p15 =>
(stP 129 p15.1 p14.1 p15.2).bind fun p16 =>
(ld1 v0 (onS p16.2)).bind fun p17 =>
(nilCheckV p17.1).bind fun t18 =>
(faP 0 false 1 t18).bind fun t19 =>
(ld1 t19 (onS p17.2)).bind fun p20 =>
(faP 0 false 1 p15.1).bind fun t21 =>
(ld1 t21 (onS p20.2)).bind fun p22 =>
(faP 1 true 128 p15.1).bind fun t23 =>
(ldA 128 t23 (onS p22.2)).bind fun p24 =>
(ixP 128 p20.1 p22.1).bind fun t25 =>
(stP 128 t25 p24.1 (onS p24.2)).bind fun p26 =>
endP [(0, [5, 7]), (3, [5, 7]), (5, [7])] p16.2 [p17.2.log, [], [], p20.2.log, [], p22.2.log, [], p24.2.log, [], p26.2.log] p26.2 fun S27 =>
(binV E0 .add 3 false true v8 (.int .i64 1)).bind fun t28 =>
L41_11 self N nk ek n v0 v6 v7 t28 S27) (
ek 0 (fr 25 [(0, v0)]) S) := by kernel_rfl
noncomputable def F41 (self : EV) (N : Nat) (x0 : V) (S : St) : Rs := runF E0 self N Try.f41 B41 [x0] S
theorem F41_eq (self : EV) (N : Nat) (x0 : V) (S : St) : F41 self N x0 S =
(ld1 x0 S).bind fun p5 =>
(nilCheckV p5.1).bind fun t6 =>
(faP 1 false 1 t6).bind fun t7 =>
(ld1 t7 p5.2).bind fun p8 =>
(lnS p8.1 p8.2).bind fun p9 =>
L41_11 self N (R41_0 self N (finN E0 self Try.f41) noEx) (exB 0 (R41_0 self N (finN E0 self Try.f41) noEx) noEx) N x0 p8.1 p9.1 (.int .i64 0) p9.2 := by kernel_rfl
end
end Go.Proofs.YtbfdabjcgcbimaaR.W
