/-
  WHAT THE FUNCTIONS COME TO: each is read by the evaluator, printed, and told as a function of data, part 3 of 8 (no condition).
-/
import Derived.Test.YthmkdoaaciamlaaW2
import Derived.Test.YthmkdoaaciamlaaProg
import Derived.KernelRfl
/-
  THE FUNCTIONS' SECOND READING, PRINTED (no condition): each equation is by the kernel.
-/
namespace Go.Proofs.Ythmkdoaaciamlaa.W
open Go.Proofs.Ythmkdoaaciamlaa.Ev
set_option maxRecDepth 100000
noncomputable section


/-! ### 73: internal/stringslite.IndexByte -/
noncomputable def C73 : Code := Try.f73.body.getD .skip
noncomputable def B73 : D := (annot C73 [[], []]).1
noncomputable def RL73 : List Nat := cellsOf Try.f73.results.toList

noncomputable def F73 (self : EV) (N : Nat) (x0 x1 : V) (S : St) : Rs := runF E0 self N Try.f73 B73 [x0, x1] S
theorem F73_eq (self : EV) (N : Nat) (x0 x1 : V) (S : St) : F73 self N x0 x1 S =
callP (callK E0 self (.fn (.func 76) [] []) [x0, x1] S) fun t3 S3 =>
some (.ret t3, S3) := by kernel_rfl

/-! ### 74: strings.ContainsAny -/
noncomputable def C74 : Code := Try.f74.body.getD .skip
noncomputable def B74 : D := (annot C74 [[], []]).1
noncomputable def RL74 : List Nat := cellsOf Try.f74.results.toList

noncomputable def F74 (self : EV) (N : Nat) (x0 x1 : V) (S : St) : Rs := runF E0 self N Try.f74 B74 [x0, x1] S
theorem F74_eq (self : EV) (N : Nat) (x0 x1 : V) (S : St) : F74 self N x0 x1 S =
callP (self.f 77 [x0, x1] S) fun t3 S3 =>
(binV E0 .geq 3 false true t3 (.int .i64 0)).bind fun t4 =>
some (.ret t4, S3) := by kernel_rfl

/-! ### 77: strings.IndexAny -/
noncomputable def C77 : Code := Try.f77.body.getD .skip
noncomputable def B77 : D := (annot C77 [[], [], [], [], [], [], [], [], [], [], [], [], [], [], [0, 6, 8], [], [], [], [], [], [], [0], [0, 1], [], [0, 0, 1], [4], [], [1, 45], [], [], [], [], [], [], [0], [4], []]).1
noncomputable def RL77 : List Nat := cellsOf Try.f77.results.toList
noncomputable def R77_22 (self : EV) (N : Nat) (nk : Ac → St → Rs) (ek : Nat → Ac → St → Rs) (a : Ac) (S : St) : Rs := projK [0, 1] a fun a => dr E0 self RL77 N (B77.r.r.r).r (mkK E0 self Try.f77 nk ek) a S
noncomputable def R77_23 (self : EV) (N : Nat) (nk : Ac → St → Rs) (ek : Nat → Ac → St → Rs) (a : Ac) (S : St) : Rs := projK [] a fun a => dr E0 self RL77 N (B77.r.r.r.r.l).r (mkK E0 self Try.f77 nk ek) a S
theorem R77_23_eq (self : EV) (N : Nat) (nk : Ac → St → Rs) (ek : Nat → Ac → St → Rs) (S : St) : R77_23 self N nk ek (fr 55 []) S =
some (.ret (.int .i64 (-1)), S) := by kernel_rfl

noncomputable def N77_27 (self : EV) (N : Nat) (nk : Ac → St → Rs) (ek : Nat → Ac → St → Rs) (n : Nat) : Ac → St → Rs := fun a S => projK [1, 45] a fun a => loopK [1, 45] (dr E0 self RL77 N (B77.r.r.r.r.l.l.r.l).l) (mkK E0 self Try.f77 nk ek) n a S
noncomputable def L77_27 (self : EV) (N : Nat) (nk : Ac → St → Rs) (ek : Nat → Ac → St → Rs) (n : Nat) ( v1 v45 : V) (S : St) : Rs := loopK [1, 45] (dr E0 self RL77 N (B77.r.r.r.r.l.l.r.l).l) (mkK E0 self Try.f77 nk ek) n (fr 55 [(1, v1), (45, v45)]) S
theorem L77_27_eq (self : EV) (N : Nat) (nk : Ac → St → Rs) (ek : Nat → Ac → St → Rs) (n : Nat) ( v1 v45 : V) (S : St) : L77_27 self N nk ek (n + 1) v1 v45 S =
(nextK v45 true S).bind fun p28 =>
(extractV p28.1 0).bind fun t29 =>
ifK t29 (
(extractV p28.1 1).bind fun t30 =>
(extractV p28.1 2).bind fun t31 =>
callP (self.f 78 [v1, t31] p28.2) fun t36 S36 =>
(binV E0 .geq 3 false true t36 (.int .i64 0)).bind fun t37 =>
ifK t37 (
some (.ret t30, S36)) (
L77_27 self N nk ek n v1 v45 S36)) (
ek 2 (fr 55 []) p28.2) := by kernel_rfl
theorem N77_27_eq (self : EV) (N : Nat) (nk : Ac → St → Rs) (ek : Nat → Ac → St → Rs) (n : Nat) ( v1 v45 : V) (S : St) : N77_27 self N nk ek n (fr 55 [(1, v1), (45, v45)]) S = L77_27 self N nk ek n v1 v45 S := by kernel_rfl

theorem R77_22_eq (self : EV) (N : Nat) (nk : Ac → St → Rs) (ek : Nat → Ac → St → Rs) ( v0 v1 : V) (S : St) : R77_22 self N nk ek (fr 55 [(0, v0), (1, v1)]) S =
(rangeStrK E0 9 v0 S).bind fun p26 =>
L77_27 self N (R77_23 self N (fun a s => projK [4] a fun a => nk a s) ek) (exB 2 (R77_23 self N (fun a s => projK [4] a fun a => nk a s) ek) ek) N v1 p26.1 p26.2 := by kernel_rfl

noncomputable def R77_52 (self : EV) (N : Nat) (nk : Ac → St → Rs) (ek : Nat → Ac → St → Rs) (a : Ac) (S : St) : Rs := projK [] a fun a => dr E0 self RL77 N (B77.r.r.r.l.r.l.r.r.l).r (mkK E0 self Try.f77 nk ek) a S
theorem R77_52_eq (self : EV) (N : Nat) (nk : Ac → St → Rs) (ek : Nat → Ac → St → Rs) (S : St) : R77_52 self N nk ek (fr 55 []) S =
some (.ret (.int .i64 (-1)), S) := by kernel_rfl

noncomputable def N77_55 (self : EV) (N : Nat) (nk : Ac → St → Rs) (ek : Nat → Ac → St → Rs) (n : Nat) : Ac → St → Rs := fun a S => projK [0, 6, 8] a fun a => loopK [0, 6, 8] (dr E0 self RL77 N (B77.r.r.r.l.r.l.r.r.l.l.r.l).l) (mkK E0 self Try.f77 nk ek) n a S
noncomputable def L77_55 (self : EV) (N : Nat) (nk : Ac → St → Rs) (ek : Nat → Ac → St → Rs) (n : Nat) ( v0 v6 v8 : V) (S : St) : Rs := loopK [0, 6, 8] (dr E0 self RL77 N (B77.r.r.r.l.r.l.r.r.l.l.r.l).l) (mkK E0 self Try.f77 nk ek) n (fr 55 [(0, v0), (6, v6), (8, v8)]) S
theorem L77_55_eq (self : EV) (N : Nat) (nk : Ac → St → Rs) (ek : Nat → Ac → St → Rs) (n : Nat) ( v0 v6 v8 : V) (S : St) : L77_55 self N nk ek (n + 1) v0 v6 v8 S =
(lnStr v0 S).bind fun p58 =>
(binV E0 .lss 3 false false v8 p58.1).bind fun t59 =>
ifK t59 (
(ixS v0 v8).bind fun t62 =>
callP (self.f 81 [v6, t62] p58.2) fun t63 S63 =>
ifK t63 (
some (.ret v8, S63)) (
(binV E0 .add 3 false true v8 (.int .i64 1)).bind fun t67 =>
L77_55 self N nk ek n v0 v6 t67 S63)) (
ek 0 (fr 55 []) p58.2) := by kernel_rfl
theorem N77_55_eq (self : EV) (N : Nat) (nk : Ac → St → Rs) (ek : Nat → Ac → St → Rs) (n : Nat) ( v0 v6 v8 : V) (S : St) : N77_55 self N nk ek n (fr 55 [(0, v0), (6, v6), (8, v8)]) S = L77_55 self N nk ek n v0 v6 v8 S := by kernel_rfl

noncomputable def F77 (self : EV) (N : Nat) (x0 x1 : V) (S : St) : Rs := runF E0 self N Try.f77 B77 [x0, x1] S
theorem F77_eq (self : EV) (N : Nat) (x0 x1 : V) (S : St) : F77 self N x0 x1 S =
(binV E0 .eql 9 false true x1 (sv [])).bind fun t2 =>
ifK t2 (
some (.ret (.int .i64 (-1)), S)) (
(lnStr x1 S).bind fun p5 =>
(binV E0 .eql 3 false true p5.1 (.int .i64 1)).bind fun t6 =>
ifK t6 (
(ixS x1 (.int .i64 0)).bind fun t8 =>
(cvI .i32 t8 p5.2).bind fun p9 =>
(binV E0 .geq 21 false true p9.1 (.int .i32 128)).bind fun t12 =>
ifK t12 (
callP (self.f 78 [x0, (.int .i32 65533)] p9.2) fun t16 S16 =>
some (.ret t16, S16)) (
callP (self.f 78 [x0, p9.1] p9.2) fun t20 S20 =>
some (.ret t20, S20))) (
(lnStr x0 p5.2).bind fun p41 =>
callP (self.f 79 [p41.1] p41.2) fun t42 S42 =>
ifK t42 (
callP (self.f 80 [x1] S42) fun t44 S44 =>
(extractV t44 0).bind fun t46 =>
(extractV t44 1).bind fun t47 =>
(some (nwP 96 256 (Tr.ofListFrom .nil [(.bool false), (.bool false), (.bool false), (.bool false), (.bool false), (.bool false), (.bool false), (.bool false), (.bool false), (.bool false), (.bool false), (.bool false), (.bool false), (.bool false), (.bool false), (.bool false), (.bool false), (.bool false), (.bool false), (.bool false), (.bool false), (.bool false), (.bool false), (.bool false), (.bool false), (.bool false), (.bool false), (.bool false), (.bool false), (.bool false), (.bool false), (.bool false), (.bool false), (.bool false), (.bool false), (.bool false), (.bool false), (.bool false), (.bool false), (.bool false), (.bool false), (.bool false), (.bool false), (.bool false), (.bool false), (.bool false), (.bool false), (.bool false), (.bool false), (.bool false), (.bool false), (.bool false), (.bool false), (.bool false), (.bool false), (.bool false), (.bool false), (.bool false), (.bool false), (.bool false), (.bool false), (.bool false), (.bool false), (.bool false), (.bool false), (.bool false), (.bool false), (.bool false), (.bool false), (.bool false), (.bool false), (.bool false), (.bool false), (.bool false), (.bool false), (.bool false), (.bool false), (.bool false), (.bool false), (.bool false), (.bool false), (.bool false), (.bool false), (.bool false), (.bool false), (.bool false), (.bool false), (.bool false), (.bool false), (.bool false), (.bool false), (.bool false), (.bool false), (.bool false), (.bool false), (.bool false), (.bool false), (.bool false), (.bool false), (.bool false), (.bool false), (.bool false), (.bool false), (.bool false), (.bool false), (.bool false), (.bool false), (.bool false), (.bool false), (.bool false), (.bool false), (.bool false), (.bool false), (.bool false), (.bool false), (.bool false), (.bool false), (.bool false), (.bool false), (.bool false), (.bool false), (.bool false), (.bool false), (.bool false), (.bool false), (.bool false), (.bool false), (.bool false), (.bool false), (.bool false), (.bool false), (.bool false), (.bool false), (.bool false), (.bool false), (.bool false), (.bool false), (.bool false), (.bool false), (.bool false), (.bool false), (.bool false), (.bool false), (.bool false), (.bool false), (.bool false), (.bool false), (.bool false), (.bool false), (.bool false), (.bool false), (.bool false), (.bool false), (.bool false), (.bool false), (.bool false), (.bool false), (.bool false), (.bool false), (.bool false), (.bool false), (.bool false), (.bool false), (.bool false), (.bool false), (.bool false), (.bool false), (.bool false), (.bool false), (.bool false), (.bool false), (.bool false), (.bool false), (.bool false), (.bool false), (.bool false), (.bool false), (.bool false), (.bool false), (.bool false), (.bool false), (.bool false), (.bool false), (.bool false), (.bool false), (.bool false), (.bool false), (.bool false), (.bool false), (.bool false), (.bool false), (.bool false), (.bool false), (.bool false), (.bool false), (.bool false), (.bool false), (.bool false), (.bool false), (.bool false), (.bool false), (.bool false), (.bool false), (.bool false), (.bool false), (.bool false), (.bool false), (.bool false), (.bool false), (.bool false), (.bool false), (.bool false), (.bool false), (.bool false), (.bool false), (.bool false), (.bool false), (.bool false), (.bool false), (.bool false), (.bool false), (.bool false), (.bool false), (.bool false), (.bool false), (.bool false), (.bool false), (.bool false), (.bool false), (.bool false), (.bool false), (.bool false), (.bool false), (.bool false), (.bool false), (.bool false), (.bool false), (.bool false), (.bool false), (.bool false), (.bool false), (.bool false), (.bool false), (.bool false), (.bool false), (.bool false), (.bool false), (.bool false), (.bool false), (.bool false), (.bool false), (.bool false), (.bool false), (.bool false), (.bool false), (.bool false)] 0) S44)).bind fun p48 =>
(stP 256 p48.1 t46 p48.2).bind fun p49 =>
ifK t47 (
L77_55 self N (R77_52 self N (R77_22 self N (finN E0 self Try.f77) noEx) noEx) (exB 0 (R77_52 self N (R77_22 self N (finN E0 self Try.f77) noEx) noEx) noEx) N x0 p48.1 (.int .i64 0) p49.2) (
R77_22 self N (finN E0 self Try.f77) noEx (fr 55 [(0, x0), (1, x1)]) p49.2)) (
R77_22 self N (finN E0 self Try.f77) noEx (fr 55 [(0, x0), (1, x1)]) S42))) := by kernel_rfl

/-! ### 78: strings.IndexRune -/
noncomputable def C78 : Code := Try.f78.body.getD .skip
noncomputable def B78 : D := (annot C78 [[], [], [], [], [], [175], [], [], [], [], [], [], [0], [4], [], [], [], [], [], [], [], [0, 7, 8, 9], [], [], [], [], [], [], [], [], [0, 0, 7, 8, 9], [0, 7, 8, 9], [], [0, 7, 8, 9, 12], [], [8, 9], [], [], [], [0, 8, 9], [0, 7, 8, 9], [], [], [], [], [], [], [0], [4], [], [], [], [], [], [], [], [], [], [0, 7, 8, 9, 14, 15], [], [], [], [], [], [0, 7, 8, 9, 14, 15, 16], [], [8, 9], [], [], [0, 7, 8, 9, 14, 15], [], [0, 8, 9], [0, 7, 8, 9, 14, 15], [], [0, 0, 7, 8, 9, 14, 15], [0, 7, 8, 9, 14, 15], [0], [4], []]).1
noncomputable def RL78 : List Nat := cellsOf Try.f78.results.toList
noncomputable def R78_16 (self : EV) (N : Nat) (nk : Ac → St → Rs) (ek : Nat → Ac → St → Rs) (a : Ac) (S : St) : Rs := projK [] a fun a => dr E0 self RL78 N (B78.r.l.r.r.r.l).r (mkK E0 self Try.f78 nk ek) a S
theorem R78_16_eq (self : EV) (N : Nat) (nk : Ac → St → Rs) (ek : Nat → Ac → St → Rs) (S : St) : R78_16 self N nk ek (fr 187 []) S =
some (.ret (.int .i64 (-1)), S) := by kernel_rfl

noncomputable def N78_20 (self : EV) (N : Nat) (nk : Ac → St → Rs) (ek : Nat → Ac → St → Rs) (n : Nat) : Ac → St → Rs := fun a S => projK [175] a fun a => loopK [175] (dr E0 self RL78 N (B78.r.l.r.r.r.l.l.r.l).l) (mkK E0 self Try.f78 nk ek) n a S
noncomputable def L78_20 (self : EV) (N : Nat) (nk : Ac → St → Rs) (ek : Nat → Ac → St → Rs) (n : Nat) ( v175 : V) (S : St) : Rs := loopK [175] (dr E0 self RL78 N (B78.r.l.r.r.r.l.l.r.l).l) (mkK E0 self Try.f78 nk ek) n (fr 187 [(175, v175)]) S
theorem L78_20_eq (self : EV) (N : Nat) (nk : Ac → St → Rs) (ek : Nat → Ac → St → Rs) (n : Nat) ( v175 : V) (S : St) : L78_20 self N nk ek (n + 1) v175 S =
(nextK v175 true S).bind fun p21 =>
(extractV p21.1 0).bind fun t22 =>
ifK t22 (
(extractV p21.1 1).bind fun t23 =>
(extractV p21.1 2).bind fun t24 =>
(binV E0 .eql 21 false true t24 (.int .i32 65533)).bind fun t28 =>
ifK t28 (
some (.ret t23, p21.2)) (
L78_20 self N nk ek n v175 p21.2)) (
ek 9 (fr 187 []) p21.2) := by kernel_rfl
theorem N78_20_eq (self : EV) (N : Nat) (nk : Ac → St → Rs) (ek : Nat → Ac → St → Rs) (n : Nat) ( v175 : V) (S : St) : N78_20 self N nk ek n (fr 187 [(175, v175)]) S = L78_20 self N nk ek n v175 S := by kernel_rfl

noncomputable def R78_46 (self : EV) (N : Nat) (nk : Ac → St → Rs) (ek : Nat → Ac → St → Rs) (a : Ac) (S : St) : Rs := projK [] a fun a => dr E0 self RL78 N (B78.r.l.r.r.r.r.r.r.l.r.r.r.r).r (mkK E0 self Try.f78 nk ek) a S
theorem R78_46_eq (self : EV) (N : Nat) (nk : Ac → St → Rs) (ek : Nat → Ac → St → Rs) (S : St) : R78_46 self N nk ek (fr 187 []) S =
some (.ret (.int .i64 (-1)), S) := by kernel_rfl

noncomputable def N78_48 (self : EV) (N : Nat) (nk : Ac → St → Rs) (ek : Nat → Ac → St → Rs) (n : Nat) : Ac → St → Rs := fun a S => projK [0, 7, 8, 9] a fun a => loopK [0, 7, 8, 9] (dr E0 self RL78 N (B78.r.l.r.r.r.r.r.r.l.r.r.r.r.l.l).l) (mkK E0 self Try.f78 nk ek) n a S
noncomputable def L78_48 (self : EV) (N : Nat) (nk : Ac → St → Rs) (ek : Nat → Ac → St → Rs) (n : Nat) ( v0 v7 v8 v9 : V) (S : St) : Rs := loopK [0, 7, 8, 9] (dr E0 self RL78 N (B78.r.l.r.r.r.r.r.r.l.r.r.r.r.l.l).l) (mkK E0 self Try.f78 nk ek) n (fr 187 [(0, v0), (7, v7), (8, v8), (9, v9)]) S
noncomputable def R78_53 (self : EV) (N : Nat) (nk : Ac → St → Rs) (ek : Nat → Ac → St → Rs) (a : Ac) (S : St) : Rs := projK [0, 7, 8, 9] a fun a => dr E0 self RL78 N (B78.r.l.r.r.r.r.r.r.l.r.r.r.r.l.l.l.r.l.l).r (mkK E0 self Try.f78 nk ek) a S
noncomputable def R78_54 (self : EV) (N : Nat) (nk : Ac → St → Rs) (ek : Nat → Ac → St → Rs) (a : Ac) (S : St) : Rs := projK [8, 9] a fun a => dr E0 self RL78 N (B78.r.l.r.r.r.r.r.r.l.r.r.r.r.l.l.l.r.l.l.r.l).r (mkK E0 self Try.f78 nk ek) a S
theorem R78_54_eq (self : EV) (N : Nat) (nk : Ac → St → Rs) (ek : Nat → Ac → St → Rs) ( v8 v9 : V) (S : St) : R78_54 self N nk ek (fr 187 [(8, v8), (9, v9)]) S =
(binV E0 .sub 3 false false v9 v8).bind fun t57 =>
some (.ret t57, S) := by kernel_rfl

noncomputable def N78_60 (self : EV) (N : Nat) (nk : Ac → St → Rs) (ek : Nat → Ac → St → Rs) (n : Nat) : Ac → St → Rs := fun a S => projK [0, 7, 8, 9, 12] a fun a => loopK [0, 7, 8, 9, 12] (dr E0 self RL78 N (B78.r.l.r.r.r.r.r.r.l.r.r.r.r.l.l.l.r.l.l.r.l.l.r.l).l) (mkK E0 self Try.f78 nk ek) n a S
noncomputable def L78_60 (self : EV) (N : Nat) (nk : Ac → St → Rs) (ek : Nat → Ac → St → Rs) (n : Nat) ( v0 v7 v8 v9 v12 : V) (S : St) : Rs := loopK [0, 7, 8, 9, 12] (dr E0 self RL78 N (B78.r.l.r.r.r.r.r.r.l.r.r.r.r.l.l.l.r.l.l.r.l.l.r.l).l) (mkK E0 self Try.f78 nk ek) n (fr 187 [(0, v0), (7, v7), (8, v8), (9, v9), (12, v12)]) S
theorem L78_60_eq (self : EV) (N : Nat) (nk : Ac → St → Rs) (ek : Nat → Ac → St → Rs) (n : Nat) ( v0 v7 v8 v9 v12 : V) (S : St) : L78_60 self N nk ek (n + 1) v0 v7 v8 v9 v12 S =
(lnStr v7 S).bind fun p63 =>
(binV E0 .lss 3 false false v12 p63.1).bind fun t64 =>
ifK t64 (
(binV E0 .sub 3 false false v9 v12).bind fun t68 =>
(ixS v0 t68).bind fun t69 =>
(binV E0 .sub 3 false false v8 v12).bind fun t73 =>
(ixS v7 t73).bind fun t74 =>
(binV E0 .neq 5 false false t69 t74).bind fun t75 =>
ifK t75 (
none) (
(binV E0 .add 3 false true v12 (.int .i64 1)).bind fun t77 =>
L78_60 self N nk ek n v0 v7 v8 v9 t77 (relog p63.2 (onS p63.2) [[], [], [], [], [], [], [], [], [], [], []]))) (
ek 3 (fr 187 [(8, v8), (9, v9)]) p63.2) := by kernel_rfl
theorem N78_60_eq (self : EV) (N : Nat) (nk : Ac → St → Rs) (ek : Nat → Ac → St → Rs) (n : Nat) ( v0 v7 v8 v9 v12 : V) (S : St) : N78_60 self N nk ek n (fr 187 [(0, v0), (7, v7), (8, v8), (9, v9), (12, v12)]) S = L78_60 self N nk ek n v0 v7 v8 v9 v12 S := by kernel_rfl

theorem R78_53_eq (self : EV) (N : Nat) (nk : Ac → St → Rs) (ek : Nat → Ac → St → Rs) ( v0 v7 v8 v9 : V) (S : St) : R78_53 self N nk ek (fr 187 [(0, v0), (7, v7), (8, v8), (9, v9)]) S =
L78_60 self N (R78_54 self N (fun a s => projK [0, 7, 8, 9] a fun a => nk a s) ek) (exB 3 (R78_54 self N (fun a s => projK [0, 7, 8, 9] a fun a => nk a s) ek) ek) N v0 v7 v8 v9 (.int .i64 1) S := by kernel_rfl

theorem L78_48_eq (self : EV) (N : Nat) (nk : Ac → St → Rs) (ek : Nat → Ac → St → Rs) (n : Nat) ( v0 v7 v8 v9 : V) (S : St) : L78_48 self N nk ek (n + 1) v0 v7 v8 v9 S =
(lnStr v0 S).bind fun p51 =>
(binV E0 .lss 3 false false v9 p51.1).bind fun t52 =>
ifK t52 (
(ixS v0 v9).bind fun t81 =>
(ixS v7 v8).bind fun t84 =>
(binV E0 .neq 5 false false t81 t84).bind fun t85 =>
ifK t85 (
(binV E0 .add 3 false true v9 (.int .i64 1)).bind fun t88 =>
(sliceV E0 9 v0 (some t88) none none (onS (relog p51.2 (onS p51.2) [[], [], [], [], [], [], []]))).bind fun p89 =>
(ixS v7 v8).bind fun t92 =>
callD (planOf E0 (B78.r.l.r.r.r.r.r.r.l.r.r.r.r.l.l.l.r.l.l.l.r.l.l).ops) (relog p51.2 (onS p51.2) [[], [], [], [], [], [], []]) 7 [[], [], [], p89.2.log, [], [], []] (self.f 63 [p89.1, t92] (onS p89.2)) fun t93 S93 =>
(binV E0 .lss 3 false true t93 (.int .i64 0)).bind fun t96 =>
ifK t96 (
some (.ret (.int .i64 (-1)), (relog (relog p51.2 (onS p51.2) [[], [], [], [], [], [], []]) (onS S93) [[], [], [], p89.2.log, [], [], [], S93.log, []]))) (
(binV E0 .add 3 false true t93 (.int .i64 1)).bind fun t100 =>
(binV E0 .add 3 false false v9 t100).bind fun t101 =>
R78_53 self N (N78_48 self N nk ek n) (exB 2 (N78_48 self N nk ek n) ek) (fr 187 [(0, v0), (7, v7), (8, v8), (9, t101)]) (relog (relog p51.2 (onS p51.2) [[], [], [], [], [], [], []]) (onS S93) [[], [], [], p89.2.log, [], [], [], S93.log, []]))) (
R78_53 self N (N78_48 self N nk ek n) (exB 2 (N78_48 self N nk ek n) ek) (fr 187 [(0, v0), (7, v7), (8, v8), (9, v9)]) (relog p51.2 (onS p51.2) [[], [], [], [], [], [], []]))) (
ek 1 (fr 187 []) p51.2) := by kernel_rfl
theorem N78_48_eq (self : EV) (N : Nat) (nk : Ac → St → Rs) (ek : Nat → Ac → St → Rs) (n : Nat) ( v0 v7 v8 v9 : V) (S : St) : N78_48 self N nk ek n (fr 187 [(0, v0), (7, v7), (8, v8), (9, v9)]) S = L78_48 self N nk ek n v0 v7 v8 v9 S := by kernel_rfl

noncomputable def F78 (self : EV) (N : Nat) (x0 x1 : V) (S : St) : Rs := runF E0 self N Try.f78 B78 [x0, x1] S
theorem F78_eq (self : EV) (N : Nat) (x0 x1 : V) (S : St) : F78 self N x0 x1 S =
(binV E0 .leq 21 true false (.int .i32 0) x1).bind fun t2 =>
(guardV true t2).bind fun g4 => (bif g4 then some x1 else some (.tuple [])).bind fun t4 =>
(guardV true t2).bind fun g5 => (bif g5 then binV E0 .lss 21 false true t4 (.int .i32 128) else some (.tuple [])).bind fun t5 =>
(pickV t2 (some t5) (some (.bool false))).bind fun t6 =>
ifK t6 (
(cvI .u8 x1 S).bind fun p10 =>
callP (self.f 63 [x0, p10.1] p10.2) fun t11 S11 =>
some (.ret t11, S11)) (
(binV E0 .eql 21 false true x1 (.int .i32 65533)).bind fun t14 =>
ifK t14 (
(rangeStrK E0 9 x0 S).bind fun p19 =>
L78_20 self N (R78_16 self N (finN E0 self Try.f78) (exB 0 (finN E0 self Try.f78) noEx)) (exB 9 (R78_16 self N (finN E0 self Try.f78) (exB 0 (finN E0 self Try.f78) noEx)) (exB 0 (finN E0 self Try.f78) noEx)) N p19.1 p19.2) (
callP (self.f 82 [x1] S) fun t32 S32 =>
(unV .not t32).bind fun t33 =>
ifK t33 (
some (.ret (.int .i64 (-1)), S32)) (
(convertV E0 21 9 x1 S32).bind fun p37 =>
(lnStr p37.1 p37.2).bind fun p40 =>
(binV E0 .sub 3 false true p40.1 (.int .i64 1)).bind fun t41 =>
L78_48 self N (R78_46 self N (finN E0 self Try.f78) (exB 0 (finN E0 self Try.f78) noEx)) (exB 1 (R78_46 self N (finN E0 self Try.f78) (exB 0 (finN E0 self Try.f78) noEx)) (exB 0 (finN E0 self Try.f78) noEx)) N x0 p37.1 t41 t41 p40.2))) := by kernel_rfl

/-! ### 79: strings.shouldUseASCIISet -/
noncomputable def C79 : Code := Try.f79.body.getD .skip
noncomputable def B79 : D := (annot C79 [[], []]).1
noncomputable def RL79 : List Nat := cellsOf Try.f79.results.toList

noncomputable def F79 (self : EV) (N : Nat) (x0 : V) (S : St) : Rs := runF E0 self N Try.f79 B79 [x0] S
theorem F79_eq (self : EV) (N : Nat) (x0 : V) (S : St) : F79 self N x0 S =
(binV E0 .gtr 3 false true x0 (.int .i64 8)).bind fun t2 =>
some (.ret t2, S) := by kernel_rfl

/-! ### 80: strings.makeASCIISet -/
noncomputable def C80 : Code := Try.f80.body.getD .skip
noncomputable def B80 : D := (annot C80 [[], [], [0, 2, 4], [], [2], [], [], [], [], [], [], [0, 2], [2, 3], []]).1
noncomputable def RL80 : List Nat := cellsOf Try.f80.results.toList
noncomputable def R80_2 (self : EV) (N : Nat) (nk : Ac → St → Rs) (ek : Nat → Ac → St → Rs) (a : Ac) (S : St) : Rs := projK [2] a fun a => dr E0 self RL80 N (B80.r).r (mkK E0 self Try.f80 nk ek) a S
theorem R80_2_eq (self : EV) (N : Nat) (nk : Ac → St → Rs) (ek : Nat → Ac → St → Rs) ( v2 : V) (S : St) : R80_2 self N nk ek (fr 21 [(2, v2)]) S =
(ldA 256 v2 S).bind fun p3 =>
(stP 256 v2 p3.1 p3.2).bind fun p4 =>
(ldrA 256 v2 p4.2).bind fun p6 =>
some (.ret (.tuple [p6.1, (.bool true)]), p6.2) := by kernel_rfl

noncomputable def N80_8 (self : EV) (N : Nat) (nk : Ac → St → Rs) (ek : Nat → Ac → St → Rs) (n : Nat) : Ac → St → Rs := fun a S => projK [0, 2, 4] a fun a => loopK [0, 2, 4] (dr E0 self RL80 N (B80.r.l.r.l).l) (mkK E0 self Try.f80 nk ek) n a S
noncomputable def L80_8 (self : EV) (N : Nat) (nk : Ac → St → Rs) (ek : Nat → Ac → St → Rs) (n : Nat) ( v0 v2 v4 : V) (S : St) : Rs := loopK [0, 2, 4] (dr E0 self RL80 N (B80.r.l.r.l).l) (mkK E0 self Try.f80 nk ek) n (fr 21 [(0, v0), (2, v2), (4, v4)]) S
theorem L80_8_eq (self : EV) (N : Nat) (nk : Ac → St → Rs) (ek : Nat → Ac → St → Rs) (n : Nat) ( v0 v2 v4 : V) (S : St) : L80_8 self N nk ek (n + 1) v0 v2 v4 S =
(lnStr v0 S).bind fun p11 =>
(binV E0 .lss 3 false false v4 p11.1).bind fun t12 =>
ifK t12 (
(ixS v0 v4).bind fun t15 =>
(binV E0 .geq 5 false true t15 (.int .u8 128)).bind fun t18 =>
ifK t18 (
(ldA 256 v2 p11.2).bind fun p19 =>
(stP 256 v2 p19.1 p19.2).bind fun p20 =>
(ldrA 256 v2 p20.2).bind fun p22 =>
some (.ret (.tuple [p22.1, (.bool false)]), p22.2)) (
(ixA 256 1 false 1 v2 t15).bind fun t24 =>
(stP 1 t24 (.bool true) p11.2).bind fun p25 =>
(binV E0 .add 3 false true v4 (.int .i64 1)).bind fun t27 =>
L80_8 self N nk ek n v0 v2 t27 p25.2)) (
ek 0 (fr 21 [(2, v2)]) p11.2) := by kernel_rfl
theorem N80_8_eq (self : EV) (N : Nat) (nk : Ac → St → Rs) (ek : Nat → Ac → St → Rs) (n : Nat) ( v0 v2 v4 : V) (S : St) : N80_8 self N nk ek n (fr 21 [(0, v0), (2, v2), (4, v4)]) S = L80_8 self N nk ek n v0 v2 v4 S := by kernel_rfl

noncomputable def F80 (self : EV) (N : Nat) (x0 : V) (S : St) : Rs := runF E0 self N Try.f80 B80 [x0] S
theorem F80_eq (self : EV) (N : Nat) (x0 : V) (S : St) : F80 self N x0 S =
(some (nwP 96 256 (Tr.ofListFrom .nil [(.bool false), (.bool false), (.bool false), (.bool false), (.bool false), (.bool false), (.bool false), (.bool false), (.bool false), (.bool false), (.bool false), (.bool false), (.bool false), (.bool false), (.bool false), (.bool false), (.bool false), (.bool false), (.bool false), (.bool false), (.bool false), (.bool false), (.bool false), (.bool false), (.bool false), (.bool false), (.bool false), (.bool false), (.bool false), (.bool false), (.bool false), (.bool false), (.bool false), (.bool false), (.bool false), (.bool false), (.bool false), (.bool false), (.bool false), (.bool false), (.bool false), (.bool false), (.bool false), (.bool false), (.bool false), (.bool false), (.bool false), (.bool false), (.bool false), (.bool false), (.bool false), (.bool false), (.bool false), (.bool false), (.bool false), (.bool false), (.bool false), (.bool false), (.bool false), (.bool false), (.bool false), (.bool false), (.bool false), (.bool false), (.bool false), (.bool false), (.bool false), (.bool false), (.bool false), (.bool false), (.bool false), (.bool false), (.bool false), (.bool false), (.bool false), (.bool false), (.bool false), (.bool false), (.bool false), (.bool false), (.bool false), (.bool false), (.bool false), (.bool false), (.bool false), (.bool false), (.bool false), (.bool false), (.bool false), (.bool false), (.bool false), (.bool false), (.bool false), (.bool false), (.bool false), (.bool false), (.bool false), (.bool false), (.bool false), (.bool false), (.bool false), (.bool false), (.bool false), (.bool false), (.bool false), (.bool false), (.bool false), (.bool false), (.bool false), (.bool false), (.bool false), (.bool false), (.bool false), (.bool false), (.bool false), (.bool false), (.bool false), (.bool false), (.bool false), (.bool false), (.bool false), (.bool false), (.bool false), (.bool false), (.bool false), (.bool false), (.bool false), (.bool false), (.bool false), (.bool false), (.bool false), (.bool false), (.bool false), (.bool false), (.bool false), (.bool false), (.bool false), (.bool false), (.bool false), (.bool false), (.bool false), (.bool false), (.bool false), (.bool false), (.bool false), (.bool false), (.bool false), (.bool false), (.bool false), (.bool false), (.bool false), (.bool false), (.bool false), (.bool false), (.bool false), (.bool false), (.bool false), (.bool false), (.bool false), (.bool false), (.bool false), (.bool false), (.bool false), (.bool false), (.bool false), (.bool false), (.bool false), (.bool false), (.bool false), (.bool false), (.bool false), (.bool false), (.bool false), (.bool false), (.bool false), (.bool false), (.bool false), (.bool false), (.bool false), (.bool false), (.bool false), (.bool false), (.bool false), (.bool false), (.bool false), (.bool false), (.bool false), (.bool false), (.bool false), (.bool false), (.bool false), (.bool false), (.bool false), (.bool false), (.bool false), (.bool false), (.bool false), (.bool false), (.bool false), (.bool false), (.bool false), (.bool false), (.bool false), (.bool false), (.bool false), (.bool false), (.bool false), (.bool false), (.bool false), (.bool false), (.bool false), (.bool false), (.bool false), (.bool false), (.bool false), (.bool false), (.bool false), (.bool false), (.bool false), (.bool false), (.bool false), (.bool false), (.bool false), (.bool false), (.bool false), (.bool false), (.bool false), (.bool false), (.bool false), (.bool false), (.bool false), (.bool false), (.bool false), (.bool false), (.bool false), (.bool false), (.bool false), (.bool false), (.bool false), (.bool false), (.bool false), (.bool false), (.bool false), (.bool false), (.bool false), (.bool false), (.bool false), (.bool false), (.bool false), (.bool false), (.bool false), (.bool false), (.bool false), (.bool false), (.bool false), (.bool false)] 0) S)).bind fun p0 =>
L80_8 self N (R80_2 self N (finN E0 self Try.f80) noEx) (exB 0 (R80_2 self N (finN E0 self Try.f80) noEx) noEx) N x0 p0.1 (.int .i64 0) p0.2 := by kernel_rfl

/-! ### 81: (*strings.asciiSet).contains -/
noncomputable def C81 : Code := Try.f81.body.getD .skip
noncomputable def B81 : D := (annot C81 [[], []]).1
noncomputable def RL81 : List Nat := cellsOf Try.f81.results.toList

noncomputable def F81 (self : EV) (N : Nat) (x0 x1 : V) (S : St) : Rs := runF E0 self N Try.f81 B81 [x0, x1] S
theorem F81_eq (self : EV) (N : Nat) (x0 x1 : V) (S : St) : F81 self N x0 x1 S =
(nilCheckV x0).bind fun t3 =>
(ixA 256 1 false 1 t3 x1).bind fun t4 =>
(ld1 t4 S).bind fun p5 =>
some (.ret p5.1, p5.2) := by kernel_rfl

/-! ### 82: unicode/utf8.ValidRune -/
noncomputable def C82 : Code := Try.f82.body.getD .skip
noncomputable def B82 : D := (annot C82 [[], [], [], [], [], [], []]).1
noncomputable def RL82 : List Nat := cellsOf Try.f82.results.toList

noncomputable def F82 (self : EV) (N : Nat) (x0 : V) (S : St) : Rs := runF E0 self N Try.f82 B82 [x0] S
theorem F82_eq (self : EV) (N : Nat) (x0 : V) (S : St) : F82 self N x0 S =
(binV E0 .leq 21 true false (.int .i32 0) x0).bind fun t2 =>
(guardV true t2).bind fun g4 => (bif g4 then some x0 else some (.tuple [])).bind fun t4 =>
(guardV true t2).bind fun g5 => (bif g5 then binV E0 .lss 21 false true t4 (.int .i32 55296) else some (.tuple [])).bind fun t5 =>
(pickV t2 (some t5) (some (.bool false))).bind fun t6 =>
ifK t6 (
some (.ret (.bool true), S)) (
(binV E0 .lss 21 true false (.int .i32 57343) x0).bind fun t10 =>
(guardV true t10).bind fun g12 => (bif g12 then some x0 else some (.tuple [])).bind fun t12 =>
(guardV true t10).bind fun g13 => (bif g13 then binV E0 .leq 21 false true t12 (.int .i32 1114111) else some (.tuple [])).bind fun t13 =>
(pickV t10 (some t13) (some (.bool false))).bind fun t14 =>
ifK t14 (
some (.ret (.bool true), S)) (
some (.ret (.bool false), S))) := by kernel_rfl


end
end Go.Proofs.Ythmkdoaaciamlaa.W

/-
  TREES, as data of Lean and as the evaluator's values.
-/
namespace Go.Proofs.Ythmkdoaaciamlaa.W
open Go.Proofs.Ythmkdoaaciamlaa.Ev

theorem E0_ok : EnvOk Try.prog E0 := envOf_ok (by kernel_rfl) (by kernel_rfl) (by kernel_rfl) (fun p hp => by
  simp only [List.mem_cons, List.not_mem_nil, or_false] at hp
  rcases hp with rfl
  exact ⟨fun _ args w => by kernel_rfl, fun h => absurd h (by decide), fun h => absurd h (by decide), fun h => absurd h (by decide), fun h => absurd h (by decide)⟩
  ) (by kernel_rfl) (by kernel_rfl) (by kernel_rfl)

inductive Nd where
  | mk (name : List UInt8) (kind : Int) (exec : Bool) (data : List UInt8) (kids : List Nd)
def Nd.name : Nd → List UInt8 | .mk n _ _ _ _ => n
def Nd.kind : Nd → Int | .mk _ k _ _ _ => k
def Nd.exec : Nd → Bool | .mk _ _ e _ _ => e
def Nd.data : Nd → List UInt8 | .mk _ _ _ d _ => d
def Nd.kids : Nd → List Nd | .mk _ _ _ _ l => l

def kidsV : List V → V
  | [] => .nilslice
  | x :: l => .list 5 (x :: l)
mutual
noncomputable def encN : Nd → V
  | .mk n k e d l => vAgg [sv n, .int .i64 k, .bool e, sv d, kidsV (encL l)]
noncomputable def encL : List Nd → List V
  | [] => []
  | x :: l => encN x :: encL l
end
noncomputable def cellsN (x : Nd) : List V := [sv x.name, .int .i64 x.kind, .bool x.exec, sv x.data, kidsV (encL x.kids)]
theorem encN_cells (x : Nd) : encN x = vAgg (cellsN x) := by cases x; simp only [encN, cellsN, Nd.name, Nd.kind, Nd.exec, Nd.data, Nd.kids]
theorem encL_map : ∀ l : List Nd, encL l = l.map encN
  | [] => rfl
  | x :: l => by rw [encL, encL_map l]; rfl
theorem encL_length (l : List Nd) : (encL l).length = l.length := by rw [encL_map, List.length_map]

mutual
def Nd.ok : Nd → Prop
  | .mk n k _ d l => n.length < 9223372036854775808 ∧ (-9223372036854775808 ≤ k ∧ k < 9223372036854775808) ∧ d.length ≤ 300 ∧ l.length ≤ 20 ∧ okL l
def okL : List Nd → Prop
  | [] => True
  | x :: l => x.ok ∧ okL l
end
theorem okL_iff : ∀ l : List Nd, okL l ↔ ∀ x ∈ l, x.ok
  | [] => by simp [okL]
  | x :: l => by simp [okL, okL_iff l]
structure NdOk (x : Nd) : Prop where
  name : x.name.length < 9223372036854775808
  kind : -9223372036854775808 ≤ x.kind ∧ x.kind < 9223372036854775808
  data : x.data.length ≤ 300
  few : x.kids.length ≤ 20
  kids : ∀ y ∈ x.kids, y.ok
theorem Nd.ok.at {x : Nd} (h : x.ok) : NdOk x := by
  cases x with
  | mk n k e d l =>
    rw [Nd.ok] at h
    obtain ⟨h1, h2, h3, h4, h5⟩ := h
    exact ⟨h1, h2, h3, h4, (okL_iff l).1 h5⟩

theorem vAgg_inj {l m : List V} (h : vAgg l = vAgg m) : l = m := by
  unfold vAgg at h
  simp only [V.agg.injEq] at h
  refine List.ext_getElem? fun i => ?_
  rw [← vAgg_get l i, ← vAgg_get m i, h.2]
theorem kidsV_inj : ∀ {l m : List V}, kidsV l = kidsV m → l = m
  | [], [], _ => rfl
  | [], _ :: _, h => by simp [kidsV] at h
  | _ :: _, [], h => by simp [kidsV] at h
  | _ :: _, _ :: _, h => by simpa [kidsV] using h
mutual
theorem encN_inj : ∀ {x y : Nd}, encN x = encN y → x = y
  | .mk n k e d l, .mk n' k' e' d' l', h => by
    rw [encN, encN] at h
    have h := vAgg_inj h
    simp only [List.cons.injEq, V.int.injEq, V.bool.injEq, true_and, and_true] at h
    obtain ⟨h1, h2, h3, h4, h5⟩ := h
    rw [sv_inj h1, h2, h3, sv_inj h4, encL_inj (kidsV_inj h5)]
theorem encL_inj : ∀ {l m : List Nd}, encL l = encL m → l = m
  | [], [], _ => rfl
  | [], _ :: _, h => by simp [encL] at h
  | _ :: _, [], h => by simp [encL] at h
  | x :: l, y :: m, h => by
    simp only [encL, List.cons.injEq] at h
    rw [encN_inj h.1, encL_inj h.2]
end

/-! ### a node in a variable -/
section
variable {s : St}
structure NodeAt (s : St) (b : Nat) (x : Nd) : Prop where
  on : s.on = false
  bx : Bx s b 24 (cellsN x)
theorem big5 : 5 < big := by unfold big; decide
variable {b : Nat} {x : Nd}
theorem NodeAt.f0 (h : NodeAt s b x) : ld1 (.ptr b 0) s = some (sv x.name, s) := Bx.ld1 h.on h.bx 0 (by show 0 < 5; decide) big5
theorem NodeAt.f1 (h : NodeAt s b x) : ld1 (.ptr b 1) s = some (.int .i64 x.kind, s) := Bx.ld1 h.on h.bx 1 (by show 1 < 5; decide) big5
theorem NodeAt.f2 (h : NodeAt s b x) : ld1 (.ptr b 2) s = some (.bool x.exec, s) := Bx.ld1 h.on h.bx 2 (by show 2 < 5; decide) big5
theorem NodeAt.f3 (h : NodeAt s b x) : ld1 (.ptr b 3) s = some (sv x.data, s) := Bx.ld1 h.on h.bx 3 (by show 3 < 5; decide) big5
theorem NodeAt.f4 (h : NodeAt s b x) : ld1 (.ptr b 4) s = some (kidsV (encL x.kids), s) := Bx.ld1 h.on h.bx 4 (by show 4 < 5; decide) big5
theorem NodeAt.fA (h : NodeAt s b x) : ldA 5 (.ptr b 0) s = some (encN x, s) := by rw [encN_cells]; exact Bx.ldA h.on h.bx rfl big5
theorem NodeAt.o0 (h : NodeAt s b x) : ld1 (.ptr b 0) (onS s) = some (sv x.name, rd s b 0 1) := Bx.ld1On h.on h.bx 0 (by show 0 < 5; decide) big5
theorem NodeAt.o1 (h : NodeAt s b x) : ld1 (.ptr b 1) (onS s) = some (.int .i64 x.kind, rd s b 1 1) := Bx.ld1On h.on h.bx 1 (by show 1 < 5; decide) big5
theorem NodeAt.o2 (h : NodeAt s b x) : ld1 (.ptr b 2) (onS s) = some (.bool x.exec, rd s b 2 1) := Bx.ld1On h.on h.bx 2 (by show 2 < 5; decide) big5
theorem NodeAt.o3 (h : NodeAt s b x) : ld1 (.ptr b 3) (onS s) = some (sv x.data, rd s b 3 1) := Bx.ld1On h.on h.bx 3 (by show 3 < 5; decide) big5
theorem NodeAt.o4 (h : NodeAt s b x) : ld1 (.ptr b 4) (onS s) = some (kidsV (encL x.kids), rd s b 4 1) := Bx.ld1On h.on h.bx 4 (by show 4 < 5; decide) big5
theorem NodeAt.oA (h : NodeAt s b x) : ldA 5 (.ptr b 0) (onS s) = some (encN x, rd s b 0 5) := by rw [encN_cells]; exact Bx.ldAOn h.bx rfl big5
theorem NodeAt.grew {W : Nat → Prop} {t : St} (h : NodeAt s b x) (hb : b < s.next) (hw : ¬ W b) (g : Grew W s t) : NodeAt t b x := ⟨g.on.trans h.on, h.bx.grew hb hw g⟩

theorem node_box (ho : s.on = false) (x : Nd) : ∃ t, boxK 24 (encN x) s = some (.ptr s.next 0, t) ∧ NodeAt t s.next x ∧ Grew (fun _ => False) s t ∧ t.next = s.next + 1 := by
  obtain ⟨t, h1, h2, h3, h4⟩ := box_new ho 24 (cellsN x)
  rw [encN_cells]
  exact ⟨t, h1, ⟨h3.on.trans ho, h2⟩, h3, h4⟩
theorem node_new (ho : s.on = false) (z : Tr V) (x : Nd) : ∃ t, stP 5 (.ptr s.next 0) (encN x) (nwP 24 5 z s).2 = some (.tuple [], t) ∧ NodeAt t s.next x ∧ Grew (fun _ => False) s t ∧ t.next = s.next + 1 := by
  obtain ⟨t, h1, h2, h3, h4⟩ := var_new ho 24 5 z (cellsN x) rfl (by decide) big5
  rw [encN_cells]
  exact ⟨t, h1, ⟨h3.on.trans ho, h2⟩, h3, h4⟩
theorem lnS_kids (l : List Nd) : lnS (kidsV (encL l)) s = some (.int .i64 (l.length : Int), s) := by
  cases l with
  | nil => rfl
  | cons x l =>
    show some (V.int .i64 (.ofNat ((encN x :: encL l).length)), s) = _
    rw [List.length_cons, encL_length]; rfl
theorem ixP_kids (l : List Nd) (i : Nat) (h : i < l.length) : ixP 5 (kidsV (encL l)) (.int .i64 (i : Int)) = some (.cptr (encN l[i])) := by
  cases l with
  | nil => simp at h
  | cons x l =>
    show ixP 5 (.list 5 (encL (x :: l))) _ = _
    rw [ixP_list 5 (encL (x :: l)) .i64 i (by rw [encL_length]; exact h) (by decide)]
    congr 2
    simp only [encL_map, List.getElem_map]
theorem ldA_kid (x : Nd) : ldA 5 (.cptr (encN x)) s = some (encN x, s) := by rw [encN_cells]; exact ldA_cptr (cellsN x)
theorem faP_kid (x : Nd) : faP 0 false 1 (.cptr (encN x)) = some (.cptr (sv x.name)) := by rw [encN_cells]; exact faP_cptr (cellsN x) 0 (by show 0 < 5; decide)
theorem ld1_csv (l : List UInt8) : ld1 (.cptr (sv l)) s = some (sv l, s) := rfl
end

/-! ### how deep -/
def deepN : Nat → Nd → Nat
  | 0, _ => 1
  | m + 1, x => if x.kind ≠ 2 ∨ m = 0 then 1 else x.kids.foldl (fun d y => max d (1 + deepN m y)) 1
theorem foldl_max_le {α : Type} (f : α → Nat) (B : Nat) : ∀ (l : List α) (d : Nat), d ≤ B → (∀ y ∈ l, 1 + f y ≤ B) → l.foldl (fun d y => max d (1 + f y)) d ≤ B
  | [], d, h, _ => h
  | y :: l, d, h, hl => foldl_max_le f B l _ (Nat.max_le.2 ⟨h, hl y (List.mem_cons_self ..)⟩) fun z hz => hl z (List.mem_cons_of_mem _ hz)
theorem deepN_le : ∀ (m : Nat) (x : Nd), deepN m x ≤ m + 1
  | 0, x => by simp [deepN]
  | m + 1, x => by
    rw [deepN]
    split
    · omega
    · exact foldl_max_le _ _ _ _ (by omega) fun y _ => by have := deepN_le m y; omega

structure DeepIn where
  m : Nat
  x : Nd
  h1 : 1 ≤ m
  h2 : m ≤ 14
  ok : x.ok
noncomputable def encDeep (p : DeepIn) : List V := [encN p.x, .int .i64 (p.m : Int)]
theorem encDeep_inj {p q : DeepIn} (h : encDeep p = encDeep q) : p.m = q.m ∧ p.x = q.x := by
  simp only [encDeep, List.cons.injEq, V.int.injEq, true_and, and_true] at h
  exact ⟨by omega, encN_inj h.1⟩
noncomputable def outDeep (p : DeepIn) : En := .ret (.int .i64 (deepN p.m p.x : Int))
noncomputable def kfDeep : KF := specKF encDeep outDeep
theorem kfDeep_run (m : Nat) (x : Nd) (h1 : 1 ≤ m) (h2 : m ≤ 14) (ok : x.ok) (S : St) : kfDeep.run [encN x, .int .i64 (m : Int)] S = some (.ret (.int .i64 (deepN m x : Int)), S) :=
  specKF_run (enc := encDeep) (out := outDeep) (fun p q h => by obtain ⟨h1, h2⟩ := encDeep_inj h; unfold outDeep; rw [h1, h2]) ⟨m, x, h1, h2, ok⟩ S

theorem L70_spec (self : EV) (N : Nat) (nk : Ac → St → Rs) (ek : Nat → Ac → St → Rs) (all : List Nd) (hall : all.length ≤ 20) (m : Nat) (hm : m ≤ 14)
    (hself : ∀ x ∈ all, ∀ s, self.f 70 [encN x, .int .i64 (m : Int)] s = some (.ret (.int .i64 (deepN m x : Int)), s)) :
    ∀ (r : List Nd) (i d n : Nat) (S : St), all.drop i = r → r.length < n → S.on = false → d ≤ 100 →
    ∃ S', L70_19 self N nk ek n (.int .i64 ((m + 1 : Nat) : Int)) (.int .i64 (d : Int)) (kidsV (encL all)) (.int .i64 (all.length : Int)) (.int .i64 (i : Int)) S = ek 0 (fr 32 [(5, .int .i64 ((r.foldl (fun d y => max d (1 + deepN m y)) d : Nat) : Int))]) S' ∧ Grew (fun _ => False) S S'
  | r, i, d, 0, S, _, hn, _, _ => by omega
  | [], i, d, n + 1, S, hi, hn, ho, hd => by
    rw [L70_19_eq, binV_ii, intsV_lss]
    have : all.length ≤ i := List.drop_eq_nil_iff.1 hi
    rw [show decide ((i : Int) < (all.length : Int)) = false by simp; omega]
    exact ⟨S, rfl, Grew.refl _ _⟩
  | x :: r, i, d, n + 1, S, hi, hn, ho, hd => by
    have hlt : i < all.length := by
      rcases Nat.lt_or_ge i all.length with h | h
      · exact h
      · rw [List.drop_eq_nil_of_le h] at hi; cases hi
    rw [List.drop_eq_getElem_cons hlt] at hi
    simp only [List.cons.injEq] at hi
    obtain ⟨hx, hr⟩ := hi
    rw [L70_19_eq, binV_ii, intsV_lss, show decide ((i : Int) < (all.length : Int)) = true by simp; omega]
    simp only [Option.bind_some, ifK_bool, cond_true]
    rw [ixP_kids all i hlt, hx]
    simp only [Option.bind_some, ldA_kid, nwP_fst]
    obtain ⟨S1, k1, k2, k3, k4⟩ := node_new ho (Tr.ofListFrom .nil [(sv []), (.int .i64 0), (.bool false), (sv []), .nilslice] 0) x
    rw [k1]
    simp only [Option.bind_some, k2.fA, binV_ii, intsV_sub]
    rw [show ((m + 1 : Nat) : Int) - 1 = (m : Int) by omega, wrap_i64 (by omega) (by omega)]
    rw [hself x (hx ▸ List.getElem_mem hlt)]
    have hb := deepN_le m x
    simp only [callP_ret, binV_ii, intsV_add, Option.bind_some]
    rw [show (1 : Int) + (deepN m x : Int) = ((1 + deepN m x : Nat) : Int) by omega, wrap_i64 (by omega) (by omega)]
    rw [foldK_max, show max (d : Int) ((1 + deepN m x : Nat) : Int) = ((max d (1 + deepN m x) : Nat) : Int) by omega]
    simp only [Option.bind_some]
    rw [show (i : Int) + 1 = ((i + 1 : Nat) : Int) by omega, wrap_i64 (by omega) (by omega)]
    obtain ⟨S', h1, h2⟩ := L70_spec self N nk ek all hall m hm hself r (i + 1) (max d (1 + deepN m x)) n S1 hr (by simp at hn; omega) k2.on (by omega)
    exact ⟨S', by rw [h1]; rfl, k3.trans h2⟩

theorem F70_spec (self : EV) (x : Nd) (ok : x.ok) (m : Nat) (hm : m + 1 ≤ 14) (hself : ∀ y ∈ x.kids, ∀ s, 1 ≤ m → self.f 70 [encN y, .int .i64 (m : Int)] s = some (.ret (.int .i64 (deepN m y : Int)), s)) (S : St) (ho : S.on = false) :
    ∃ S', F70 self rounds (encN x) (.int .i64 ((m + 1 : Nat) : Int)) S = some (.ret (.int .i64 (deepN (m + 1) x : Int)), S') ∧ Grew (fun _ => False) S S' := by
  obtain ⟨S1, k1, k2, k3, k4⟩ := node_box ho x
  have hok := ok.at
  rw [F70_eq, k1]
  simp only [Option.bind_some, faP_ptr, Nat.zero_add, k2.f1, binV_ii, intsV_neq]
  rw [deepN]
  by_cases hk : x.kind = 2
  · rw [hk]
    simp only [ne_eq, not_true_eq_false, decide_true, decide_false, Option.bind_some, guardV_t, guardV_f, guardV_no, Bool.not_true, Bool.not_false, cond_true, binV_ii, intsV_eql, pickV, cond_false, false_or]
    by_cases hm0 : m = 0
    · subst hm0
      exact ⟨S1, rfl, k3⟩
    · rw [show decide (((m + 1 : Nat) : Int) = 1) = false by simp; omega, if_neg hm0]
      simp only [ifK_bool, cond_false, k2.f4, Option.bind_some, lnS_kids]
      obtain ⟨S', h1, h2⟩ := L70_spec self rounds (R70_12 self rounds (finN E0 self Try.f70) noEx) (exB 0 (R70_12 self rounds (finN E0 self Try.f70) noEx) noEx) x.kids hok.few m (by omega) (fun y hy s => hself y hy s (by omega)) x.kids 0 1 rounds S1 rfl (by have := hok.few; unfold rounds; omega) k2.on (by omega)
      refine ⟨S', ?_, k3.trans h2⟩
      rw [show ((0 : Nat) : Int) = 0 from rfl, show ((1 : Nat) : Int) = 1 from rfl] at h1
      rw [h1, exB_same, R70_12_eq]
  · simp only [ne_eq, hk, not_false_eq_true, decide_true, decide_false, Bool.not_false, Option.bind_some, guardV_t, guardV_f, guardV_no, Bool.not_true, cond_false, pickV, cond_true, ifK_bool, true_or, if_true]
    exact ⟨S1, rfl, k3⟩
end Go.Proofs.Ythmkdoaaciamlaa.W

/-
  HOW DEEP A TREE IS: both answers, as what is known.
-/
namespace Go.Proofs.Ythmkdoaaciamlaa.W
open Go.Proofs.Ythmkdoaaciamlaa.Ev

theorem kn70 {K : FuncId → Option KF} (hK : KnOk Try.prog E0 K) : KnWell Try.prog E0 70 kfDeep :=
  specKF_rec (fn := Try.f70) (c := C70) (d := B70) (fun p : DeepIn => p.m) (fun p q h => by obtain ⟨h1, h2⟩ := encDeep_inj h; unfold outDeep; rw [h1, h2]; exact ⟨rfl, rfl⟩) E0_ok hK (by kernel_rfl) (by kernel_rfl) (annot_isOf C70 _ (by kernel_rfl)) fun K' _ p s hself ho => by
    obtain ⟨m, hm⟩ : ∃ m, p.m = m + 1 := ⟨p.m - 1, by have := p.h1; omega⟩
    obtain ⟨S', h1, h2⟩ := F70_spec (ev E0 K' 1) p.x p.ok m (by have := p.h2; omega) (fun y hy s h1m => hself ⟨m, y, h1m, by have := p.h2; omega, p.ok.at.kids y hy⟩ s 0 (by show m < p.m; omega)) s ho
    rw [← hm] at h1
    exact ⟨1, .ret (.int .i64 (deepN p.m p.x : Int)), S', h1, h2, Fz.same (.int _ _)⟩

theorem L57_spec (self : EV) (N : Nat) (nk : Ac → St → Rs) (ek : Nat → Ac → St → Rs) (x : Nd) (b : Nat) (hall : x.kids.length ≤ 20) (m : Nat) (hm : m ≤ 14)
    (hself : ∀ y ∈ x.kids, ∀ s, self.f 57 [encN y, .int .i64 (m : Int)] s = some (.ret (.int .i64 (deepN m y : Int)), s)) (S : St) (hx : NodeAt S b x) :
    ∀ (r : List Nd) (i d n : Nat), x.kids.drop i = r → r.length < n → d ≤ 100 →
    L57_15 self N nk ek n (.int .i64 ((m + 1 : Nat) : Int)) (.ptr b 0) (.int .i64 (d : Int)) (.int .i64 (i : Int)) S = ek 0 (fr 33 [(5, .int .i64 ((r.foldl (fun d y => max d (1 + deepN m y)) d : Nat) : Int))]) S
  | r, i, d, 0, _, hn, _ => by omega
  | [], i, d, n + 1, hi, hn, hd => by
    have : x.kids.length ≤ i := List.drop_eq_nil_iff.1 hi
    rw [L57_15_eq]
    simp only [faP_ptr, Option.bind_some, Nat.zero_add, hx.f4, lnS_kids, binV_ii, intsV_lss]
    rw [show decide ((i : Int) < (x.kids.length : Int)) = false by simp; omega]
    rfl
  | y :: r, i, d, n + 1, hi, hn, hd => by
    have hlt : i < x.kids.length := by
      rcases Nat.lt_or_ge i x.kids.length with h | h
      · exact h
      · rw [List.drop_eq_nil_of_le h] at hi; cases hi
    rw [List.drop_eq_getElem_cons hlt] at hi
    simp only [List.cons.injEq] at hi
    obtain ⟨hy, hr⟩ := hi
    rw [L57_15_eq]
    simp only [faP_ptr, Option.bind_some, Nat.zero_add, hx.f4, lnS_kids, binV_ii, intsV_lss]
    rw [show decide ((i : Int) < (x.kids.length : Int)) = true by simp; omega]
    simp only [ifK_bool, cond_true]
    rw [ixP_kids x.kids i hlt, hy]
    simp only [Option.bind_some, ldA_kid, binV_ii, intsV_sub]
    rw [show ((m + 1 : Nat) : Int) - 1 = (m : Int) by omega, wrap_i64 (by omega) (by omega), hself y (hy ▸ List.getElem_mem hlt)]
    have hb := deepN_le m y
    simp only [callP_ret, binV_ii, intsV_add, Option.bind_some]
    rw [show (1 : Int) + (deepN m y : Int) = ((1 + deepN m y : Nat) : Int) by omega, wrap_i64 (by omega) (by omega)]
    rw [foldK_max, show max (d : Int) ((1 + deepN m y : Nat) : Int) = ((max d (1 + deepN m y) : Nat) : Int) by omega]
    simp only [Option.bind_some]
    rw [show (i : Int) + 1 = ((i + 1 : Nat) : Int) by omega, wrap_i64 (by omega) (by omega)]
    rw [L57_spec self N nk ek x b hall m hm hself S hx r (i + 1) (max d (1 + deepN m y)) n hr (by simp at hn; omega) (by omega)]
    rfl

theorem F57_spec (self : EV) (x : Nd) (ok : x.ok) (m : Nat) (hm : m + 1 ≤ 14) (hself : ∀ y ∈ x.kids, ∀ s, 1 ≤ m → self.f 57 [encN y, .int .i64 (m : Int)] s = some (.ret (.int .i64 (deepN m y : Int)), s)) (S : St) (ho : S.on = false) :
    ∃ S', F57 self rounds (encN x) (.int .i64 ((m + 1 : Nat) : Int)) S = some (.ret (.int .i64 (deepN (m + 1) x : Int)), S') ∧ Grew (fun _ => False) S S' := by
  obtain ⟨S1, k1, k2, k3, k4⟩ := node_box ho x
  have hok := ok.at
  rw [F57_eq, k1]
  simp only [Option.bind_some, faP_ptr, Nat.zero_add, k2.f1, binV_ii, intsV_neq]
  rw [deepN]
  by_cases hk : x.kind = 2
  · rw [hk]
    simp only [ne_eq, not_true_eq_false, decide_true, decide_false, Option.bind_some, guardV_t, guardV_f, guardV_no, Bool.not_true, Bool.not_false, cond_true, binV_ii, intsV_eql, pickV, cond_false, false_or]
    by_cases hm0 : m = 0
    · subst hm0
      exact ⟨S1, rfl, k3⟩
    · rw [show decide (((m + 1 : Nat) : Int) = 1) = false by simp; omega, if_neg hm0]
      simp only [ifK_bool, cond_false]
      have h1 := L57_spec self rounds (R57_11 self rounds (finN E0 self Try.f57) noEx) (exB 0 (R57_11 self rounds (finN E0 self Try.f57) noEx) noEx) x S.next hok.few m (by omega) (fun y hy s => hself y hy s (by omega)) S1 k2 x.kids 0 1 rounds rfl (by have := hok.few; unfold rounds; omega) (by omega)
      refine ⟨S1, ?_, k3⟩
      rw [show ((0 : Nat) : Int) = 0 from rfl, show ((1 : Nat) : Int) = 1 from rfl] at h1
      rw [h1, exB_same, R57_11_eq]
  · simp only [ne_eq, hk, not_false_eq_true, decide_true, decide_false, Bool.not_false, Option.bind_some, guardV_t, guardV_f, guardV_no, Bool.not_true, cond_false, pickV, cond_true, ifK_bool, true_or, if_true]
    exact ⟨S1, rfl, k3⟩
theorem kn57 {K : FuncId → Option KF} (hK : KnOk Try.prog E0 K) : KnWell Try.prog E0 57 kfDeep :=
  specKF_rec (fn := Try.f57) (c := C57) (d := B57) (fun p : DeepIn => p.m) (fun p q h => by obtain ⟨h1, h2⟩ := encDeep_inj h; unfold outDeep; rw [h1, h2]; exact ⟨rfl, rfl⟩) E0_ok hK (by kernel_rfl) (by kernel_rfl) (annot_isOf C57 _ (by kernel_rfl)) fun K' _ p s hself ho => by
    obtain ⟨m, hm⟩ : ∃ m, p.m = m + 1 := ⟨p.m - 1, by have := p.h1; omega⟩
    obtain ⟨S', h1, h2⟩ := F57_spec (ev E0 K' 1) p.x p.ok m (by have := p.h2; omega) (fun y hy s h1m => hself ⟨m, y, h1m, by have := p.h2; omega, p.ok.at.kids y hy⟩ s 0 (by show m < p.m; omega)) s ho
    rw [← hm] at h1
    exact ⟨1, .ret (.int .i64 (deepN p.m p.x : Int)), S', h1, h2, Fz.same (.int _ _)⟩

/-! ### functions of one node -/
structure NodeIn where
  x : Nd
  ok : x.ok
noncomputable def encNode (p : NodeIn) : List V := [encN p.x]
theorem encNode_inj {p q : NodeIn} (h : encNode p = encNode q) : p.x = q.x := by
  simp only [encNode, List.cons.injEq, and_true] at h
  exact encN_inj h
noncomputable def kfNode (g : Nd → V) : KF := specKF encNode (fun p : NodeIn => En.ret (g p.x))
theorem kfNode_run (g : Nd → V) (x : Nd) (ok : x.ok) (S : St) : (kfNode g).run [encN x] S = some (.ret (g x), S) :=
  specKF_run (enc := encNode) (out := fun p : NodeIn => En.ret (g p.x)) (fun p q h => by rw [encNode_inj h]) ⟨x, ok⟩ S
theorem knNode {K : FuncId → Option KF} (hK : KnOk Try.prog E0 K) {f : FuncId} {fn : Func} {c : Code} {d : D} (g : Nd → V) (hu : ∀ n x, Under n (g x)) (hf : E0.fns.get f = some fn) (hb : fn.body = some c) (hd : isOf d c)
    (n : Nat) (h : ∀ x S, x.ok → S.on = false → ∃ S', runF E0 (ev E0 K n) rounds fn d [encN x] S = some (.ret (g x), S') ∧ Grew (fun _ => False) S S') : KnWell Try.prog E0 f (kfNode g) :=
  specKF_text E0_ok hK hf hb hd fun p s ho => by
    obtain ⟨S', h1, h2⟩ := h p.x s p.ok ho
    exact ⟨n, .ret (g p.x), S', h1, h2, Fz.same (hu _ _)⟩
/-- where a function calls itself on kids -/
theorem knNode_rec {K : FuncId → Option KF} (hK : KnOk Try.prog E0 K) {f : FuncId} {fn : Func} {c : Code} {d : D} (g : Nd → V) (hu : ∀ n x, Under n (g x)) (hf : E0.fns.get f = some fn) (hb : fn.body = some c) (hd : isOf d c)
    (n : Nat) (h : ∀ K', (∀ q, q ≠ f → K' q = K q) → ∀ x S, x.ok → (∀ y s m, y ∈ x.kids → (ev E0 K' (m + 1)).f f [encN y] s = some (.ret (g y), s)) → S.on = false → ∃ S', runF E0 (ev E0 K' n) rounds fn d [encN x] S = some (.ret (g x), S') ∧ Grew (fun _ => False) S S') : KnWell Try.prog E0 f (kfNode g) :=
  specKF_rec (fun p : NodeIn => SizeOf.sizeOf p.x) (fun p q h => by rw [encNode_inj h]; exact ⟨rfl, rfl⟩) E0_ok hK hf hb hd fun K' hK' p s hself ho => by
    obtain ⟨S', h1, h2⟩ := h K' hK' p.x s p.ok (fun y s m hy => hself ⟨y, p.ok.at.kids y hy⟩ s m (by
      show SizeOf.sizeOf y < SizeOf.sizeOf p.x
      have := List.sizeOf_lt_of_mem hy
      cases hp : p.x with
      | mk n k e d l =>
        rw [hp] at this
        simp only [Nd.kids] at this
        simp only [Nd.mk.sizeOf_spec]
        omega)) ho
    exact ⟨n, .ret (g p.x), S', h1, h2, Fz.same (hu _ _)⟩

noncomputable def gDeep (x : Nd) : V := .int .i64 (deepN 14 x : Int)
theorem kn58 {K : FuncId → Option KF} (hK : KnOk Try.prog E0 K) (h70 : K 70 = some kfDeep) : KnWell Try.prog E0 58 (kfNode gDeep) :=
  knNode hK (c := C58) (d := B58) gDeep (fun _ _ => .int _ _) (by kernel_rfl) (by kernel_rfl) (annot_isOf C58 _ (by kernel_rfl)) 1 fun x S ok ho => by
    obtain ⟨S1, k1, k2, k3, k4⟩ := node_box ho x
    refine ⟨S1, (?_ : F58 (ev E0 K 1) rounds (encN x) S = _), k3⟩
    rw [F58_eq, k1]
    simp only [Option.bind_some, k2.fA]
    rw [show (V.int .i64 14) = .int .i64 ((14 : Nat) : Int) from rfl, ev_known h70, kfDeep_run 14 x (by omega) (by omega) ok]
    rfl
theorem kn34 {K : FuncId → Option KF} (hK : KnOk Try.prog E0 K) (h57 : K 57 = some kfDeep) : KnWell Try.prog E0 34 (kfNode gDeep) :=
  knNode hK (c := C34) (d := B34) gDeep (fun _ _ => .int _ _) (by kernel_rfl) (by kernel_rfl) (annot_isOf C34 _ (by kernel_rfl)) 1 fun x S ok ho => by
    obtain ⟨S1, k1, k2, k3, k4⟩ := node_box ho x
    refine ⟨S1, (?_ : F34 (ev E0 K 1) rounds (encN x) S = _), k3⟩
    rw [F34_eq, k1]
    simp only [Option.bind_some, k2.fA]
    rw [show (V.int .i64 14) = .int .i64 ((14 : Nat) : Int) from rfl, ev_known h57, kfDeep_run 14 x (by omega) (by omega) ok]
    rfl
def tooDeepN (x : Nd) : Bool := decide (12 < deepN 14 x)
noncomputable def gTooDeep (x : Nd) : V := .bool (tooDeepN x)
theorem kn35 {K : FuncId → Option KF} (hK : KnOk Try.prog E0 K) (h58 : K 58 = some (kfNode gDeep)) : KnWell Try.prog E0 35 (kfNode gTooDeep) :=
  knNode hK (c := C35) (d := B35) gTooDeep (fun _ _ => .bool _) (by kernel_rfl) (by kernel_rfl) (annot_isOf C35 _ (by kernel_rfl)) 1 fun x S ok ho => by
    obtain ⟨S1, k1, k2, k3, k4⟩ := node_box ho x
    refine ⟨S1, (?_ : F35 (ev E0 K 1) rounds (encN x) S = _), k3⟩
    rw [F35_eq, k1]
    simp only [Option.bind_some, k2.fA]
    rw [ev_known h58, kfNode_run _ x ok]
    simp only [callP_ret, gDeep, binV_ii, intsV_gtr, Option.bind_some, gTooDeep, tooDeepN]
    rw [show decide ((12 : Int) < (deepN 14 x : Int)) = decide (12 < deepN 14 x) by rw [decide_eq_decide]; omega]
end Go.Proofs.Ythmkdoaaciamlaa.W
