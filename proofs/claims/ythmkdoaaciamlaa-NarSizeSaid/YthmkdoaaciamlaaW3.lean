/-
  WHAT THE FUNCTIONS COME TO: each is read by the evaluator, printed, and told as a function of data, part 3 of 9 (no condition).
-/
import Derived.Test.YthmkdoaaciamlaaW2
import Derived.Test.YthmkdoaaciamlaaProg
import Derived.KernelRfl
namespace Go.Proofs.Ythmkdoaaciamlaa.W
open Go.Proofs.Ythmkdoaaciamlaa.Ev
set_option maxRecDepth 100000
noncomputable section
noncomputable def C18 : Code := Try.f18.body.getD .skip
noncomputable def B18 : D := (annot C18 [[], [], [], [], [], [], [2, 3, 16, 17, 18], [], [3], [], [], [], [0, 2, 3, 16, 17, 18], [2, 3, 16, 17, 18], [0, 3], [2], []]).1
noncomputable def RL18 : List Nat := cellsOf Try.f18.results.toList
noncomputable def R18_12 (self : EV) (N : Nat) (nk : Ac → St → Rs) (ek : Nat → Ac → St → Rs) (a : Ac) (S : St) : Rs := projK [3] a fun a => dr E0 self RL18 N (B18.r.r.r).r (mkK E0 self Try.f18 nk ek) a S
theorem R18_12_eq (self : EV) (N : Nat) (nk : Ac → St → Rs) (ek : Nat → Ac → St → Rs) (ds : List AD) ( v3 : V) (S : St) : R18_12 self N nk ek (frD 34 [(3, v3)] ds) S =
(ld1 v3 S).bind fun p13 =>
finR E0 self Try.f18 (frD 34 [(2, p13.1), (3, v3), (33, p13.1)] ds) p13.2 := by kernel_rfl
noncomputable def N18_19 (self : EV) (N : Nat) (nk : Ac → St → Rs) (ek : Nat → Ac → St → Rs) (n : Nat) : Ac → St → Rs := fun a S => projK [2, 3, 16, 17, 18] a fun a => loopK [2, 3, 16, 17, 18] (dr E0 self RL18 N (B18.r.r.r.l.r.l.l)) (mkK E0 self Try.f18 nk ek) n a S
noncomputable def L18_19 (self : EV) (N : Nat) (nk : Ac → St → Rs) (ek : Nat → Ac → St → Rs) (n : Nat) (ds : List AD) ( v2 v3 v16 v17 v18 : V) (S : St) : Rs := loopK [2, 3, 16, 17, 18] (dr E0 self RL18 N (B18.r.r.r.l.r.l.l)) (mkK E0 self Try.f18 nk ek) n (frD 34 [(2, v2), (3, v3), (16, v16), (17, v17), (18, v18)] ds) S
noncomputable def R18_21 (self : EV) (N : Nat) (nk : Ac → St → Rs) (ek : Nat → Ac → St → Rs) (a : Ac) (S : St) : Rs := projK [2, 3, 16, 17, 18] a fun a => dr E0 self RL18 N (B18.r.r.r.l.r.l.l.r.r).r (mkK E0 self Try.f18 nk ek) a S
theorem R18_21_eq (self : EV) (N : Nat) (nk : Ac → St → Rs) (ek : Nat → Ac → St → Rs) (ds : List AD) ( v2 v3 v16 v17 v18 : V) (S : St) : R18_21 self N nk ek (frD 34 [(2, v2), (3, v3), (16, v16), (17, v17), (18, v18)] ds) S =
(binV E0 .add 3 false true v18 (.int .i64 1)).bind fun t22 =>
nk (frD 34 [(2, v2), (3, v3), (16, v16), (17, v17), (18, t22)] ds) S := by kernel_rfl
noncomputable def YA18_32 : Code := (B18.r.r.r.l.r.l.l.r.r.l.l.r.r.l).as
noncomputable def YB18_32 : Code := (B18.r.r.r.l.r.l.l.r.r.l.l.r.r.l).bd
noncomputable def DA18_32 : D := (annot YA18_32 []).1
noncomputable def DB18_32 : D := (annot YB18_32 []).1
noncomputable def O18_32 (st : Nat) (pend : Option Code) ( v3 : V) : O := .loop st pend (frT [(3, v3)] .nil) 34 [26, 27] YA18_32 YB18_32
noncomputable def Y18_32 (self : EV) (N : Nat) (l : Nat) ( v3 : V) ( w26 w27 : V) (S : St) : Rs := roundK E0 self N DA18_32 DB18_32 l (frT [(3, v3)] .nil) 34 [26, 27] [w26, w27] S
theorem Y18_32_eq (self : EV) (N : Nat) (l : Nat) ( v3 : V) ( w26 w27 : V) (S : St) : Y18_32 self N l v3 w26 w27 S =
midR l (frR 34 [(3, v3), (6, w26), (26, w26), (27, w27)] l) S fun S33 =>
(ld1 v3 S33).bind fun p35 =>
(bsP 9 1 1 (one (sv [])) [(0, w26)] p35.2).bind fun p37 =>
(apP 9 1 16 p35.1 p37.1 p37.2).bind fun p38 =>
(stP 1 v3 p38.1 p38.2).bind fun p39 =>
endRound l 0 none true p39.2 := by kernel_rfl
theorem L18_19_eq (self : EV) (N : Nat) (nk : Ac → St → Rs) (ek : Nat → Ac → St → Rs) (n : Nat) (ds : List AD) ( v2 v3 v16 v17 v18 : V) (S : St) : L18_19 self N nk ek (n + 1) ds v2 v3 v16 v17 v18 S =
(binV E0 .lss 3 false false v18 v17).bind fun t20 =>
ifK t20 (
(ixP 5 v16 v18).bind fun t24 =>
(ldA 5 t24 S).bind fun p25 =>
(some (nwP 24 5 (Tr.ofListFrom .nil [(sv []), (.int .i64 0), (.bool false), (sv []), .nilslice] 0) p25.2)).bind fun p26 =>
(stP 5 p26.1 p25.1 p26.2).bind fun p27 =>
(ldA 5 p26.1 p27.2).bind fun p28 =>
(faP 0 false 1 p26.1).bind fun t29 =>
(ld1 t29 p28.2).bind fun p30 =>
callPF E0 self Try.f18 (frD 34 [(2, v2), (3, v3), (5, p26.1), (16, v16), (17, v17), (18, v18), (19, t20), (20, t24), (21, p25.1), (22, p28.1), (23, t29), (24, p30.1)] ds) (self.f 39 [p28.1, p30.1] p30.2) fun t31 S31 =>
rangeP E0 self t31 (O18_32 0 none v3) S31 (fun S40 =>
R18_21 self N (N18_19 self N nk ek n) ek (frD 34 [(2, v2), (3, v3), (16, v16), (17, v17), (18, v18)] (mkR S31.next :: ds)) S40) (fun s => finR E0 self Try.f18 (frD 34 [(2, v2), (3, v3), (5, p26.1), (16, v16), (17, v17), (18, v18), (19, t20), (20, t24), (21, p25.1), (22, p28.1), (23, t29), (24, p30.1), (25, t31)] (mkR S31.next :: ds)) s) (fun i s => (exB 2 (R18_21 self N (N18_19 self N nk ek n) ek) (exB 1 (R18_21 self N (N18_19 self N nk ek n) ek) ek)) i (frD 34 [(2, v2), (3, v3), (5, p26.1), (16, v16), (17, v17), (18, v18), (19, t20), (20, t24), (21, p25.1), (22, p28.1), (23, t29), (24, p30.1), (25, t31)] (mkR S31.next :: ds)) s) (fun v s => leaves E0 self Try.f18 (frD 34 [(2, v2), (3, v3), (5, p26.1), (16, v16), (17, v17), (18, v18), (19, t20), (20, t24), (21, p25.1), (22, p28.1), (23, t29), (24, p30.1), (25, t31)] (mkR S31.next :: ds)) (mkR S31.next :: ds) (.pan v) s)) (
ek 0 (frD 34 [(3, v3)] ds) S) := by kernel_rfl
theorem N18_19_eq (self : EV) (N : Nat) (nk : Ac → St → Rs) (ek : Nat → Ac → St → Rs) (n : Nat) (ds : List AD) ( v2 v3 v16 v17 v18 : V) (S : St) : N18_19 self N nk ek n (frD 34 [(2, v2), (3, v3), (16, v16), (17, v17), (18, v18)] ds) S = L18_19 self N nk ek n ds v2 v3 v16 v17 v18 S := by kernel_rfl
noncomputable def F18 (self : EV) (N : Nat) (x0 : V) (S : St) : Rs := runF E0 self N Try.f18 B18 [x0] S
theorem F18_eq (self : EV) (N : Nat) (x0 : V) (S : St) : F18 self N x0 S =
(boxK 24 x0 S).bind fun p0 =>
(some (nwP 41 1 (one .nilslice) p0.2)).bind fun p2 =>
(ldA 5 p0.1 p2.2).bind fun p3 =>
callPF E0 self Try.f18 (frD 34 [(0, x0), (1, p0.1), (2, .nilslice), (3, p2.1), (7, p3.1)] []) (self.f 35 [p3.1] p3.2) fun t4 S4 =>
(guardV false t4).bind fun g6 => (bif g6 then faP 1 false 1 p0.1 else some (.tuple [])).bind fun t6 =>
(guardV false t4).bind fun g7 => (bif g7 then ld1 t6 S4 else some (.tuple [], S4)).bind fun p7 =>
(guardV false t4).bind fun g8 => (bif g8 then binV E0 .neq 3 false true p7.1 (.int .i64 2) else some (.tuple [])).bind fun t8 =>
(pickV t4 (some (.bool true)) (some t8)).bind fun t9 =>
ifK t9 (
(ld1 p2.1 p7.2).bind fun p10 =>
finR E0 self Try.f18 (frD 34 [(0, x0), (1, p0.1), (2, p10.1), (3, p2.1), (7, p3.1), (8, t4), (9, t4), (10, t6), (11, p7.1), (12, t8), (13, t9), (14, p10.1)] []) p10.2) (
(faP 4 false 1 p0.1).bind fun t15 =>
(ld1 t15 p7.2).bind fun p16 =>
(lnS p16.1 p16.2).bind fun p17 =>
L18_19 self N (R18_12 self N (finN E0 self Try.f18) noEx) (exB 0 (R18_12 self N (finN E0 self Try.f18) noEx) noEx) N [] .nilslice p2.1 p16.1 p17.1 (.int .i64 0) p17.2) := by kernel_rfl
noncomputable def C39 : Code := Try.f39.body.getD .skip
noncomputable def B39 : D := (annot C39 [[], []]).1
noncomputable def F39 (self : EV) (N : Nat) (x0 x1 : V) (S : St) : Rs := runF E0 self N Try.f39 B39 [x0, x1] S
theorem F39_eq (self : EV) (N : Nat) (x0 x1 : V) (S : St) : F39 self N x0 x1 S =
(boxK 24 x0 S).bind fun p0 =>
(boxK 9 x1 p0.2).bind fun p1 =>
some (.ret (.fn (.func 67) [] [p1.1, p0.1]), p1.2) := by kernel_rfl
noncomputable def C67 : Code := Try.f67.body.getD .skip
noncomputable def B67 : D := (annot C67 [[], [], [], [], [1, 3, 20, 21, 22], [], [], [], [], [], [], [], [], [0, 1, 3, 20, 21, 22], [1, 3, 20, 21, 22]]).1
noncomputable def RL67 : List Nat := cellsOf Try.f67.results.toList
noncomputable def N67_15 (self : EV) (N : Nat) (nk : Ac → St → Rs) (ek : Nat → Ac → St → Rs) (n : Nat) : Ac → St → Rs := fun a S => projK [1, 3, 20, 21, 22] a fun a => loopK [1, 3, 20, 21, 22] (dr E0 self RL67 N (B67.r.r.r.l.l)) (mkK E0 self Try.f67 nk ek) n a S
noncomputable def L67_15 (self : EV) (N : Nat) (nk : Ac → St → Rs) (ek : Nat → Ac → St → Rs) (n : Nat) (ds : List AD) ( v1 v3 v20 v21 v22 : V) (S : St) : Rs := loopK [1, 3, 20, 21, 22] (dr E0 self RL67 N (B67.r.r.r.l.l)) (mkK E0 self Try.f67 nk ek) n (frD 46 [(1, v1), (3, v3), (20, v20), (21, v21), (22, v22)] ds) S
noncomputable def R67_17 (self : EV) (N : Nat) (nk : Ac → St → Rs) (ek : Nat → Ac → St → Rs) (a : Ac) (S : St) : Rs := projK [1, 3, 20, 21, 22] a fun a => dr E0 self RL67 N (B67.r.r.r.l.l.r.r).r (mkK E0 self Try.f67 nk ek) a S
theorem R67_17_eq (self : EV) (N : Nat) (nk : Ac → St → Rs) (ek : Nat → Ac → St → Rs) (ds : List AD) ( v1 v3 v20 v21 v22 : V) (S : St) : R67_17 self N nk ek (frD 46 [(1, v1), (3, v3), (20, v20), (21, v21), (22, v22)] ds) S =
(binV E0 .add 3 false true v22 (.int .i64 1)).bind fun t18 =>
nk (frD 46 [(1, v1), (3, v3), (20, v20), (21, v21), (22, t18)] ds) S := by kernel_rfl
noncomputable def YA67_38 : Code := (B67.r.r.r.l.l.r.r.l.l.r.r.r.r.l).as
noncomputable def YB67_38 : Code := (B67.r.r.r.l.l.r.r.l.l.r.r.r.r.l).bd
noncomputable def DA67_38 : D := (annot YA67_38 [[]]).1
noncomputable def DB67_38 : D := (annot YB67_38 [[]]).1
noncomputable def O67_38 (st : Nat) (pend : Option Code) ( v3 : V) : O := .loop st pend (frT [(3, v3)] .nil) 46 [38, 39] YA67_38 YB67_38
noncomputable def Y67_38 (self : EV) (N : Nat) (l : Nat) ( v3 : V) ( w38 w39 : V) (S : St) : Rs := roundK E0 self N DA67_38 DB67_38 l (frT [(3, v3)] .nil) 46 [38, 39] [w38, w39] S
theorem Y67_38_eq (self : EV) (N : Nat) (l : Nat) ( v3 : V) ( w38 w39 : V) (S : St) : Y67_38 self N l v3 w38 w39 S =
(some (nwP 24 5 (Tr.ofListFrom .nil [(sv []), (.int .i64 0), (.bool false), (sv []), .nilslice] 0) S)).bind fun p41 =>
(stP 5 p41.1 w39 p41.2).bind fun p42 =>
midR l (frR 46 [(3, v3), (7, w38), (8, p41.1), (38, w38), (39, w39)] l) p42.2 fun S39 =>
(ld1 v3 S39).bind fun p43 =>
(ldA 5 p41.1 p43.2).bind fun p45 =>
callE (callK E0 self p43.1 [w38, p45.1] p45.2) fun t46 S46 =>
(unV .not t46).bind fun t47 =>
ifK t47 (
endRound l 1 (some .ret) false S46) (
endRound l 0 none true S46) := by kernel_rfl
theorem L67_15_eq (self : EV) (N : Nat) (nk : Ac → St → Rs) (ek : Nat → Ac → St → Rs) (n : Nat) (ds : List AD) ( v1 v3 v20 v21 v22 : V) (S : St) : L67_15 self N nk ek (n + 1) ds v1 v3 v20 v21 v22 S =
(binV E0 .lss 3 false false v22 v21).bind fun t16 =>
ifK t16 (
(ixP 5 v20 v22).bind fun t20 =>
(ldA 5 t20 S).bind fun p21 =>
(some (nwP 24 5 (Tr.ofListFrom .nil [(sv []), (.int .i64 0), (.bool false), (sv []), .nilslice] 0) p21.2)).bind fun p22 =>
(stP 5 p22.1 p21.1 p22.2).bind fun p23 =>
(faP 0 false 1 p22.1).bind fun t24 =>
(ld1 t24 p23.2).bind fun p25 =>
(ld1 v1 p25.2).bind fun p27 =>
(binV E0 .neq 9 false true p27.1 (sv [])).bind fun t28 =>
ifK t28 (
(ld1 v1 p27.2).bind fun p29 =>
(binV E0 .add 9 false true p29.1 (sv [47])).bind fun t30 =>
(faP 0 false 1 p22.1).bind fun t31 =>
(ld1 t31 p29.2).bind fun p32 =>
(binV E0 .add 9 false false t30 p32.1).bind fun t33 =>
(ldA 5 p22.1 p32.2).bind fun p35 =>
callPF E0 self Try.f67 (frD 46 [(1, v1), (3, v3), (5, p22.1), (6, t33), (20, v20), (21, v21), (22, v22), (23, t16), (24, t20), (25, p21.1), (26, t24), (27, p25.1), (28, p27.1), (29, t28), (30, p29.1), (31, t30), (32, t31), (33, p32.1), (34, t33), (35, p35.1), (36, t33)] ds) (self.f 39 [p35.1, t33] p35.2) fun t37 S37 =>
rangeP E0 self t37 (O67_38 0 none v3) S37 (fun S48 =>
R67_17 self N (N67_15 self N nk ek n) ek (frD 46 [(1, v1), (3, v3), (20, v20), (21, v21), (22, v22)] (mkR S37.next :: ds)) S48) (fun s => finR E0 self Try.f67 (frD 46 [(1, v1), (3, v3), (5, p22.1), (6, t33), (20, v20), (21, v21), (22, v22), (23, t16), (24, t20), (25, p21.1), (26, t24), (27, p25.1), (28, p27.1), (29, t28), (30, p29.1), (31, t30), (32, t31), (33, p32.1), (34, t33), (35, p35.1), (36, t33), (37, t37)] (mkR S37.next :: ds)) s) (fun i s => (exB 2 (R67_17 self N (N67_15 self N nk ek n) ek) (exB 1 (R67_17 self N (N67_15 self N nk ek n) ek) ek)) i (frD 46 [(1, v1), (3, v3), (5, p22.1), (6, t33), (20, v20), (21, v21), (22, v22), (23, t16), (24, t20), (25, p21.1), (26, t24), (27, p25.1), (28, p27.1), (29, t28), (30, p29.1), (31, t30), (32, t31), (33, p32.1), (34, t33), (35, p35.1), (36, t33), (37, t37)] (mkR S37.next :: ds)) s) (fun v s => leaves E0 self Try.f67 (frD 46 [(1, v1), (3, v3), (5, p22.1), (6, t33), (20, v20), (21, v21), (22, v22), (23, t16), (24, t20), (25, p21.1), (26, t24), (27, p25.1), (28, p27.1), (29, t28), (30, p29.1), (31, t30), (32, t31), (33, p32.1), (34, t33), (35, p35.1), (36, t33), (37, t37)] (mkR S37.next :: ds)) (mkR S37.next :: ds) (.pan v) s)) (
(ldA 5 p22.1 p27.2).bind fun p49 =>
callPF E0 self Try.f67 (frD 46 [(1, v1), (3, v3), (5, p22.1), (6, p25.1), (20, v20), (21, v21), (22, v22), (23, t16), (24, t20), (25, p21.1), (26, t24), (27, p25.1), (28, p27.1), (29, t28), (35, p49.1), (36, p25.1)] ds) (self.f 39 [p49.1, p25.1] p49.2) fun t51 S51 =>
rangeP E0 self t51 (O67_38 0 none v3) S51 (fun S53 =>
R67_17 self N (N67_15 self N nk ek n) ek (frD 46 [(1, v1), (3, v3), (20, v20), (21, v21), (22, v22)] (mkR S51.next :: ds)) S53) (fun s => finR E0 self Try.f67 (frD 46 [(1, v1), (3, v3), (5, p22.1), (6, p25.1), (20, v20), (21, v21), (22, v22), (23, t16), (24, t20), (25, p21.1), (26, t24), (27, p25.1), (28, p27.1), (29, t28), (35, p49.1), (36, p25.1), (37, t51)] (mkR S51.next :: ds)) s) (fun i s => (exB 2 (R67_17 self N (N67_15 self N nk ek n) ek) (exB 1 (R67_17 self N (N67_15 self N nk ek n) ek) ek)) i (frD 46 [(1, v1), (3, v3), (5, p22.1), (6, p25.1), (20, v20), (21, v21), (22, v22), (23, t16), (24, t20), (25, p21.1), (26, t24), (27, p25.1), (28, p27.1), (29, t28), (35, p49.1), (36, p25.1), (37, t51)] (mkR S51.next :: ds)) s) (fun v s => leaves E0 self Try.f67 (frD 46 [(1, v1), (3, v3), (5, p22.1), (6, p25.1), (20, v20), (21, v21), (22, v22), (23, t16), (24, t20), (25, p21.1), (26, t24), (27, p25.1), (28, p27.1), (29, t28), (35, p49.1), (36, p25.1), (37, t51)] (mkR S51.next :: ds)) (mkR S51.next :: ds) (.pan v) s))) (
ek 0 (frD 46 [] ds) S) := by kernel_rfl
theorem N67_15_eq (self : EV) (N : Nat) (nk : Ac → St → Rs) (ek : Nat → Ac → St → Rs) (n : Nat) (ds : List AD) ( v1 v3 v20 v21 v22 : V) (S : St) : N67_15 self N nk ek n (frD 46 [(1, v1), (3, v3), (20, v20), (21, v21), (22, v22)] ds) S = L67_15 self N nk ek n ds v1 v3 v20 v21 v22 S := by kernel_rfl
noncomputable def F67 (self : EV) (N : Nat) (x0 x1 x2 : V) (S : St) : Rs := runF E0 self N Try.f67 B67 [x0, x1, x2] S
theorem F67_eq (self : EV) (N : Nat) (x0 x1 x2 : V) (S : St) : F67 self N x0 x1 x2 S =
(boxK 85 x0 S).bind fun p0 =>
(ld1 p0.1 p0.2).bind fun p1 =>
(ld1 x1 p1.2).bind fun p2 =>
(ldA 5 x2 p2.2).bind fun p3 =>
callPF E0 self Try.f67 (frD 46 [(0, x0), (1, x1), (2, x2), (3, p0.1), (9, p1.1), (10, p2.1), (11, p3.1)] []) (callK E0 self p1.1 [p2.1, p3.1] p3.2) fun t4 S4 =>
(unV .not t4).bind fun t5 =>
(guardV false t5).bind fun g7 => (bif g7 then faP 1 false 1 x2 else some (.tuple [])).bind fun t7 =>
(guardV false t5).bind fun g8 => (bif g8 then ld1 t7 S4 else some (.tuple [], S4)).bind fun p8 =>
(guardV false t5).bind fun g9 => (bif g9 then binV E0 .neq 3 false true p8.1 (.int .i64 2) else some (.tuple [])).bind fun t9 =>
(pickV t5 (some (.bool true)) (some t9)).bind fun t10 =>
ifK t10 (
finR E0 self Try.f67 (frD 46 [(0, x0), (1, x1), (2, x2), (3, p0.1), (9, p1.1), (10, p2.1), (11, p3.1), (12, t4), (13, t5), (14, t5), (15, t7), (16, p8.1), (17, t9), (18, t10)] []) p8.2) (
(faP 4 false 1 x2).bind fun t11 =>
(ld1 t11 p8.2).bind fun p12 =>
(lnS p12.1 p12.2).bind fun p13 =>
L67_15 self N (finN E0 self Try.f67) (exB 0 (finN E0 self Try.f67) noEx) N [] x1 p0.1 p12.1 p13.1 (.int .i64 0) p13.2) := by kernel_rfl
noncomputable def C7 : Code := Try.f7.body.getD .skip
noncomputable def B7 : D := (annot C7 [[], [], [], [], [], [], [], [], [], [], [3, 5, 6, 7, 8, 9], [], [3, 5, 6, 7], [], [], [3, 5, 6, 7, 8, 9, 10], [], [3, 5, 6, 7, 8, 9, 10], [], [0, 3, 5, 6, 7, 8, 9, 10], [3, 5, 6, 7, 8, 9], [0, 3, 5, 6, 7, 8, 9], [3, 5, 6, 7, 8, 9], [0, 3, 5, 6, 7], [2], []]).1
noncomputable def RL7 : List Nat := cellsOf Try.f7.results.toList
noncomputable def R7_31 (self : EV) (N : Nat) (nk : Ac → St → Rs) (ek : Nat → Ac → St → Rs) (a : Ac) (S : St) : Rs := projK [3, 5, 6, 7] a fun a => dr E0 self RL7 N (B7.r.r.r.r.r.r.r).r (mkK E0 self Try.f7 nk ek) a S
theorem R7_31_eq (self : EV) (N : Nat) (nk : Ac → St → Rs) (ek : Nat → Ac → St → Rs) ( v3 v5 v6 v7 : V) (S : St) : R7_31 self N nk ek (fr 89 [(3, v3), (5, v5), (6, v6), (7, v7)]) S =
(lnStr v3 S).bind fun p33 =>
(binV E0 .add 3 false false v6 v7).bind fun t36 =>
(binV E0 .add 3 false false t36 v5).bind fun t38 =>
(binV E0 .geq 3 false false p33.1 t38).bind fun t39 =>
(guardV true t39).bind fun g41 => (bif g41 then some v3 else some (.tuple [])).bind fun t41 =>
(guardV true t39).bind fun g42 => (bif g42 then lnStr t41 p33.2 else some (.tuple [], p33.2)).bind fun p42 =>
(guardV true t39).bind fun g43 => (bif g43 then some v6 else some (.tuple [])).bind fun t43 =>
(guardV true t39).bind fun g44 => (bif g44 then some v7 else some (.tuple [])).bind fun t44 =>
(guardV true t39).bind fun g45 => (bif g45 then binV E0 .add 3 false false t43 t44 else some (.tuple [])).bind fun t45 =>
(guardV true t39).bind fun g46 => (bif g46 then some v5 else some (.tuple [])).bind fun t46 =>
(guardV true t39).bind fun g47 => (bif g47 then binV E0 .mul 3 true false (.int .i64 8) t46 else some (.tuple [])).bind fun t47 =>
(guardV true t39).bind fun g48 => (bif g48 then binV E0 .add 3 false false t45 t47 else some (.tuple [])).bind fun t48 =>
(guardV true t39).bind fun g49 => (bif g49 then binV E0 .add 3 false true t48 (.int .i64 20) else some (.tuple [])).bind fun t49 =>
(guardV true t39).bind fun g50 => (bif g50 then binV E0 .leq 3 false false p42.1 t49 else some (.tuple [])).bind fun t50 =>
(pickV t39 (some t50) (some (.bool false))).bind fun t51 =>
(guardV true t51).bind fun g53 => callP (bif g53 then self.f 11 [] p42.2 else some (.ret (.tuple []), p42.2)) fun t53 S53 =>
(pickV t51 (some t53) (some (.bool false))).bind fun t54 =>
some (.ret t54, S53) := by kernel_rfl
noncomputable def N7_57 (self : EV) (N : Nat) (nk : Ac → St → Rs) (ek : Nat → Ac → St → Rs) (n : Nat) : Ac → St → Rs := fun a S => projK [3, 5, 6, 7, 8, 9] a fun a => loopK [3, 5, 6, 7, 8, 9] (dr E0 self RL7 N (B7.r.r.r.r.r.r.r.l.r.l.l)) (mkK E0 self Try.f7 nk ek) n a S
noncomputable def L7_57 (self : EV) (N : Nat) (nk : Ac → St → Rs) (ek : Nat → Ac → St → Rs) (n : Nat) ( v3 v5 v6 v7 v8 v9 : V) (S : St) : Rs := loopK [3, 5, 6, 7, 8, 9] (dr E0 self RL7 N (B7.r.r.r.r.r.r.r.l.r.l.l)) (mkK E0 self Try.f7 nk ek) n (fr 89 [(3, v3), (5, v5), (6, v6), (7, v7), (8, v8), (9, v9)]) S
noncomputable def R7_62 (self : EV) (N : Nat) (nk : Ac → St → Rs) (ek : Nat → Ac → St → Rs) (a : Ac) (S : St) : Rs := projK [3, 5, 6, 7, 8, 9] a fun a => dr E0 self RL7 N (B7.r.r.r.r.r.r.r.l.r.l.l.r).r (mkK E0 self Try.f7 nk ek) a S
theorem R7_62_eq (self : EV) (N : Nat) (nk : Ac → St → Rs) (ek : Nat → Ac → St → Rs) ( v3 v5 v6 v7 v8 v9 : V) (S : St) : R7_62 self N nk ek (fr 89 [(3, v3), (5, v5), (6, v6), (7, v7), (8, v8), (9, v9)]) S =
(binV E0 .add 3 false true v9 (.int .i64 1)).bind fun t64 =>
nk (fr 89 [(3, v3), (5, v5), (6, v6), (7, v7), (8, v8), (9, t64)]) S := by kernel_rfl
noncomputable def R7_72 (self : EV) (N : Nat) (nk : Ac → St → Rs) (ek : Nat → Ac → St → Rs) (a : Ac) (S : St) : Rs := projK [3, 5, 6, 7, 8, 9, 10] a fun a => dr E0 self RL7 N (B7.r.r.r.r.r.r.r.l.r.l.l.r.l.l.r).r (mkK E0 self Try.f7 nk ek) a S
theorem R7_72_eq (self : EV) (N : Nat) (nk : Ac → St → Rs) (ek : Nat → Ac → St → Rs) ( v3 v5 v6 v7 v8 v9 v10 : V) (S : St) : R7_72 self N nk ek (fr 89 [(3, v3), (5, v5), (6, v6), (7, v7), (8, v8), (9, v9), (10, v10)]) S =
(ixP 1 v8 v9).bind fun t76 =>
(ld1 t76 S).bind fun p77 =>
(lnStr p77.1 p77.2).bind fun p78 =>
(binV E0 .add 3 false false v7 p78.1).bind fun t79 =>
(binV E0 .sub 3 false false t79 v10).bind fun t81 =>
nk (fr 89 [(3, v3), (5, v5), (6, v6), (7, t81), (8, v8), (9, v9)]) p78.2 := by kernel_rfl
noncomputable def L7_83 (self : EV) (N : Nat) (nk : Ac → St → Rs) (ek : Nat → Ac → St → Rs) (n : Nat) ( v3 v5 v6 v7 v8 v9 v10 : V) (S : St) : Rs := loopK [3, 5, 6, 7, 8, 9, 10] (dr E0 self RL7 N (B7.r.r.r.r.r.r.r.l.r.l.l.r.l.l.r.l.l.l)) (mkK E0 self Try.f7 nk ek) n (fr 89 [(3, v3), (5, v5), (6, v6), (7, v7), (8, v8), (9, v9), (10, v10)]) S
theorem L7_83_eq (self : EV) (N : Nat) (nk : Ac → St → Rs) (ek : Nat → Ac → St → Rs) (n : Nat) ( v3 v5 v6 v7 v8 v9 v10 : V) (S : St) : L7_83 self N nk ek (n + 1) v3 v5 v6 v7 v8 v9 v10 S =
(binV E0 .gtr 3 false true v10 (.int .i64 0)).bind fun t85 =>
(guardV true t85).bind fun g87 => (bif g87 then some v8 else some (.tuple [])).bind fun t87 =>
(guardV true t85).bind fun g88 => (bif g88 then some v9 else some (.tuple [])).bind fun t88 =>
(guardV true t85).bind fun g89 => (bif g89 then ixP 1 t87 t88 else some (.tuple [])).bind fun t89 =>
(guardV true t85).bind fun g90 => (bif g90 then ld1 t89 S else some (.tuple [], S)).bind fun p90 =>
(guardV true t85).bind fun g91 => (bif g91 then some v10 else some (.tuple [])).bind fun t91 =>
(guardV true t85).bind fun g92 => (bif g92 then binV E0 .sub 3 false true t91 (.int .i64 1) else some (.tuple [])).bind fun t92 =>
(guardV true t85).bind fun g93 => (bif g93 then ixS p90.1 t92 else some (.tuple [])).bind fun t93 =>
(guardV true t85).bind fun g94 => (bif g94 then binV E0 .neq 5 false true t93 (.int .u8 47) else some (.tuple [])).bind fun t94 =>
(pickV t85 (some t94) (some (.bool false))).bind fun t95 =>
ifK t95 (
(binV E0 .sub 3 false true v10 (.int .i64 1)).bind fun t97 =>
L7_83 self N nk ek n v3 v5 v6 v7 v8 v9 t97 p90.2) (
ek 2 (fr 89 [(3, v3), (5, v5), (6, v6), (7, v7), (8, v8), (9, v9), (10, v10)]) p90.2) := by kernel_rfl
theorem L7_57_eq (self : EV) (N : Nat) (nk : Ac → St → Rs) (ek : Nat → Ac → St → Rs) (n : Nat) ( v3 v5 v6 v7 v8 v9 : V) (S : St) : L7_57 self N nk ek (n + 1) v3 v5 v6 v7 v8 v9 S =
(lnS v8 S).bind fun p60 =>
(binV E0 .lss 3 false false v9 p60.1).bind fun t61 =>
ifK t61 (
(ixP 1 v8 v9).bind fun t68 =>
(ld1 t68 p60.2).bind fun p69 =>
(lnStr p69.1 p69.2).bind fun p70 =>
L7_83 self N (R7_72 self N (R7_62 self N (N7_57 self N nk ek n) ek) (exB 1 (R7_62 self N (N7_57 self N nk ek n) ek) ek)) (exB 2 (R7_72 self N (R7_62 self N (N7_57 self N nk ek n) ek) (exB 1 (R7_62 self N (N7_57 self N nk ek n) ek) ek)) (exB 1 (R7_62 self N (N7_57 self N nk ek n) ek) ek)) N v3 v5 v6 v7 v8 v9 p70.1 p70.2) (
ek 0 (fr 89 [(3, v3), (5, v5), (6, v6), (7, v7)]) p60.2) := by kernel_rfl
theorem N7_57_eq (self : EV) (N : Nat) (nk : Ac → St → Rs) (ek : Nat → Ac → St → Rs) (n : Nat) ( v3 v5 v6 v7 v8 v9 : V) (S : St) : N7_57 self N nk ek n (fr 89 [(3, v3), (5, v5), (6, v6), (7, v7), (8, v8), (9, v9)]) S = L7_57 self N nk ek n v3 v5 v6 v7 v8 v9 S := by kernel_rfl
noncomputable def F7 (self : EV) (N : Nat) (x0 : V) (S : St) : Rs := runF E0 self N Try.f7 B7 [x0] S
theorem F7_eq (self : EV) (N : Nat) (x0 : V) (S : St) : F7 self N x0 S =
(boxK 24 x0 S).bind fun p0 =>
(ldA 5 p0.1 p0.2).bind fun p2 =>
callP (self.f 8 [p2.1, (.int .i64 13)] p2.2) fun t3 S3 =>
(stP 5 p0.1 t3 S3).bind fun p4 =>
(ldA 5 p0.1 p4.2).bind fun p5 =>
callP (self.f 9 [p5.1] p5.2) fun t6 S6 =>
(extractV t6 0).bind fun t8 =>
(extractV t6 1).bind fun t9 =>
(binV E0 .neq 26 false true t9 (.int .i64 0)).bind fun t13 =>
ifK t13 (
(binV E0 .eql 9 false true t8 (sv [])).bind fun t15 =>
(guardV true t15).bind fun g17 => callP (bif g17 then self.f 11 [] S6 else some (.ret (.tuple []), S6)) fun t17 S17 =>
(pickV t15 (some t17) (some (.bool false))).bind fun t18 =>
some (.ret t18, S17)) (
(ldA 5 p0.1 S6).bind fun p20 =>
callP (self.f 17 [p20.1] p20.2) fun t21 S21 =>
(extractV t21 0).bind fun t23 =>
(extractV t21 1).bind fun t24 =>
(ldA 5 p0.1 S21).bind fun p28 =>
callP (self.f 18 [p28.1] p28.2) fun t29 S29 =>
L7_57 self N (R7_31 self N (finN E0 self Try.f7) noEx) (exB 0 (R7_31 self N (finN E0 self Try.f7) noEx) noEx) N t8 t23 t24 (.int .i64 0) t29 (.int .i64 0) S29) := by kernel_rfl
end
end Go.Proofs.Ythmkdoaaciamlaa.W
namespace Go.Proofs.Ythmkdoaaciamlaa.W
open Go.Proofs.Ythmkdoaaciamlaa.Ev
theorem E0_ok : EnvOk Try.prog E0 := envOf_ok (by kernel_rfl) (by kernel_rfl) (by kernel_rfl) (fun p hp => by
 simp only [List.mem_cons, List.not_mem_nil, or_false] at hp
 rcases hp with rfl
 exact ⟨fun _ args w => by kernel_rfl, fun h => absurd h (by decide), fun h => absurd h (by decide), fun h => absurd h (by decide), fun h => absurd h (by decide)⟩
 ) (by kernel_rfl) (by kernel_rfl) (by kernel_rfl)
inductive Nd where
 | mk (name : List UInt8) (kind : Int) (exec : Bool) (data : List UInt8) (kids : List Nd)
def Nd.name : Nd → List UInt8 | .mk n _ _ _ _ => n
def Nd.kind : Nd → Int | .mk _ k _ _ _ => k
def Nd.exec : Nd → Bool | .mk _ _ e _ _ => e
def Nd.data : Nd → List UInt8 | .mk _ _ _ d _ => d
def Nd.kids : Nd → List Nd | .mk _ _ _ _ l => l
def kidsV : List V → V
 | [] => .nilslice
 | x :: l => .list 5 (x :: l)
mutual
noncomputable def encN : Nd → V
 | .mk n k e d l => vAgg [sv n, .int .i64 k, .bool e, sv d, kidsV (encL l)]
noncomputable def encL : List Nd → List V
 | [] => []
 | x :: l => encN x :: encL l
end
noncomputable def cellsN (x : Nd) : List V := [sv x.name, .int .i64 x.kind, .bool x.exec, sv x.data, kidsV (encL x.kids)]
theorem encN_cells (x : Nd) : encN x = vAgg (cellsN x) := by cases x; simp only [encN, cellsN, Nd.name, Nd.kind, Nd.exec, Nd.data, Nd.kids]
theorem encL_map : ∀ l : List Nd, encL l = l.map encN
 | [] => rfl
 | x :: l => by rw [encL, encL_map l]; rfl
theorem encL_length (l : List Nd) : (encL l).length = l.length := by rw [encL_map, List.length_map]
mutual
def cntN : Nd → Nat
 | .mk _ _ _ _ l => 1 + cntL l
def cntL : List Nd → Nat
 | [] => 0
 | x :: l => cntN x + cntL l
end
theorem cntN_eq (x : Nd) : cntN x = 1 + cntL x.kids := by cases x; rw [cntN]; rfl
mutual
def Nd.ok : Nd → Prop
 | .mk n k _ d l => n.length < 9223372036854775808 ∧ (-9223372036854775808 ≤ k ∧ k < 9223372036854775808) ∧ d.length ≤ 3000 ∧ l.length ≤ 3000 ∧ 1 + cntL l < 4611686018427387904 ∧ okL l
def okL : List Nd → Prop
 | [] => True
 | x :: l => x.ok ∧ okL l
end
theorem okL_iff : ∀ l : List Nd, okL l ↔ ∀ x ∈ l, x.ok
 | [] => by simp [okL]
 | x :: l => by simp [okL, okL_iff l]
structure NdOk (x : Nd) : Prop where
 name : x.name.length < 9223372036854775808
 kind : -9223372036854775808 ≤ x.kind ∧ x.kind < 9223372036854775808
 data : x.data.length ≤ 3000
 few : x.kids.length ≤ 3000
 cnt : 1 + cntL x.kids < 4611686018427387904
 kids : ∀ y ∈ x.kids, y.ok
theorem Nd.ok.at {x : Nd} (h : x.ok) : NdOk x := by
 cases x with
 | mk n k e d l =>
  rw [Nd.ok] at h
  obtain ⟨h1, h2, h3, h4, hc, h5⟩ := h
  exact ⟨h1, h2, h3, h4, hc, (okL_iff l).1 h5⟩
theorem vAgg_inj {l m : List V} (h : vAgg l = vAgg m) : l = m := by
 unfold vAgg at h
 simp only [V.agg.injEq] at h
 refine List.ext_getElem? fun i => ?_
 rw [← vAgg_get l i, ← vAgg_get m i, h.2]
theorem kidsV_inj : ∀ {l m : List V}, kidsV l = kidsV m → l = m
 | [], [], _ => rfl
 | [], _ :: _, h => by simp [kidsV] at h
 | _ :: _, [], h => by simp [kidsV] at h
 | _ :: _, _ :: _, h => by simpa [kidsV] using h
mutual
theorem encN_inj : ∀ {x y : Nd}, encN x = encN y → x = y
 | .mk n k e d l, .mk n' k' e' d' l', h => by
  rw [encN, encN] at h
  have h := vAgg_inj h
  simp only [List.cons.injEq, V.int.injEq, V.bool.injEq, true_and, and_true] at h
  obtain ⟨h1, h2, h3, h4, h5⟩ := h
  rw [sv_inj h1, h2, h3, sv_inj h4, encL_inj (kidsV_inj h5)]
theorem encL_inj : ∀ {l m : List Nd}, encL l = encL m → l = m
 | [], [], _ => rfl
 | [], _ :: _, h => by simp [encL] at h
 | _ :: _, [], h => by simp [encL] at h
 | x :: l, y :: m, h => by
  simp only [encL, List.cons.injEq] at h
  rw [encN_inj h.1, encL_inj h.2]
end
section
variable {s : St}
structure NodeAt (s : St) (b : Nat) (x : Nd) : Prop where
 on : s.on = false
 bx : Bx s b 24 (cellsN x)
theorem big5 : 5 < big := by unfold big; decide
variable {b : Nat} {x : Nd}
theorem NodeAt.f0 (h : NodeAt s b x) : ld1 (.ptr b 0) s = some (sv x.name, s) := Bx.ld1 h.on h.bx 0 (by show 0 < 5; decide) big5
theorem NodeAt.f1 (h : NodeAt s b x) : ld1 (.ptr b 1) s = some (.int .i64 x.kind, s) := Bx.ld1 h.on h.bx 1 (by show 1 < 5; decide) big5
theorem NodeAt.f2 (h : NodeAt s b x) : ld1 (.ptr b 2) s = some (.bool x.exec, s) := Bx.ld1 h.on h.bx 2 (by show 2 < 5; decide) big5
theorem NodeAt.f3 (h : NodeAt s b x) : ld1 (.ptr b 3) s = some (sv x.data, s) := Bx.ld1 h.on h.bx 3 (by show 3 < 5; decide) big5
theorem NodeAt.f4 (h : NodeAt s b x) : ld1 (.ptr b 4) s = some (kidsV (encL x.kids), s) := Bx.ld1 h.on h.bx 4 (by show 4 < 5; decide) big5
theorem NodeAt.fA (h : NodeAt s b x) : ldA 5 (.ptr b 0) s = some (encN x, s) := by rw [encN_cells]; exact Bx.ldA h.on h.bx rfl big5
theorem NodeAt.o0 (h : NodeAt s b x) : ld1 (.ptr b 0) (onS s) = some (sv x.name, rd s b 0 1) := Bx.ld1On h.on h.bx 0 (by show 0 < 5; decide) big5
theorem NodeAt.o1 (h : NodeAt s b x) : ld1 (.ptr b 1) (onS s) = some (.int .i64 x.kind, rd s b 1 1) := Bx.ld1On h.on h.bx 1 (by show 1 < 5; decide) big5
theorem NodeAt.o2 (h : NodeAt s b x) : ld1 (.ptr b 2) (onS s) = some (.bool x.exec, rd s b 2 1) := Bx.ld1On h.on h.bx 2 (by show 2 < 5; decide) big5
theorem NodeAt.o3 (h : NodeAt s b x) : ld1 (.ptr b 3) (onS s) = some (sv x.data, rd s b 3 1) := Bx.ld1On h.on h.bx 3 (by show 3 < 5; decide) big5
theorem NodeAt.o4 (h : NodeAt s b x) : ld1 (.ptr b 4) (onS s) = some (kidsV (encL x.kids), rd s b 4 1) := Bx.ld1On h.on h.bx 4 (by show 4 < 5; decide) big5
theorem NodeAt.oA (h : NodeAt s b x) : ldA 5 (.ptr b 0) (onS s) = some (encN x, rd s b 0 5) := by rw [encN_cells]; exact Bx.ldAOn h.bx rfl big5
theorem NodeAt.grew {W : Nat → Prop} {t : St} (h : NodeAt s b x) (hb : b < s.next) (hw : ¬ W b) (g : Grew W s t) : NodeAt t b x := ⟨g.on.trans h.on, h.bx.grew hb hw g⟩
theorem node_box (ho : s.on = false) (x : Nd) : ∃ t, boxK 24 (encN x) s = some (.ptr s.next 0, t) ∧ NodeAt t s.next x ∧ Grew (fun _ => False) s t ∧ t.next = s.next + 1 := by
 obtain ⟨t, h1, h2, h3, h4⟩ := box_new ho 24 (cellsN x)
 rw [encN_cells]
 exact ⟨t, h1, ⟨h3.on.trans ho, h2⟩, h3, h4⟩
theorem node_new (ho : s.on = false) (z : Tr V) (x : Nd) : ∃ t, stP 5 (.ptr s.next 0) (encN x) (nwP 24 5 z s).2 = some (.tuple [], t) ∧ NodeAt t s.next x ∧ Grew (fun _ => False) s t ∧ t.next = s.next + 1 := by
 obtain ⟨t, h1, h2, h3, h4⟩ := var_new ho 24 5 z (cellsN x) rfl (by decide) big5
 rw [encN_cells]
 exact ⟨t, h1, ⟨h3.on.trans ho, h2⟩, h3, h4⟩
theorem lnS_kids (l : List Nd) : lnS (kidsV (encL l)) s = some (.int .i64 (l.length : Int), s) := by
 cases l with
 | nil => rfl
 | cons x l =>
  show some (V.int .i64 (.ofNat ((encN x :: encL l).length)), s) = _
  rw [List.length_cons, encL_length]; rfl
theorem ixP_kids (l : List Nd) (i : Nat) (h : i < l.length) : ixP 5 (kidsV (encL l)) (.int .i64 (i : Int)) = some (.cptr (encN l[i])) := by
 cases l with
 | nil => simp at h
 | cons x l =>
  show ixP 5 (.list 5 (encL (x :: l))) _ = _
  rw [ixP_list 5 (encL (x :: l)) .i64 i (by rw [encL_length]; exact h) (by decide)]
  congr 2
  simp only [encL_map, List.getElem_map]
theorem ldA_kid (x : Nd) : ldA 5 (.cptr (encN x)) s = some (encN x, s) := by rw [encN_cells]; exact ldA_cptr (cellsN x)
theorem faP_kid (x : Nd) : faP 0 false 1 (.cptr (encN x)) = some (.cptr (sv x.name)) := by rw [encN_cells]; exact faP_cptr (cellsN x) 0 (by show 0 < 5; decide)
theorem ld1_csv (l : List UInt8) : ld1 (.cptr (sv l)) s = some (sv l, s) := rfl
end
def deepN : Nat → Nd → Nat
 | 0, _ => 1
 | m + 1, x => if x.kind ≠ 2 ∨ m = 0 then 1 else x.kids.foldl (fun d y => max d (1 + deepN m y)) 1
theorem foldl_max_le {α : Type} (f : α → Nat) (B : Nat) : ∀ (l : List α) (d : Nat), d ≤ B → (∀ y ∈ l, 1 + f y ≤ B) → l.foldl (fun d y => max d (1 + f y)) d ≤ B
 | [], d, h, _ => h
 | y :: l, d, h, hl => foldl_max_le f B l _ (Nat.max_le.2 ⟨h, hl y (List.mem_cons_self ..)⟩) fun z hz => hl z (List.mem_cons_of_mem _ hz)
theorem deepN_le : ∀ (m : Nat) (x : Nd), deepN m x ≤ m + 1
 | 0, x => by simp [deepN]
 | m + 1, x => by
  rw [deepN]
  split
  · omega
  · exact foldl_max_le _ _ _ _ (by omega) fun y _ => by have := deepN_le m y; omega
structure DeepIn where
 m : Nat
 x : Nd
 h1 : 1 ≤ m
 h2 : m ≤ 14
 ok : x.ok
noncomputable def encDeep (p : DeepIn) : List V := [encN p.x, .int .i64 (p.m : Int)]
theorem encDeep_inj {p q : DeepIn} (h : encDeep p = encDeep q) : p.m = q.m ∧ p.x = q.x := by
 simp only [encDeep, List.cons.injEq, V.int.injEq, true_and, and_true] at h
 exact ⟨by omega, encN_inj h.1⟩
noncomputable def outDeep (p : DeepIn) : En := .ret (.int .i64 (deepN p.m p.x : Int))
noncomputable def kfDeep : KF := specKF encDeep outDeep
theorem kfDeep_run (m : Nat) (x : Nd) (h1 : 1 ≤ m) (h2 : m ≤ 14) (ok : x.ok) (S : St) : kfDeep.run [encN x, .int .i64 (m : Int)] S = some (.ret (.int .i64 (deepN m x : Int)), S) :=
 specKF_run (enc := encDeep) (out := outDeep) (fun p q h => by obtain ⟨h1, h2⟩ := encDeep_inj h; unfold outDeep; rw [h1, h2]) ⟨m, x, h1, h2, ok⟩ S
theorem L70_spec (self : EV) (N : Nat) (nk : Ac → St → Rs) (ek : Nat → Ac → St → Rs) (all : List Nd) (hall : all.length ≤ 3000) (m : Nat) (hm : m ≤ 14)
 (hself : ∀ x ∈ all, ∀ s, self.f 70 [encN x, .int .i64 (m : Int)] s = some (.ret (.int .i64 (deepN m x : Int)), s)) :
 ∀ (r : List Nd) (i d n : Nat) (S : St), all.drop i = r → r.length < n → S.on = false → d ≤ 100 →
 ∃ S', L70_19 self N nk ek n (.int .i64 ((m + 1 : Nat) : Int)) (.int .i64 (d : Int)) (kidsV (encL all)) (.int .i64 (all.length : Int)) (.int .i64 (i : Int)) S = ek 0 (fr 32 [(5, .int .i64 ((r.foldl (fun d y => max d (1 + deepN m y)) d : Nat) : Int))]) S' ∧ Grew (fun _ => False) S S'
 | r, i, d, 0, S, _, hn, _, _ => by omega
 | [], i, d, n + 1, S, hi, hn, ho, hd => by
  rw [L70_19_eq, binV_ii, intsV_lss]
  have : all.length ≤ i := List.drop_eq_nil_iff.1 hi
  rw [show decide ((i : Int) < (all.length : Int)) = false by simp; omega]
  exact ⟨S, rfl, Grew.refl _ _⟩
 | x :: r, i, d, n + 1, S, hi, hn, ho, hd => by
  have hlt : i < all.length := by
   rcases Nat.lt_or_ge i all.length with h | h
   · exact h
   · rw [List.drop_eq_nil_of_le h] at hi; cases hi
  rw [List.drop_eq_getElem_cons hlt] at hi
  simp only [List.cons.injEq] at hi
  obtain ⟨hx, hr⟩ := hi
  rw [L70_19_eq, binV_ii, intsV_lss, show decide ((i : Int) < (all.length : Int)) = true by simp; omega]
  simp only [oB, ifK_bool, cond_true]
  rw [ixP_kids all i hlt, hx]
  simp only [oB, ldA_kid, nwP_fst]
  obtain ⟨S1, k1, k2, k3, k4⟩ := node_new ho (Tr.ofListFrom .nil [(sv []), (.int .i64 0), (.bool false), (sv []), .nilslice] 0) x
  rw [k1]
  simp only [oB, k2.fA, binV_ii, intsV_sub]
  rw [show ((m + 1 : Nat) : Int) - 1 = (m : Int) by omega, wrap_i64 (by omega) (by omega)]
  rw [hself x (hx ▸ List.getElem_mem hlt)]
  have hb := deepN_le m x
  simp only [callP_ret, binV_ii, intsV_add, oB]
  rw [show (1 : Int) + (deepN m x : Int) = ((1 + deepN m x : Nat) : Int) by omega, wrap_i64 (by omega) (by omega)]
  rw [foldK_max, show max (d : Int) ((1 + deepN m x : Nat) : Int) = ((max d (1 + deepN m x) : Nat) : Int) by omega]
  simp only [oB]
  rw [show (i : Int) + 1 = ((i + 1 : Nat) : Int) by omega, wrap_i64 (by omega) (by omega)]
  obtain ⟨S', h1, h2⟩ := L70_spec self N nk ek all hall m hm hself r (i + 1) (max d (1 + deepN m x)) n S1 hr (by simp at hn; omega) k2.on (by omega)
  exact ⟨S', by rw [h1]; rfl, k3.trans h2⟩
theorem F70_spec (self : EV) (x : Nd) (ok : x.ok) (m : Nat) (hm : m + 1 ≤ 14) (hself : ∀ y ∈ x.kids, ∀ s, 1 ≤ m → self.f 70 [encN y, .int .i64 (m : Int)] s = some (.ret (.int .i64 (deepN m y : Int)), s)) (S : St) (ho : S.on = false) :
 ∃ S', F70 self rounds (encN x) (.int .i64 ((m + 1 : Nat) : Int)) S = some (.ret (.int .i64 (deepN (m + 1) x : Int)), S') ∧ Grew (fun _ => False) S S' := by
 obtain ⟨S1, k1, k2, k3, k4⟩ := node_box ho x
 have hok := ok.at
 rw [F70_eq, k1]
 simp only [oB, faP_ptr, Nat.zero_add, k2.f1, binV_ii, intsV_neq]
 rw [deepN]
 by_cases hk : x.kind = 2
 · rw [hk]
   simp only [ne_eq, not_true_eq_false, decide_true, decide_false, oB, guardV_t, guardV_f, guardV_no, Bool.not_true, Bool.not_false, cond_true, binV_ii, intsV_eql, pickV, cond_false, false_or]
   by_cases hm0 : m = 0
   · subst hm0
     exact ⟨S1, rfl, k3⟩
   · rw [show decide (((m + 1 : Nat) : Int) = 1) = false by simp; omega, if_neg hm0]
     simp only [ifK_bool, cond_false, k2.f4, oB, lnS_kids]
     obtain ⟨S', h1, h2⟩ := L70_spec self rounds (R70_12 self rounds (finN E0 self Try.f70) noEx) (exB 0 (R70_12 self rounds (finN E0 self Try.f70) noEx) noEx) x.kids hok.few m (by omega) (fun y hy s => hself y hy s (by omega)) x.kids 0 1 rounds S1 rfl (by have := hok.few; unfold rounds; omega) k2.on (by omega)
     refine ⟨S', ?_, k3.trans h2⟩
     rw [show ((0 : Nat) : Int) = 0 from rfl, show ((1 : Nat) : Int) = 1 from rfl] at h1
     rw [h1, exB_same, R70_12_eq]
 · simp only [ne_eq, hk, not_false_eq_true, decide_true, decide_false, Bool.not_false, oB, guardV_t, guardV_f, guardV_no, Bool.not_true, cond_false, pickV, cond_true, ifK_bool, true_or, if_true]
   exact ⟨S1, rfl, k3⟩
end Go.Proofs.Ythmkdoaaciamlaa.W
namespace Go.Proofs.Ythmkdoaaciamlaa.W
open Go.Proofs.Ythmkdoaaciamlaa.Ev
theorem kn70 {K : FuncId → Option KF} (hK : KnOk Try.prog E0 K) : KnWell Try.prog E0 70 kfDeep :=
 specKF_rec (fn := Try.f70) (c := C70) (d := B70) (fun p : DeepIn => p.m) (fun p q h => by obtain ⟨h1, h2⟩ := encDeep_inj h; unfold outDeep; rw [h1, h2]; exact ⟨rfl, rfl⟩) E0_ok hK (by kernel_rfl) (by kernel_rfl) (annot_isOf C70 _ (by kernel_rfl)) fun K' _ p s hself ho => by
  obtain ⟨m, hm⟩ : ∃ m, p.m = m + 1 := ⟨p.m - 1, by have := p.h1; omega⟩
  obtain ⟨S', h1, h2⟩ := F70_spec (ev E0 K' 1) p.x p.ok m (by have := p.h2; omega) (fun y hy s h1m => hself ⟨m, y, h1m, by have := p.h2; omega, p.ok.at.kids y hy⟩ s 0 (by show m < p.m; omega)) s ho
  rw [← hm] at h1
  exact ⟨1, .ret (.int .i64 (deepN p.m p.x : Int)), S', h1, h2, Fz.same (.int _ _)⟩
theorem L57_spec (self : EV) (N : Nat) (nk : Ac → St → Rs) (ek : Nat → Ac → St → Rs) (x : Nd) (b : Nat) (hall : x.kids.length ≤ 3000) (m : Nat) (hm : m ≤ 14)
 (hself : ∀ y ∈ x.kids, ∀ s, self.f 57 [encN y, .int .i64 (m : Int)] s = some (.ret (.int .i64 (deepN m y : Int)), s)) (S : St) (hx : NodeAt S b x) :
 ∀ (r : List Nd) (i d n : Nat), x.kids.drop i = r → r.length < n → d ≤ 100 →
 L57_15 self N nk ek n (.int .i64 ((m + 1 : Nat) : Int)) (.ptr b 0) (.int .i64 (d : Int)) (.int .i64 (i : Int)) S = ek 0 (fr 33 [(5, .int .i64 ((r.foldl (fun d y => max d (1 + deepN m y)) d : Nat) : Int))]) S
 | r, i, d, 0, _, hn, _ => by omega
 | [], i, d, n + 1, hi, hn, hd => by
  have : x.kids.length ≤ i := List.drop_eq_nil_iff.1 hi
  rw [L57_15_eq]
  simp only [faP_ptr, oB, Nat.zero_add, hx.f4, lnS_kids, binV_ii, intsV_lss]
  rw [show decide ((i : Int) < (x.kids.length : Int)) = false by simp; omega]
  rfl
 | y :: r, i, d, n + 1, hi, hn, hd => by
  have hlt : i < x.kids.length := by
   rcases Nat.lt_or_ge i x.kids.length with h | h
   · exact h
   · rw [List.drop_eq_nil_of_le h] at hi; cases hi
  rw [List.drop_eq_getElem_cons hlt] at hi
  simp only [List.cons.injEq] at hi
  obtain ⟨hy, hr⟩ := hi
  rw [L57_15_eq]
  simp only [faP_ptr, oB, Nat.zero_add, hx.f4, lnS_kids, binV_ii, intsV_lss]
  rw [show decide ((i : Int) < (x.kids.length : Int)) = true by simp; omega]
  simp only [ifK_bool, cond_true]
  rw [ixP_kids x.kids i hlt, hy]
  simp only [oB, ldA_kid, binV_ii, intsV_sub]
  rw [show ((m + 1 : Nat) : Int) - 1 = (m : Int) by omega, wrap_i64 (by omega) (by omega), hself y (hy ▸ List.getElem_mem hlt)]
  have hb := deepN_le m y
  simp only [callP_ret, binV_ii, intsV_add, oB]
  rw [show (1 : Int) + (deepN m y : Int) = ((1 + deepN m y : Nat) : Int) by omega, wrap_i64 (by omega) (by omega)]
  rw [foldK_max, show max (d : Int) ((1 + deepN m y : Nat) : Int) = ((max d (1 + deepN m y) : Nat) : Int) by omega]
  simp only [oB]
  rw [show (i : Int) + 1 = ((i + 1 : Nat) : Int) by omega, wrap_i64 (by omega) (by omega)]
  rw [L57_spec self N nk ek x b hall m hm hself S hx r (i + 1) (max d (1 + deepN m y)) n hr (by simp at hn; omega) (by omega)]
  rfl
theorem F57_spec (self : EV) (x : Nd) (ok : x.ok) (m : Nat) (hm : m + 1 ≤ 14) (hself : ∀ y ∈ x.kids, ∀ s, 1 ≤ m → self.f 57 [encN y, .int .i64 (m : Int)] s = some (.ret (.int .i64 (deepN m y : Int)), s)) (S : St) (ho : S.on = false) :
 ∃ S', F57 self rounds (encN x) (.int .i64 ((m + 1 : Nat) : Int)) S = some (.ret (.int .i64 (deepN (m + 1) x : Int)), S') ∧ Grew (fun _ => False) S S' := by
 obtain ⟨S1, k1, k2, k3, k4⟩ := node_box ho x
 have hok := ok.at
 rw [F57_eq, k1]
 simp only [oB, faP_ptr, Nat.zero_add, k2.f1, binV_ii, intsV_neq]
 rw [deepN]
 by_cases hk : x.kind = 2
 · rw [hk]
   simp only [ne_eq, not_true_eq_false, decide_true, decide_false, oB, guardV_t, guardV_f, guardV_no, Bool.not_true, Bool.not_false, cond_true, binV_ii, intsV_eql, pickV, cond_false, false_or]
   by_cases hm0 : m = 0
   · subst hm0
     exact ⟨S1, rfl, k3⟩
   · rw [show decide (((m + 1 : Nat) : Int) = 1) = false by simp; omega, if_neg hm0]
     simp only [ifK_bool, cond_false]
     have h1 := L57_spec self rounds (R57_11 self rounds (finN E0 self Try.f57) noEx) (exB 0 (R57_11 self rounds (finN E0 self Try.f57) noEx) noEx) x S.next hok.few m (by omega) (fun y hy s => hself y hy s (by omega)) S1 k2 x.kids 0 1 rounds rfl (by have := hok.few; unfold rounds; omega) (by omega)
     refine ⟨S1, ?_, k3⟩
     rw [show ((0 : Nat) : Int) = 0 from rfl, show ((1 : Nat) : Int) = 1 from rfl] at h1
     rw [h1, exB_same, R57_11_eq]
 · simp only [ne_eq, hk, not_false_eq_true, decide_true, decide_false, Bool.not_false, oB, guardV_t, guardV_f, guardV_no, Bool.not_true, cond_false, pickV, cond_true, ifK_bool, true_or, if_true]
   exact ⟨S1, rfl, k3⟩
theorem kn57 {K : FuncId → Option KF} (hK : KnOk Try.prog E0 K) : KnWell Try.prog E0 57 kfDeep :=
 specKF_rec (fn := Try.f57) (c := C57) (d := B57) (fun p : DeepIn => p.m) (fun p q h => by obtain ⟨h1, h2⟩ := encDeep_inj h; unfold outDeep; rw [h1, h2]; exact ⟨rfl, rfl⟩) E0_ok hK (by kernel_rfl) (by kernel_rfl) (annot_isOf C57 _ (by kernel_rfl)) fun K' _ p s hself ho => by
  obtain ⟨m, hm⟩ : ∃ m, p.m = m + 1 := ⟨p.m - 1, by have := p.h1; omega⟩
  obtain ⟨S', h1, h2⟩ := F57_spec (ev E0 K' 1) p.x p.ok m (by have := p.h2; omega) (fun y hy s h1m => hself ⟨m, y, h1m, by have := p.h2; omega, p.ok.at.kids y hy⟩ s 0 (by show m < p.m; omega)) s ho
  rw [← hm] at h1
  exact ⟨1, .ret (.int .i64 (deepN p.m p.x : Int)), S', h1, h2, Fz.same (.int _ _)⟩
structure NodeIn where
 x : Nd
 ok : x.ok
noncomputable def encNode (p : NodeIn) : List V := [encN p.x]
theorem encNode_inj {p q : NodeIn} (h : encNode p = encNode q) : p.x = q.x := by
 simp only [encNode, List.cons.injEq, and_true] at h
 exact encN_inj h
noncomputable def kfNode (g : Nd → V) : KF := specKF encNode (fun p : NodeIn => En.ret (g p.x))
theorem kfNode_run (g : Nd → V) (x : Nd) (ok : x.ok) (S : St) : (kfNode g).run [encN x] S = some (.ret (g x), S) :=
 specKF_run (enc := encNode) (out := fun p : NodeIn => En.ret (g p.x)) (fun p q h => by rw [encNode_inj h]) ⟨x, ok⟩ S
theorem knNode {K : FuncId → Option KF} (hK : KnOk Try.prog E0 K) {f : FuncId} {fn : Func} {c : Code} {d : D} (g : Nd → V) (hu : ∀ n x, Under n (g x)) (hf : E0.fns.get f = some fn) (hb : fn.body = some c) (hd : isOf d c)
 (n : Nat) (h : ∀ x S, x.ok → S.on = false → ∃ S', runF E0 (ev E0 K n) rounds fn d [encN x] S = some (.ret (g x), S') ∧ Grew (fun _ => False) S S') : KnWell Try.prog E0 f (kfNode g) :=
 specKF_text E0_ok hK hf hb hd fun p s ho => by
  obtain ⟨S', h1, h2⟩ := h p.x s p.ok ho
  exact ⟨n, .ret (g p.x), S', h1, h2, Fz.same (hu _ _)⟩
theorem knNode_rec {K : FuncId → Option KF} (hK : KnOk Try.prog E0 K) {f : FuncId} {fn : Func} {c : Code} {d : D} (g : Nd → V) (hu : ∀ n x, Under n (g x)) (hf : E0.fns.get f = some fn) (hb : fn.body = some c) (hd : isOf d c)
 (n : Nat) (h : ∀ K', (∀ q, q ≠ f → K' q = K q) → ∀ x S, x.ok → (∀ y s m, y ∈ x.kids → (ev E0 K' (m + 1)).f f [encN y] s = some (.ret (g y), s)) → S.on = false → ∃ S', runF E0 (ev E0 K' n) rounds fn d [encN x] S = some (.ret (g x), S') ∧ Grew (fun _ => False) S S') : KnWell Try.prog E0 f (kfNode g) :=
 specKF_rec (fun p : NodeIn => SizeOf.sizeOf p.x) (fun p q h => by rw [encNode_inj h]; exact ⟨rfl, rfl⟩) E0_ok hK hf hb hd fun K' hK' p s hself ho => by
  obtain ⟨S', h1, h2⟩ := h K' hK' p.x s p.ok (fun y s m hy => hself ⟨y, p.ok.at.kids y hy⟩ s m (by
   show SizeOf.sizeOf y < SizeOf.sizeOf p.x
   have := List.sizeOf_lt_of_mem hy
   cases hp : p.x with
   | mk n k e d l =>
    rw [hp] at this
    simp only [Nd.kids] at this
    simp only [Nd.mk.sizeOf_spec]
    omega)) ho
  exact ⟨n, .ret (g p.x), S', h1, h2, Fz.same (hu _ _)⟩
noncomputable def gDeep (x : Nd) : V := .int .i64 (deepN 14 x : Int)
theorem kn58 {K : FuncId → Option KF} (hK : KnOk Try.prog E0 K) (h70 : K 70 = some kfDeep) : KnWell Try.prog E0 58 (kfNode gDeep) :=
 knNode hK (c := C58) (d := B58) gDeep (fun _ _ => .int _ _) (by kernel_rfl) (by kernel_rfl) (annot_isOf C58 _ (by kernel_rfl)) 1 fun x S ok ho => by
  obtain ⟨S1, k1, k2, k3, k4⟩ := node_box ho x
  refine ⟨S1, (?_ : F58 (ev E0 K 1) rounds (encN x) S = _), k3⟩
  rw [F58_eq, k1]
  simp only [oB, k2.fA]
  rw [show (V.int .i64 14) = .int .i64 ((14 : Nat) : Int) from rfl, ev_known h70, kfDeep_run 14 x (by omega) (by omega) ok]
  rfl
theorem kn34 {K : FuncId → Option KF} (hK : KnOk Try.prog E0 K) (h57 : K 57 = some kfDeep) : KnWell Try.prog E0 34 (kfNode gDeep) :=
 knNode hK (c := C34) (d := B34) gDeep (fun _ _ => .int _ _) (by kernel_rfl) (by kernel_rfl) (annot_isOf C34 _ (by kernel_rfl)) 1 fun x S ok ho => by
  obtain ⟨S1, k1, k2, k3, k4⟩ := node_box ho x
  refine ⟨S1, (?_ : F34 (ev E0 K 1) rounds (encN x) S = _), k3⟩
  rw [F34_eq, k1]
  simp only [oB, k2.fA]
  rw [show (V.int .i64 14) = .int .i64 ((14 : Nat) : Int) from rfl, ev_known h57, kfDeep_run 14 x (by omega) (by omega) ok]
  rfl
def tooDeepN (x : Nd) : Bool := decide (12 < deepN 14 x)
noncomputable def gTooDeep (x : Nd) : V := .bool (tooDeepN x)
theorem kn35 {K : FuncId → Option KF} (hK : KnOk Try.prog E0 K) (h58 : K 58 = some (kfNode gDeep)) : KnWell Try.prog E0 35 (kfNode gTooDeep) :=
 knNode hK (c := C35) (d := B35) gTooDeep (fun _ _ => .bool _) (by kernel_rfl) (by kernel_rfl) (annot_isOf C35 _ (by kernel_rfl)) 1 fun x S ok ho => by
  obtain ⟨S1, k1, k2, k3, k4⟩ := node_box ho x
  refine ⟨S1, (?_ : F35 (ev E0 K 1) rounds (encN x) S = _), k3⟩
  rw [F35_eq, k1]
  simp only [oB, k2.fA]
  rw [ev_known h58, kfNode_run _ x ok]
  simp only [callP_ret, gDeep, binV_ii, intsV_gtr, oB, gTooDeep, tooDeepN]
  rw [show decide ((12 : Int) < (deepN 14 x : Int)) = decide (12 < deepN 14 x) by rw [decide_eq_decide]; omega]
end Go.Proofs.Ythmkdoaaciamlaa.W
namespace Go.Proofs.Ythmkdoaaciamlaa.W
open Go.Proofs.Ythmkdoaaciamlaa.Ev
abbrev wr (n : Int) : Int := IntKind.i64.wrap n
theorem wr_range (n : Int) : -9223372036854775808 ≤ wr n ∧ wr n < 9223372036854775808 := by
 unfold wr IntKind.wrap
 have h1 : ((2 : Int) ^ IntKind.i64.bits) = 18446744073709551616 := by decide
 have h2 : ((2 : Int) ^ (IntKind.i64.bits - 1)) = 9223372036854775808 := by decide
 simp only [h1, h2, show IntKind.i64.signed = true from rfl, Bool.true_and, decide_eq_true_eq]
 split <;> omega
theorem wr_wr (n : Int) : wr (wr n) = wr n := wrap_i64 (wr_range n).1 (wr_range n).2
mutual
def sizeN : Nd → Int × Int
 | .mk _ _ _ d l => sizeL l (1, (d.length : Int))
def sizeL : List Nd → Int × Int → Int × Int
 | [], a => a
 | x :: l, a => sizeL l (if tooDeepN x then a else (wr (a.1 + (sizeN x).1), wr (a.2 + (sizeN x).2)))
end
theorem sizeN_eq (x : Nd) : sizeN x = sizeL x.kids (1, (x.data.length : Int)) := by cases x; rw [sizeN]; rfl
noncomputable def gSize (x : Nd) : V := .tuple [.int .i64 (sizeN x).1, .int .i64 (sizeN x).2]
def sizeT (x : Nd) : Int × Int := if tooDeepN x then (0, 0) else sizeN x
noncomputable def gSizeT (x : Nd) : V := .tuple [.int .i64 (sizeT x).1, .int .i64 (sizeT x).2]
theorem under_two (n : Nat) (a b : V) (ha : Under n a) (hb : Under n b) : Under n (.tuple [a, b]) := .tuple (.cons ha (.cons hb .nil))
theorem drop_at {α : Type} {l r : List α} {i : Nat} {y : α} (h : l.drop i = y :: r) : ∃ hlt : i < l.length, l[i] = y ∧ l.drop (i + 1) = r ∧ y ∈ l := by
 have hlt : i < l.length := by
  rcases Nat.lt_or_ge i l.length with h' | h'
  · exact h'
  · rw [List.drop_eq_nil_of_le h'] at h; cases h
 rw [List.drop_eq_getElem_cons hlt] at h
 simp only [List.cons.injEq] at h
 exact ⟨hlt, h.1, h.2, h.1 ▸ List.getElem_mem hlt⟩
theorem drop_end {α : Type} {l : List α} {i : Nat} (h : l.drop i = []) : l.length ≤ i := List.drop_eq_nil_iff.1 h
theorem dec_lt {a b : Nat} (h : a < b) : decide ((a : Int) < (b : Int)) = true := by simp; omega
theorem dec_ge {a b : Nat} (h : b ≤ a) : decide ((a : Int) < (b : Int)) = false := by simp; omega
theorem wrap_succ {i : Nat} (h : i < 9223372036854775807) : IntKind.i64.wrap ((i : Int) + 1) = ((i + 1 : Nat) : Int) := by
 rw [wrap_i64 (by omega) (by omega)]; omega
theorem L38_spec (self : EV) (N : Nat) (nk : Ac → St → Rs) (ek : Nat → Ac → St → Rs) (all : List Nd) (hall : all.length ≤ 3000)
 (h35 : ∀ y ∈ all, ∀ s, self.f 35 [encN y] s = some (.ret (gTooDeep y), s)) (h38 : ∀ y ∈ all, ∀ s, self.f 38 [encN y] s = some (.ret (gSize y), s)) :
 ∀ (r : List Nd) (i n : Nat) (a : Int × Int) (S : St), all.drop i = r → r.length < n → S.on = false →
 ∃ S', L38_17 self N nk ek n (.int .i64 a.1) (.int .i64 a.2) (kidsV (encL all)) (.int .i64 (all.length : Int)) (.int .i64 (i : Int)) S = ek 0 (fr 34 [(2, .int .i64 (sizeL r a).1), (3, .int .i64 (sizeL r a).2)]) S' ∧ Grew (fun _ => False) S S'
 | r, i, 0, a, S, _, hn, _ => by omega
 | [], i, n + 1, a, S, hi, hn, ho => by
  rw [L38_17_eq, binV_ii, intsV_lss, dec_ge (drop_end hi)]
  exact ⟨S, by rw [sizeL]; rfl, Grew.refl _ _⟩
 | x :: r, i, n + 1, a, S, hi, hn, ho => by
  obtain ⟨hlt, hx, hr, hmem⟩ := drop_at hi
  rw [L38_17_eq, binV_ii, intsV_lss, dec_lt hlt]
  simp only [oB, ifK_bool, cond_true]
  rw [ixP_kids all i hlt, hx]
  simp only [oB, ldA_kid, nwP_fst]
  obtain ⟨S1, k1, k2, k3, k4⟩ := node_new ho (Tr.ofListFrom .nil [(sv []), (.int .i64 0), (.bool false), (sv []), .nilslice] 0) x
  rw [k1]
  simp only [oB, k2.fA]
  rw [h35 x hmem, sizeL]
  simp only [callP_ret, gTooDeep, ifK_bool]
  cases htd : tooDeepN x with
  | true =>
   simp only [cond_true, binV_ii, intsV_add, oB, wrap_succ (show i < 9223372036854775807 by omega)]
   obtain ⟨S', h1, h2⟩ := L38_spec self N nk ek all hall h35 h38 r (i + 1) n a S1 hr (by simp at hn; omega) k2.on
   exact ⟨S', by rw [h1]; rfl, k3.trans h2⟩
  | false =>
   simp only [cond_false, k2.fA, oB]
   rw [h38 x hmem]
   simp only [callP_ret, gSize, extractV, List.getElem?_cons_zero, List.getElem?_cons_succ, oB, binV_ii, intsV_add, wrap_succ (show i < 9223372036854775807 by omega)]
   obtain ⟨S', h1, h2⟩ := L38_spec self N nk ek all hall h35 h38 r (i + 1) n (wr (a.1 + (sizeN x).1), wr (a.2 + (sizeN x).2)) S1 hr (by simp at hn; omega) k2.on
   exact ⟨S', by rw [h1]; rfl, k3.trans h2⟩
theorem kn38 {K : FuncId → Option KF} (hK : KnOk Try.prog E0 K) (h35 : K 35 = some (kfNode gTooDeep)) : KnWell Try.prog E0 38 (kfNode gSize) :=
 knNode_rec hK (fn := Try.f38) (c := C38) (d := B38) gSize (fun _ _ => under_two _ _ _ (.int _ _) (.int _ _)) (by kernel_rfl) (by kernel_rfl) (annot_isOf C38 _ (by kernel_rfl)) 1 fun K' hK' x S ok hself ho => by
  obtain ⟨S1, k1, k2, k3, k4⟩ := node_box ho x
  obtain ⟨S', h1, h2⟩ := L38_spec (ev E0 K' 1) rounds (R38_8 (ev E0 K' 1) rounds (finN E0 (ev E0 K' 1) Try.f38) noEx) (exB 0 (R38_8 (ev E0 K' 1) rounds (finN E0 (ev E0 K' 1) Try.f38) noEx) noEx) x.kids ok.at.few
   (fun y hy s => by rw [ev_known (show K' 35 = _ by rw [hK' 35 (by decide)]; exact h35), kfNode_run _ y (ok.at.kids y hy)]) (fun y hy s => hself y s 0 hy) x.kids 0 rounds (1, (x.data.length : Int)) S1 rfl (by have := ok.at.few; unfold rounds; omega) k2.on
  refine ⟨S', (?_ : F38 (ev E0 K' 1) rounds (encN x) S = _), k3.trans h2⟩
  rw [F38_eq, k1]
  simp only [oB, faP_ptr, Nat.zero_add, k2.o3, onS_rd, onS_onS, lnStr_sv, relog_onS k2.on, k2.f4, lnS_kids]
  rw [show ((0 : Nat) : Int) = 0 from rfl] at h1
  dsimp only at h1
  rw [h1, exB_same, R38_8_eq, gSize, sizeN_eq]
theorem kn17 {K : FuncId → Option KF} (hK : KnOk Try.prog E0 K) (h35 : K 35 = some (kfNode gTooDeep)) (h38 : K 38 = some (kfNode gSize)) : KnWell Try.prog E0 17 (kfNode gSizeT) :=
 knNode hK (fn := Try.f17) (c := C17) (d := B17) gSizeT (fun _ _ => under_two _ _ _ (.int _ _) (.int _ _)) (by kernel_rfl) (by kernel_rfl) (annot_isOf C17 _ (by kernel_rfl)) 1 fun x S ok ho => by
  obtain ⟨S1, k1, k2, k3, k4⟩ := node_box ho x
  refine ⟨S1, (?_ : F17 (ev E0 K 1) rounds (encN x) S = _), k3⟩
  rw [F17_eq, k1]
  simp only [oB, k2.fA]
  rw [ev_known h35, kfNode_run _ x ok]
  simp only [callP_ret, gTooDeep, ifK_bool, gSizeT, sizeT]
  cases htd : tooDeepN x with
  | true => rfl
  | false =>
   simp only [cond_false, k2.fA, oB, Bool.false_eq_true, if_false]
   rw [ev_known h38, kfNode_run _ x ok]
   rfl
theorem L45_spec (self : EV) (N : Nat) (nk : Ac → St → Rs) (ek : Nat → Ac → St → Rs) (x : Nd) (b : Nat) (hall : x.kids.length ≤ 3000)
 (h45 : ∀ y ∈ x.kids, ∀ s, self.f 45 [encN y] s = some (.ret (gSizeT y), s)) (S : St) (hx : NodeAt S b x) :
 ∀ (r : List Nd) (i n : Nat) (a : Int × Int), x.kids.drop i = r → r.length < n → wr a.1 = a.1 → wr a.2 = a.2 →
 L45_19 self N nk ek n (.ptr b 0) (.int .i64 a.1) (.int .i64 a.2) (.int .i64 (i : Int)) S = ek 0 (fr 39 [(4, .int .i64 (sizeL r a).1), (5, .int .i64 (sizeL r a).2)]) S
 | r, i, 0, a, _, hn, _, _ => by omega
 | [], i, n + 1, a, hi, hn, _, _ => by
  rw [L45_19_eq]
  simp only [faP_ptr, oB, Nat.zero_add, hx.f4, lnS_kids, binV_ii, intsV_lss, dec_ge (drop_end hi), sizeL]
  rfl
 | y :: r, i, n + 1, a, hi, hn, ha1, ha2 => by
  obtain ⟨hlt, hy, hr, hmem⟩ := drop_at hi
  rw [L45_19_eq]
  simp only [faP_ptr, oB, Nat.zero_add, hx.f4, lnS_kids, binV_ii, intsV_lss, dec_lt hlt, ifK_bool, cond_true]
  rw [ixP_kids x.kids i hlt, hy]
  simp only [oB, ldA_kid]
  rw [h45 y hmem, sizeL]
  simp only [callP_ret, gSizeT, extractV, List.getElem?_cons_zero, List.getElem?_cons_succ, oB, binV_ii, intsV_add, wrap_succ (show i < 9223372036854775807 by omega), sizeT]
  cases htd : tooDeepN y with
  | true =>
   simp only [if_true, Int.add_zero]
   rw [show IntKind.i64.wrap a.1 = a.1 from ha1, show IntKind.i64.wrap a.2 = a.2 from ha2]
   exact L45_spec self N nk ek x b hall h45 S hx r (i + 1) n a hr (by simp at hn; omega) ha1 ha2
  | false =>
   simp only [Bool.false_eq_true, if_false]
   exact L45_spec self N nk ek x b hall h45 S hx r (i + 1) n (wr (a.1 + (sizeN y).1), wr (a.2 + (sizeN y).2)) hr (by simp at hn; omega) (wr_wr _) (wr_wr _)
theorem kn45 {K : FuncId → Option KF} (hK : KnOk Try.prog E0 K) (h34 : K 34 = some (kfNode gDeep)) : KnWell Try.prog E0 45 (kfNode gSizeT) :=
 knNode_rec hK (fn := Try.f45) (c := C45) (d := B45) gSizeT (fun _ _ => under_two _ _ _ (.int _ _) (.int _ _)) (by kernel_rfl) (by kernel_rfl) (annot_isOf C45 _ (by kernel_rfl)) 1 fun K' hK' x S ok hself ho => by
  obtain ⟨S1, k1, k2, k3, k4⟩ := node_box ho x
  refine ⟨S1, (?_ : F45 (ev E0 K' 1) rounds (encN x) S = _), k3⟩
  rw [F45_eq, k1]
  simp only [oB, k2.fA]
  rw [ev_known (show K' 34 = _ by rw [hK' 34 (by decide)]; exact h34), kfNode_run _ x ok]
  simp only [callP_ret, gDeep, binV_ii, intsV_gtr, oB, ifK_bool]
  rw [show decide ((12 : Int) < (deepN 14 x : Int)) = tooDeepN x by unfold tooDeepN; rw [decide_eq_decide]; omega]
  simp only [gSizeT, sizeT]
  cases htd : tooDeepN x with
  | true => rfl
  | false =>
   have hd := ok.at.data
   simp only [cond_false, faP_ptr, oB, Nat.zero_add, k2.o3, onS_rd, onS_onS, lnStr_sv, relog_onS k2.on, Bool.false_eq_true, if_false]
   have h1 := L45_spec (ev E0 K' 1) rounds (R45_13 (ev E0 K' 1) rounds (finN E0 (ev E0 K' 1) Try.f45) noEx) (exB 0 (R45_13 (ev E0 K' 1) rounds (finN E0 (ev E0 K' 1) Try.f45) noEx) noEx) x S.next ok.at.few
    (fun y hy s => hself y s 0 hy) S1 k2 x.kids 0 rounds (1, (x.data.length : Int)) rfl (by have := ok.at.few; unfold rounds; omega) (show wr 1 = 1 from wrap_i64 (by omega) (by omega)) (wrap_i64 (by omega) (by omega))
   rw [show ((0 : Nat) : Int) = 0 from rfl] at h1
   dsimp only at h1
   rw [h1, exB_same, R45_13_eq, sizeN_eq]
end Go.Proofs.Ythmkdoaaciamlaa.W
