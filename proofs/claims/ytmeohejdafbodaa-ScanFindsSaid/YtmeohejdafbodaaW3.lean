/-
  WHAT THE FUNCTIONS COME TO: each is read by the evaluator, printed, and told as a function of data, part 3 of 8 (no condition).
-/
import Derived.Test.YtmeohejdafbodaaW2
import Derived.Test.YtmeohejdafbodaaProg
import Derived.KernelRfl
namespace Go.Proofs.Ytmeohejdafbodaa.W
open Go.Proofs.Ytmeohejdafbodaa.Ev
set_option maxRecDepth 100000
noncomputable section
noncomputable def C8 : Code := Try.f8.body.getD .skip
noncomputable def B8 : D := (qaw C8 [[], [], [], [], [], [], [2, 4, 5, 18, 19, 20], [], [2, 4, 5], [], [], [], [], [], [0, 2, 4, 5], [4], [], [], [], [0, 10], [4], [], []]).1
noncomputable def RL8 : List Nat := cellsOf Try.f8.results.toList
noncomputable def R8_9 (self : EV) (N : Nat) (nk : Ac → St → Rs) (ek : Nat → Ac → St → Rs) (a : Ac) (S : St) : Rs := qb9 [2, 4, 5] a fun a => dr E0 self RL8 N (B8.r.r.r).r (mkK E0 self Try.f8 nk ek) a S
noncomputable def R8_14 (self : EV) (N : Nat) (nk : Ac → St → Rs) (ek : Nat → Ac → St → Rs) (a : Ac) (S : St) : Rs := qb9 [10] a fun a => dr E0 self RL8 N (B8.r.r.r.r.l.r.r).r (mkK E0 self Try.f8 nk ek) a S
theorem R8_14_eq (self : EV) (N : Nat) (nk : Ac → St → Rs) (ek : Nat → Ac → St → Rs) (ds : List AD) ( v10 : V) (S : St) : R8_14 self N nk ek (frD 60 [(10, v10)] ds) S =
(ld1 v10 S).bind fun p15 =>
callPF E0 self Try.f8 (frD 60 [(10, v10), (57, p15.1)] ds) (self.f 17 [p15.1] p15.2) fun t16 S16 =>
(ld1 v10 S16).bind fun p17 =>
finR E0 self Try.f8 (frD 60 [(4, p17.1), (10, v10), (57, p15.1), (58, t16), (59, p17.1)] ds) p17.2 := by kernel_rfl
noncomputable def YA8_21 : Code := (B8.r.r.r.r.l.r.r.l.r.l).as
noncomputable def YB8_21 : Code := (B8.r.r.r.r.l.r.r.l.r.l).bd
noncomputable def DA8_21 : D := (qaw YA8_21 []).1
noncomputable def DB8_21 : D := (qaw YB8_21 [[], [5, 11, 12, 13], [], [], [], []]).1
noncomputable def qer (st : Nat) (pend : Option Code) ( v5 v11 : V) : O := .loop st pend (frT [(5, v5), (11, v11)] .nil) 60 [37] YA8_21 YB8_21
noncomputable def Y8_21 (self : EV) (N : Nat) (l : Nat) ( v5 v11 : V) ( w37 : V) (S : St) : Rs := roundK E0 self N DA8_21 DB8_21 l (frT [(5, v5), (11, v11)] .nil) 60 [37] [w37] S
noncomputable def L8_25 (self : EV) (N : Nat) (nk : Ac → St → Rs) (ek : Nat → Ac → St → Rs) (n : Nat) (l : Nat) ( v5 v11 v12 v13 : V) (S : St) : Rs := qci [5, 11, 12, 13] (dr E0 self [] N (DB8_21.l.r.l.l)) (mkKR l nk ek) n (frR 60 [(5, v5), (11, v11), (12, v12), (13, v13)] l) S
theorem L8_25_eq (self : EV) (N : Nat) (nk : Ac → St → Rs) (ek : Nat → Ac → St → Rs) (n : Nat) (l : Nat) ( v5 v11 v12 v13 : V) (S : St) : L8_25 self N nk ek (n + 1) l v5 v11 v12 v13 S =
(qad E0 .add 3 false true v13 (.int .i64 32)).bind fun t27 =>
(qcz v12 S).bind fun p29 =>
(qad E0 .leq 3 false false t27 p29.1).bind fun t30 =>
(qa2 true t30).bind fun g32 => (bif g32 then ld1 v5 p29.2 else some (.tuple [], p29.2)).bind fun p32 =>
(qa2 true t30).bind fun g33 => (bif g33 then lnMap p32.1 p32.2 else some (.tuple [], p32.2)).bind fun p33 =>
(qa2 true t30).bind fun g34 => (bif g34 then qad E0 .gtr 3 false true p33.1 (.int .i64 0) else some (.tuple [])).bind fun t34 =>
(qah t30 (some t34) (some (.bool false))).bind fun t35 =>
ifK t35 (
(ld1 v11 (onS p33.2)).bind fun p36 =>
(qad E0 .add 3 false true v13 (.int .i64 32)).bind fun t40 =>
(qb4 E0 9 v12 (some v13) (some t40) none (onS p36.2)).bind fun p41 =>
callDR (frR 60 [(5, v5), (11, v11), (12, v12), (13, v13), (38, v13), (39, t27), (40, v12), (41, p29.1), (42, t30), (43, t30), (44, p32.1), (45, p33.1), (46, t34), (47, t35), (50, p36.1), (51, v12), (52, v13), (53, v13), (54, t40), (55, p41.1)] l) (qap E0 (DB8_21.l.r.l.l.r.l.l).ops) p33.2 6 [p36.2.log, [], [], [], [], p41.2.log] (qfp E0 self p36.1 [p41.1] (onS p41.2)) fun t42 S42 =>
endP [(0, [5])] p33.2 [p36.2.log, [], [], [], [], p41.2.log, S42.log] S42 fun S43 =>
(qad E0 .add 3 false true v13 (.int .i64 1)).bind fun t45 =>
L8_25 self N nk ek n l v5 v11 v12 t45 S43) (
ek 4 (frR 60 [] l) p33.2) := by kernel_rfl
theorem Y8_21_eq (self : EV) (N : Nat) (l : Nat) ( v5 v11 : V) ( w37 : V) (S : St) : Y8_21 self N l v5 v11 w37 S =
midR l (frR 60 [(5, v5), (11, v11), (12, w37), (37, w37)] l) S fun S22 =>
L8_25 self N (qj0 l 0 none true) (exB 4 (qj0 l 0 none true) (exB 3 (qj0 l 0 none true) (fun i => qj0 l 1 (some (.exit i)) false))) N l v5 v11 w37 (.int .i64 0) S22 := by kernel_rfl
theorem R8_9_eq (self : EV) (N : Nat) (nk : Ac → St → Rs) (ek : Nat → Ac → St → Rs) (ds : List AD) ( v2 v4 v5 : V) (S : St) : R8_9 self N nk ek (frD 60 [(2, v2), (4, v4), (5, v5)] ds) S =
(some (nwP 25 1 (Go.Proofs.Ytmeohejdafbodaa.Ev.one .nilslice) S)).bind fun p10 =>
(some (nwP 41 1 (Go.Proofs.Ytmeohejdafbodaa.Ev.one .nilfn) p10.2)).bind fun p12 =>
(stP 1 p12.1 (.fn (.func 15) [] [v5, p10.1]) p12.2).bind fun p13 =>
(ldA 5 v2 p13.2).bind fun p19 =>
callPF E0 self Try.f8 (frD 60 [(2, v2), (4, v4), (5, v5), (10, p10.1), (11, p12.1), (34, (.fn (.func 15) [] [v5, p10.1])), (35, p19.1)] ds) (self.f 16 [p19.1] p19.2) fun t20 S20 =>
rangeP E0 self t20 (qer 0 none v5 p12.1) S20 (fun S47 =>
R8_14 self N (fun a s => qb9 [4] a fun a => nk a s) ek (frD 60 [(10, p10.1)] (mkR S20.next :: ds)) S47) (fun s => finR E0 self Try.f8 (frD 60 [(2, v2), (4, v4), (5, v5), (10, p10.1), (11, p12.1), (34, (.fn (.func 15) [] [v5, p10.1])), (35, p19.1), (36, t20)] (mkR S20.next :: ds)) s) (fun i s => (exB 2 (R8_14 self N (fun a s => qb9 [4] a fun a => nk a s) ek) ek) i (frD 60 [(2, v2), (4, v4), (5, v5), (10, p10.1), (11, p12.1), (34, (.fn (.func 15) [] [v5, p10.1])), (35, p19.1), (36, t20)] (mkR S20.next :: ds)) s) (fun v s => qbd E0 self Try.f8 (frD 60 [(2, v2), (4, v4), (5, v5), (10, p10.1), (11, p12.1), (34, (.fn (.func 15) [] [v5, p10.1])), (35, p19.1), (36, t20)] (mkR S20.next :: ds)) (mkR S20.next :: ds) (.pan v) s) := by kernel_rfl
noncomputable def L8_51 (self : EV) (N : Nat) (nk : Ac → St → Rs) (ek : Nat → Ac → St → Rs) (n : Nat) (ds : List AD) ( v2 v4 v5 v18 v19 v20 : V) (S : St) : Rs := qci [2, 4, 5, 18, 19, 20] (dr E0 self RL8 N (B8.r.r.r.l.r.l.l)) (mkK E0 self Try.f8 nk ek) n (frD 60 [(2, v2), (4, v4), (5, v5), (18, v18), (19, v19), (20, v20)] ds) S
theorem L8_51_eq (self : EV) (N : Nat) (nk : Ac → St → Rs) (ek : Nat → Ac → St → Rs) (n : Nat) (ds : List AD) ( v2 v4 v5 v18 v19 v20 : V) (S : St) : L8_51 self N nk ek (n + 1) ds v2 v4 v5 v18 v19 v20 S =
(qad E0 .lss 3 false false v20 v19).bind fun t52 =>
ifK t52 (
(ixP 1 v18 v20).bind fun t53 =>
(ld1 t53 S).bind fun p54 =>
callPF E0 self Try.f8 (frD 60 [(2, v2), (4, v4), (5, v5), (7, p54.1), (18, v18), (19, v19), (20, v20), (21, t52), (22, t53), (23, p54.1), (25, p54.1)] ds) (self.f 14 [p54.1, (sv [120])] p54.2) fun t57 S57 =>
(qa9 t57 0).bind fun t59 =>
(qa9 t57 1).bind fun t60 =>
(qad E0 .eql 32 false true t60 (.int .i64 0)).bind fun t64 =>
ifK t64 (
(ld1 v5 S57).bind fun p65 =>
(vu (qbn E0 31 p65.1 p54.1 (.int .i64 1) p65.2)).bind fun p67 =>
(qad E0 .add 3 false true v20 (.int .i64 1)).bind fun t68 =>
L8_51 self N nk ek n ds v2 v4 v5 v18 v19 t68 p67.2) (
(qad E0 .add 3 false true v20 (.int .i64 1)).bind fun t70 =>
L8_51 self N nk ek n ds v2 v4 v5 v18 v19 t70 S57)) (
ek 0 (frD 60 [(2, v2), (4, v4), (5, v5)] ds) S) := by kernel_rfl
noncomputable def F8 (self : EV) (N : Nat) (x0 x1 : V) (S : St) : Rs := qc0 E0 self N Try.f8 B8 [x0, x1] S
theorem F8_eq (self : EV) (N : Nat) (x0 x1 : V) (S : St) : F8 self N x0 x1 S =
(qlv 24 x0 S).bind fun p0 =>
(ldA 5 p0.1 p0.2).bind fun p2 =>
callPF E0 self Try.f8 (frD 60 [(0, x0), (1, x1), (2, p0.1), (4, .nilslice), (14, p2.1)] []) (self.f 11 [p2.1] p2.2) fun t3 S3 =>
(qad E0 .neq 32 false true t3 (.int .i64 0)).bind fun t4 =>
ifK t4 (
finR E0 self Try.f8 (frD 60 [(0, x0), (1, x1), (2, p0.1), (4, .nilslice), (14, p2.1), (15, t3), (16, t4)] []) S3) (
(qhg E0 31 none S3).bind fun p6 =>
(some (nwP 31 1 (Go.Proofs.Ytmeohejdafbodaa.Ev.one .nilmap) p6.2)).bind fun p7 =>
(stP 1 p7.1 p6.1 p7.2).bind fun p8 =>
(lnS x1 p8.2).bind fun p49 =>
L8_51 self N (R8_9 self N (qay E0 self Try.f8) qae) (exB 0 (R8_9 self N (qay E0 self Try.f8) qae) qae) N [] p0.1 .nilslice p7.1 x1 p49.1 (.int .i64 0) p49.2) := by kernel_rfl
noncomputable def C15 : Code := Try.f15.body.getD .skip
noncomputable def B15 : D := (qaw C15 [[], []]).1
noncomputable def F15 (self : EV) (N : Nat) (x0 x1 x2 : V) (S : St) : Rs := qc0 E0 self N Try.f15 B15 [x0, x1, x2] S
theorem F15_eq (self : EV) (N : Nat) (x0 x1 x2 : V) (S : St) : F15 self N x0 x1 x2 S =
(ld1 x1 S).bind fun p0 =>
(qcu E0 31 p0.1 x0 false p0.2).bind fun p2 =>
(qad E0 .gtr 3 false true p2.1 (.int .i64 0)).bind fun t3 =>
ifK t3 (
(ld1 x2 p2.2).bind fun p4 =>
(bsP 9 1 1 (Go.Proofs.Ytmeohejdafbodaa.Ev.one (sv [])) [(0, x0)] p4.2).bind fun p6 =>
(apP 9 1 16 p4.1 p6.1 p6.2).bind fun p7 =>
(stP 1 x2 p7.1 p7.2).bind fun p8 =>
(ld1 x1 p8.2).bind fun p9 =>
(vu (qdf E0 31 p9.1 x0 p9.2)).bind fun p11 =>
some (.ret (.tuple []), p11.2)) (
some (.ret (.tuple []), p2.2)) := by kernel_rfl
noncomputable def C16 : Code := Try.f16.body.getD .skip
noncomputable def B16 : D := (qaw C16 [[], []]).1
noncomputable def F16 (self : EV) (N : Nat) (x0 : V) (S : St) : Rs := qc0 E0 self N Try.f16 B16 [x0] S
theorem F16_eq (self : EV) (N : Nat) (x0 : V) (S : St) : F16 self N x0 S =
(qlv 24 x0 S).bind fun p0 =>
some (.ret (.fn (.func 32) [] [p0.1]), p0.2) := by kernel_rfl
noncomputable def C32 : Code := Try.f32.body.getD .skip
noncomputable def B32 : D := (qaw C32 []).1
noncomputable def F32 (self : EV) (N : Nat) (x0 x1 : V) (S : St) : Rs := qc0 E0 self N Try.f32 B32 [x0, x1] S
theorem F32_eq (self : EV) (N : Nat) (x0 x1 : V) (S : St) : F32 self N x0 x1 S =
(ldA 5 x1 S).bind fun p0 =>
qb6 (self.f 33 [p0.1, x0] p0.2) fun t2 S2 =>
some (.ret (.tuple []), S2) := by kernel_rfl
noncomputable def C33 : Code := Try.f33.body.getD .skip
noncomputable def B33 : D := (qaw C33 [[], [], [], [], [], [1, 13, 14, 15], [], [], [], [], [], [], [], [0], [4], []]).1
noncomputable def RL33 : List Nat := cellsOf Try.f33.results.toList
noncomputable def R33_8 (self : EV) (N : Nat) (nk : Ac → St → Rs) (ek : Nat → Ac → St → Rs) (a : Ac) (S : St) : Rs := qb9 [] a fun a => dr E0 self RL33 N (B33.r.r).r (mkK E0 self Try.f33 nk ek) a S
theorem R33_8_eq (self : EV) (N : Nat) (nk : Ac → St → Rs) (ek : Nat → Ac → St → Rs) (S : St) : R33_8 self N nk ek (fr 24 []) S =
some (.ret (.bool true), S) := by kernel_rfl
noncomputable def L33_14 (self : EV) (N : Nat) (nk : Ac → St → Rs) (ek : Nat → Ac → St → Rs) (n : Nat) ( v1 v13 v14 v15 : V) (S : St) : Rs := qci [1, 13, 14, 15] (dr E0 self RL33 N (B33.r.r.l.r.l.l)) (mkK E0 self Try.f33 nk ek) n (fr 24 [(1, v1), (13, v13), (14, v14), (15, v15)]) S
theorem L33_14_eq (self : EV) (N : Nat) (nk : Ac → St → Rs) (ek : Nat → Ac → St → Rs) (n : Nat) ( v1 v13 v14 v15 : V) (S : St) : L33_14 self N nk ek (n + 1) v1 v13 v14 v15 S =
(qad E0 .lss 3 false false v15 v14).bind fun t15 =>
ifK t15 (
(ixP 5 v13 v15).bind fun t16 =>
(ldA 5 t16 S).bind fun p17 =>
(some (nwP 24 5 (Tr.ofListFrom .nil [(sv []), (.int .i64 0), (.bool false), (sv []), .nilslice] 0) p17.2)).bind fun p18 =>
(stP 5 p18.1 p17.1 p18.2).bind fun p19 =>
(ldA 5 p18.1 p19.2).bind fun p20 =>
qb6 (self.f 33 [p20.1, v1] p20.2) fun t22 S22 =>
(unV .not t22).bind fun t23 =>
ifK t23 (
some (.ret (.bool false), S22)) (
(qad E0 .add 3 false true v15 (.int .i64 1)).bind fun t25 =>
L33_14 self N nk ek n v1 v13 v14 t25 S22)) (
ek 0 (fr 24 []) S) := by kernel_rfl
noncomputable def F33 (self : EV) (N : Nat) (x0 x1 : V) (S : St) : Rs := qc0 E0 self N Try.f33 B33 [x0, x1] S
theorem F33_eq (self : EV) (N : Nat) (x0 x1 : V) (S : St) : F33 self N x0 x1 S =
(qlv 24 x0 S).bind fun p0 =>
(faP 3 false 1 p0.1).bind fun t3 =>
(ld1 t3 p0.2).bind fun p4 =>
qb6 (qfp E0 self x1 [p4.1] p4.2) fun t5 S5 =>
(unV .not t5).bind fun t6 =>
ifK t6 (
some (.ret (.bool false), S5)) (
(faP 4 false 1 p0.1).bind fun t10 =>
(ld1 t10 S5).bind fun p11 =>
(lnS p11.1 p11.2).bind fun p12 =>
L33_14 self N (R33_8 self N (qay E0 self Try.f33) qae) (exB 0 (R33_8 self N (qay E0 self Try.f33) qae) qae) N x1 p11.1 p12.1 (.int .i64 0) p12.2) := by kernel_rfl
end
noncomputable section
noncomputable def C3 : Code := Try.f3.body.getD .skip
noncomputable def B3 : D := (qaw C3 [[], [], [], []]).1
noncomputable def F3 (self : EV) (N : Nat) (x0 x1 : V) (S : St) : Rs := qc0 E0 self N Try.f3 B3 [x0, x1] S
theorem F3_eq (self : EV) (N : Nat) (x0 x1 : V) (S : St) : F3 self N x0 x1 S =
(qlv 24 x0 S).bind fun p0 =>
(ldA 5 p0.1 p0.2).bind fun p2 =>
qb6 (self.f 6 [p2.1, (.int .i64 14)] p2.2) fun t3 S3 =>
(stP 5 p0.1 t3 S3).bind fun p4 =>
(lnS x1 p4.2).bind fun p7 =>
(qjv minV p7.1 [(.int .i64 20)] p7.2).bind fun p8 =>
(qb4 E0 25 x1 none (some p8.1) none p8.2).bind fun p9 =>
(ldA 5 p0.1 (onS p9.2)).bind fun p11 =>
qiu (qap E0 (B3.r.r.r.l).ops) p9.2 2 [p11.2.log, []] (self.f 8 [p11.1, p9.1] (onS p11.2)) fun t13 S13 =>
(ldA 5 p0.1 (onS S13)).bind fun p14 =>
qiu (qap E0 (B3.r.r.r.l).ops) p9.2 5 [p11.2.log, [], S13.log, p14.2.log, []] (self.f 9 [p14.1, p9.1] (onS p14.2)) fun t16 S16 =>
qiu (qap E0 (B3.r.r.r.l).ops) p9.2 6 [p11.2.log, [], S13.log, p14.2.log, [], S16.log] (self.f 7 [t13, t16] (onS S16)) fun t17 S17 =>
(qa2 true t17).bind fun g19 => qiu (qap E0 (B3.r.r.r.l).ops) p9.2 8 [p11.2.log, [], S13.log, p14.2.log, [], S16.log, S17.log, []] (bif g19 then self.f 10 [] (onS S17) else some (.ret (.tuple []), (onS S17))) fun t19 S19 =>
(qah t17 (some t19) (some (.bool false))).bind fun t20 =>
endP [(0, [3]), (2, [3])] p9.2 [p11.2.log, [], S13.log, p14.2.log, [], S16.log, S17.log, [], S19.log, [], []] (onS S19) fun S22 =>
some (.ret t20, S22) := by kernel_rfl
end
end Go.Proofs.Ytmeohejdafbodaa.W
namespace Go.Proofs.Ytmeohejdafbodaa.W
open Go.Proofs.Ytmeohejdafbodaa.Ev
theorem qlj : EnvOk Try.prog E0 := envOf_ok (by kernel_rfl) (by kernel_rfl) (by kernel_rfl) (fun p hp => by
 simp only [List.mem_cons, List.not_mem_nil, or_false] at hp
 rcases hp with rfl | rfl
 · exact ⟨fun h => absurd h (by decide), fun h => absurd h (by decide), fun h => absurd h (by decide), fun _ args w => by kernel_rfl, fun h => absurd h (by decide)⟩
 · exact ⟨fun _ args w => by kernel_rfl, fun h => absurd h (by decide), fun h => absurd h (by decide), fun h => absurd h (by decide), fun h => absurd h (by decide)⟩
 ) (by kernel_rfl) (by kernel_rfl) (by kernel_rfl)
inductive Nd where
 | mk (name : List UInt8) (kind : Int) (exec : Bool) (data : List UInt8) (kids : List Nd)
def Nd.name : Nd → List UInt8 | .mk n _ _ _ _ => n
def Nd.kind : Nd → Int | .mk _ k _ _ _ => k
def Nd.exec : Nd → Bool | .mk _ _ e _ _ => e
def Nd.data : Nd → List UInt8 | .mk _ _ _ d _ => d
def Nd.kids : Nd → List Nd | .mk _ _ _ _ l => l
def qg9 : List V → V
 | [] => .nilslice
 | x :: l => .list 5 (x :: l)
mutual
noncomputable def qce : Nd → V
 | .mk n k e d l => vAgg [sv n, .int .i64 k, .bool e, sv d, qg9 (qhv l)]
noncomputable def qhv : List Nd → List V
 | [] => []
 | x :: l => qce x :: qhv l
end
noncomputable def qfc (x : Nd) : List V := [sv x.name, .int .i64 x.kind, .bool x.exec, sv x.data, qg9 (qhv x.kids)]
theorem qdo (x : Nd) : qce x = vAgg (qfc x) := by cases x; simp only [qce, qfc, Nd.name, Nd.kind, Nd.exec, Nd.data, Nd.kids]
theorem ql2 : ∀ l : List Nd, qhv l = l.map qce
 | [] => rfl
 | x :: l => by rw [qhv, ql2 l]; rfl
theorem qm6 (l : List Nd) : (qhv l).length = l.length := by rw [ql2, List.length_map]
mutual
def qc6 : Nd → Nat
 | .mk _ _ _ _ l => 1 + cntL l
def cntL : List Nd → Nat
 | [] => 0
 | x :: l => qc6 x + cntL l
end
mutual
def Nd.ok : Nd → Prop
 | .mk n k _ d l => n.length < 9223372036854775808 ∧ (-9223372036854775808 ≤ k ∧ k < 9223372036854775808) ∧ d.length ≤ 3000 ∧ l.length ≤ 3000 ∧ 1 + cntL l < 4611686018427387904 ∧ okL l
def okL : List Nd → Prop
 | [] => True
 | x :: l => x.ok ∧ okL l
end
theorem okL_iff : ∀ l : List Nd, okL l ↔ ∀ x ∈ l, x.ok
 | [] => by simp [okL]
 | x :: l => by simp [okL, okL_iff l]
structure NdOk (x : Nd) : Prop where
 name : x.name.length < 9223372036854775808
 kind : -9223372036854775808 ≤ x.kind ∧ x.kind < 9223372036854775808
 data : x.data.length ≤ 3000
 few : x.kids.length ≤ 3000
 cnt : 1 + cntL x.kids < 4611686018427387904
 kids : ∀ y ∈ x.kids, y.ok
theorem Nd.ok.at {x : Nd} (h : x.ok) : NdOk x := by
 cases x with
 | mk n k e d l =>
  rw [Nd.ok] at h
  obtain ⟨h1, h2, h3, h4, hc, h5⟩ := h
  exact ⟨h1, h2, h3, h4, hc, (okL_iff l).1 h5⟩
theorem vAgg_inj {l m : List V} (h : vAgg l = vAgg m) : l = m := by
 unfold vAgg at h
 simp only [V.agg.injEq] at h
 refine List.ext_getElem? fun i => ?_
 rw [← qjq l i, ← qjq m i, h.2]
theorem kidsV_inj : ∀ {l m : List V}, qg9 l = qg9 m → l = m
 | [], [], _ => rfl
 | [], _ :: _, h => by simp [qg9] at h
 | _ :: _, [], h => by simp [qg9] at h
 | _ :: _, _ :: _, h => by simpa [qg9] using h
mutual
theorem encN_inj : ∀ {x y : Nd}, qce x = qce y → x = y
 | .mk n k e d l, .mk n' k' e' d' l', h => by
  rw [qce, qce] at h
  have h := vAgg_inj h
  simp only [List.cons.injEq, V.int.injEq, V.bool.injEq, true_and, and_true] at h
  obtain ⟨h1, h2, h3, h4, h5⟩ := h
  rw [qnn h1, h2, h3, qnn h4, encL_inj (kidsV_inj h5)]
theorem encL_inj : ∀ {l m : List Nd}, qhv l = qhv m → l = m
 | [], [], _ => rfl
 | [], _ :: _, h => by simp [qhv] at h
 | _ :: _, [], h => by simp [qhv] at h
 | x :: l, y :: m, h => by
  simp only [qhv, List.cons.injEq] at h
  rw [encN_inj h.1, encL_inj h.2]
end
section
variable {s : St}
structure NodeAt (s : St) (b : Nat) (x : Nd) : Prop where
 on : s.on = false
 bx : Bx s b 24 (qfc x)
theorem big5 : 5 < big := by unfold big; decide
variable {b : Nat} {x : Nd}
theorem NodeAt.f0 (h : NodeAt s b x) : ld1 (.ptr b 0) s = some (sv x.name, s) := Bx.ld1 h.on h.bx 0 (by show 0 < 5; decide) big5
theorem NodeAt.f1 (h : NodeAt s b x) : ld1 (.ptr b 1) s = some (.int .i64 x.kind, s) := Bx.ld1 h.on h.bx 1 (by show 1 < 5; decide) big5
theorem NodeAt.f2 (h : NodeAt s b x) : ld1 (.ptr b 2) s = some (.bool x.exec, s) := Bx.ld1 h.on h.bx 2 (by show 2 < 5; decide) big5
theorem NodeAt.f3 (h : NodeAt s b x) : ld1 (.ptr b 3) s = some (sv x.data, s) := Bx.ld1 h.on h.bx 3 (by show 3 < 5; decide) big5
theorem NodeAt.f4 (h : NodeAt s b x) : ld1 (.ptr b 4) s = some (qg9 (qhv x.kids), s) := Bx.ld1 h.on h.bx 4 (by show 4 < 5; decide) big5
theorem NodeAt.fA (h : NodeAt s b x) : ldA 5 (.ptr b 0) s = some (qce x, s) := by rw [qdo]; exact Bx.ldA h.on h.bx rfl big5
theorem NodeAt.o0 (h : NodeAt s b x) : ld1 (.ptr b 0) (onS s) = some (sv x.name, rd s b 0 1) := Bx.ld1On h.on h.bx 0 (by show 0 < 5; decide) big5
theorem NodeAt.o1 (h : NodeAt s b x) : ld1 (.ptr b 1) (onS s) = some (.int .i64 x.kind, rd s b 1 1) := Bx.ld1On h.on h.bx 1 (by show 1 < 5; decide) big5
theorem NodeAt.o2 (h : NodeAt s b x) : ld1 (.ptr b 2) (onS s) = some (.bool x.exec, rd s b 2 1) := Bx.ld1On h.on h.bx 2 (by show 2 < 5; decide) big5
theorem NodeAt.o3 (h : NodeAt s b x) : ld1 (.ptr b 3) (onS s) = some (sv x.data, rd s b 3 1) := Bx.ld1On h.on h.bx 3 (by show 3 < 5; decide) big5
theorem NodeAt.o4 (h : NodeAt s b x) : ld1 (.ptr b 4) (onS s) = some (qg9 (qhv x.kids), rd s b 4 1) := Bx.ld1On h.on h.bx 4 (by show 4 < 5; decide) big5
theorem NodeAt.oA (h : NodeAt s b x) : ldA 5 (.ptr b 0) (onS s) = some (qce x, rd s b 0 5) := by rw [qdo]; exact Bx.ldAOn h.bx rfl big5
theorem NodeAt.grew {W : Nat → Prop} {t : St} (h : NodeAt s b x) (hb : b < s.next) (hw : ¬ W b) (g : Grew W s t) : NodeAt t b x := ⟨g.on.trans h.on, h.bx.grew hb hw g⟩
theorem qbq (ho : s.on = false) (x : Nd) : ∃ t, qlv 24 (qce x) s = some (.ptr s.next 0, t) ∧ NodeAt t s.next x ∧ Grew (fun _ => False) s t ∧ t.next = s.next + 1 := by
 obtain ⟨t, h1, h2, h3, h4⟩ := box_new ho 24 (qfc x)
 rw [qdo]
 exact ⟨t, h1, ⟨h3.on.trans ho, h2⟩, h3, h4⟩
theorem ql9 (ho : s.on = false) (z : Tr V) (x : Nd) : ∃ t, stP 5 (.ptr s.next 0) (qce x) (nwP 24 5 z s).2 = some (.tuple [], t) ∧ NodeAt t s.next x ∧ Grew (fun _ => False) s t ∧ t.next = s.next + 1 := by
 obtain ⟨t, h1, h2, h3, h4⟩ := var_new ho 24 5 z (qfc x) rfl (by decide) big5
 rw [qdo]
 exact ⟨t, h1, ⟨h3.on.trans ho, h2⟩, h3, h4⟩
theorem qc2 (l : List Nd) : lnS (qg9 (qhv l)) s = some (.int .i64 (l.length : Int), s) := by
 cases l with
 | nil => rfl
 | cons x l =>
  show some (V.int .i64 (.ofNat ((qce x :: qhv l).length)), s) = _
  rw [List.length_cons, qm6]; rfl
theorem qd6 (l : List Nd) (i : Nat) (h : i < l.length) : ixP 5 (qg9 (qhv l)) (.int .i64 (i : Int)) = some (.cptr (qce l[i])) := by
 cases l with
 | nil => simp at h
 | cons x l =>
  show ixP 5 (.list 5 (qhv (x :: l))) _ = _
  rw [ixP_list 5 (qhv (x :: l)) .i64 i (by rw [qm6]; exact h) (by decide)]
  congr 2
  simp only [ql2, List.getElem_map]
theorem qgo (x : Nd) : ldA 5 (.cptr (qce x)) s = some (qce x, s) := by rw [qdo]; exact ldA_cptr (qfc x)
theorem faP_kid (x : Nd) : faP 0 false 1 (.cptr (qce x)) = some (.cptr (sv x.name)) := by rw [qdo]; exact faP_cptr (qfc x) 0 (by show 0 < 5; decide)
theorem ld1_csv (l : List UInt8) : ld1 (.cptr (sv l)) s = some (sv l, s) := rfl
end
def qcp : Nat → Nd → Nat
 | 0, _ => 1
 | m + 1, x => if x.kind ≠ 2 ∨ m = 0 then 1 else x.kids.foldl (fun d y => max d (1 + qcp m y)) 1
theorem qki {α : Type} (f : α → Nat) (B : Nat) : ∀ (l : List α) (d : Nat), d ≤ B → (∀ y ∈ l, 1 + f y ≤ B) → l.foldl (fun d y => max d (1 + f y)) d ≤ B
 | [], d, h, _ => h
 | y :: l, d, h, hl => qki f B l _ (Nat.max_le.2 ⟨h, hl y (List.mem_cons_self ..)⟩) fun z hz => hl z (List.mem_cons_of_mem _ hz)
theorem deepN_le : ∀ (m : Nat) (x : Nd), qcp m x ≤ m + 1
 | 0, x => by simp [qcp]
 | m + 1, x => by
  rw [qcp]
  split
  · omega
  · exact qki _ _ _ _ (by omega) fun y _ => by have := deepN_le m y; omega
structure DeepIn where
 m : Nat
 x : Nd
 h1 : 1 ≤ m
 h2 : m ≤ 14
 ok : x.ok
noncomputable def qm5 (p : DeepIn) : List V := [qce p.x, .int .i64 (p.m : Int)]
theorem qi9 {p q : DeepIn} (h : qm5 p = qm5 q) : p.m = q.m ∧ p.x = q.x := by
 simp only [qm5, List.cons.injEq, V.int.injEq, true_and, and_true] at h
 exact ⟨by omega, encN_inj h.1⟩
noncomputable def qn1 (p : DeepIn) : En := .ret (.int .i64 (qcp p.m p.x : Int))
noncomputable def kfDeep : KF := qcs qm5 qn1
theorem kfDeep_run (m : Nat) (x : Nd) (h1 : 1 ≤ m) (h2 : m ≤ 14) (ok : x.ok) (S : St) : kfDeep.run [qce x, .int .i64 (m : Int)] S = some (.ret (.int .i64 (qcp m x : Int)), S) :=
 qcc (enc := qm5) (out := qn1) (fun p q h => by obtain ⟨h1, h2⟩ := qi9 h; unfold qn1; rw [h1, h2]) ⟨m, x, h1, h2, ok⟩ S
theorem L70_spec (self : EV) (N : Nat) (nk : Ac → St → Rs) (ek : Nat → Ac → St → Rs) (all : List Nd) (hall : all.length ≤ 3000) (m : Nat) (hm : m ≤ 14)
 (hself : ∀ x ∈ all, ∀ s, self.f 75 [qce x, .int .i64 (m : Int)] s = some (.ret (.int .i64 (qcp m x : Int)), s)) :
 ∀ (r : List Nd) (i d n : Nat) (S : St), all.drop i = r → r.length < n → S.on = false → d ≤ 100 →
 ∃ S', L75_19 self N nk ek n (.int .i64 ((m + 1 : Nat) : Int)) (.int .i64 (d : Int)) (qg9 (qhv all)) (.int .i64 (all.length : Int)) (.int .i64 (i : Int)) S = ek 0 (fr 32 [(5, .int .i64 ((r.foldl (fun d y => max d (1 + qcp m y)) d : Nat) : Int))]) S' ∧ Grew (fun _ => False) S S'
 | r, i, d, 0, S, _, hn, _, _ => by omega
 | [], i, d, n + 1, S, hi, hn, ho, hd => by
  rw [L75_19_eq, binV_ii, intsV_lss]
  have : all.length ≤ i := List.drop_eq_nil_iff.1 hi
  rw [show decide ((i : Int) < (all.length : Int)) = false by simp; omega]
  exact ⟨S, rfl, Grew.refl _ _⟩
 | x :: r, i, d, n + 1, S, hi, hn, ho, hd => by
  have hlt : i < all.length := by
   rcases Nat.lt_or_ge i all.length with h | h
   · exact h
   · rw [List.drop_eq_nil_of_le h] at hi; cases hi
  rw [List.drop_eq_getElem_cons hlt] at hi
  simp only [List.cons.injEq] at hi
  obtain ⟨hx, hr⟩ := hi
  rw [L75_19_eq, binV_ii, intsV_lss, show decide ((i : Int) < (all.length : Int)) = true by simp; omega]
  simp only [oB, ifK_bool, cond_true]
  rw [qd6 all i hlt, hx]
  simp only [oB, qgo, qii]
  obtain ⟨S1, k1, k2, k3, k4⟩ := ql9 ho (Tr.ofListFrom .nil [(sv []), (.int .i64 0), (.bool false), (sv []), .nilslice] 0) x
  rw [k1]
  simp only [oB, k2.fA, binV_ii, intsV_sub]
  rw [show ((m + 1 : Nat) : Int) - 1 = (m : Int) by omega, qc5 (by omega) (by omega)]
  rw [hself x (hx ▸ List.getElem_mem hlt)]
  have hb := deepN_le m x
  simp only [callP_ret, binV_ii, intsV_add, oB]
  rw [show (1 : Int) + (qcp m x : Int) = ((1 + qcp m x : Nat) : Int) by omega, qc5 (by omega) (by omega)]
  rw [foldK_max, show max (d : Int) ((1 + qcp m x : Nat) : Int) = ((max d (1 + qcp m x) : Nat) : Int) by omega]
  simp only [oB]
  rw [show (i : Int) + 1 = ((i + 1 : Nat) : Int) by omega, qc5 (by omega) (by omega)]
  obtain ⟨S', h1, h2⟩ := L70_spec self N nk ek all hall m hm hself r (i + 1) (max d (1 + qcp m x)) n S1 hr (by simp at hn; omega) k2.on (by omega)
  exact ⟨S', by rw [h1]; rfl, k3.trans h2⟩
theorem F70_spec (self : EV) (x : Nd) (ok : x.ok) (m : Nat) (hm : m + 1 ≤ 14) (hself : ∀ y ∈ x.kids, ∀ s, 1 ≤ m → self.f 75 [qce y, .int .i64 (m : Int)] s = some (.ret (.int .i64 (qcp m y : Int)), s)) (S : St) (ho : S.on = false) :
 ∃ S', F75 self qa1 (qce x) (.int .i64 ((m + 1 : Nat) : Int)) S = some (.ret (.int .i64 (qcp (m + 1) x : Int)), S') ∧ Grew (fun _ => False) S S' := by
 obtain ⟨S1, k1, k2, k3, k4⟩ := qbq ho x
 have hok := ok.at
 rw [F75_eq, k1]
 simp only [oB, faP_ptr, Nat.zero_add, k2.f1, binV_ii, intsV_neq]
 rw [qcp]
 by_cases hk : x.kind = 2
 · rw [hk]
   simp only [ne_eq, not_true_eq_false, decide_true, decide_false, oB, qa8, qaj, qaq, Bool.not_true, Bool.not_false, cond_true, binV_ii, intsV_eql, qah, cond_false, false_or]
   by_cases hm0 : m = 0
   · subst hm0
     exact ⟨S1, rfl, k3⟩
   · rw [show decide (((m + 1 : Nat) : Int) = 1) = false by simp; omega, if_neg hm0]
     simp only [ifK_bool, cond_false, k2.f4, oB, qc2]
     obtain ⟨S', h1, h2⟩ := L70_spec self qa1 (R75_12 self qa1 (qay E0 self Try.f75) qae) (exB 0 (R75_12 self qa1 (qay E0 self Try.f75) qae) qae) x.kids hok.few m (by omega) (fun y hy s => hself y hy s (by omega)) x.kids 0 1 qa1 S1 rfl (by have := hok.few; unfold qa1; omega) k2.on (by omega)
     refine ⟨S', ?_, k3.trans h2⟩
     rw [show ((0 : Nat) : Int) = 0 from rfl, show ((1 : Nat) : Int) = 1 from rfl] at h1
     rw [h1, exB_same, R75_12_eq]
 · simp only [ne_eq, hk, not_false_eq_true, decide_true, decide_false, Bool.not_false, oB, qa8, qaj, qaq, Bool.not_true, cond_false, qah, cond_true, ifK_bool, true_or, if_true]
   exact ⟨S1, rfl, k3⟩
theorem kn70 {K : FuncId → Option KF} (hK : KnOk Try.prog E0 K) : KnWell Try.prog E0 75 kfDeep :=
 qhm (fn := Try.f75) (c := C75) (d := B75) (fun p : DeepIn => p.m) (fun p q h => by obtain ⟨h1, h2⟩ := qi9 h; unfold qn1; rw [h1, h2]; exact ⟨rfl, rfl⟩) qlj hK (by kernel_rfl) (by kernel_rfl) (qa3 C75 _ (by kernel_rfl)) fun K' _ p s hself ho => by
  obtain ⟨m, hm⟩ : ∃ m, p.m = m + 1 := ⟨p.m - 1, by have := p.h1; omega⟩
  obtain ⟨S', h1, h2⟩ := F70_spec (ev E0 K' 1) p.x p.ok m (by have := p.h2; omega) (fun y hy s h1m => hself ⟨m, y, h1m, by have := p.h2; omega, p.ok.at.kids y hy⟩ s 0 (by show m < p.m; omega)) s ho
  rw [← hm] at h1
  exact ⟨1, .ret (.int .i64 (qcp p.m p.x : Int)), S', h1, h2, Fz.same (.int _ _)⟩
theorem L57_spec (self : EV) (N : Nat) (nk : Ac → St → Rs) (ek : Nat → Ac → St → Rs) (x : Nd) (b : Nat) (hall : x.kids.length ≤ 3000) (m : Nat) (hm : m ≤ 14)
 (hself : ∀ y ∈ x.kids, ∀ s, self.f 73 [qce y, .int .i64 (m : Int)] s = some (.ret (.int .i64 (qcp m y : Int)), s)) (S : St) (hx : NodeAt S b x) :
 ∀ (r : List Nd) (i d n : Nat), x.kids.drop i = r → r.length < n → d ≤ 100 →
 L73_15 self N nk ek n (.int .i64 ((m + 1 : Nat) : Int)) (.ptr b 0) (.int .i64 (d : Int)) (.int .i64 (i : Int)) S = ek 0 (fr 33 [(5, .int .i64 ((r.foldl (fun d y => max d (1 + qcp m y)) d : Nat) : Int))]) S
 | r, i, d, 0, _, hn, _ => by omega
 | [], i, d, n + 1, hi, hn, hd => by
  have : x.kids.length ≤ i := List.drop_eq_nil_iff.1 hi
  rw [L73_15_eq]
  simp only [faP_ptr, oB, Nat.zero_add, hx.f4, qc2, binV_ii, intsV_lss]
  rw [show decide ((i : Int) < (x.kids.length : Int)) = false by simp; omega]
  rfl
 | y :: r, i, d, n + 1, hi, hn, hd => by
  have hlt : i < x.kids.length := by
   rcases Nat.lt_or_ge i x.kids.length with h | h
   · exact h
   · rw [List.drop_eq_nil_of_le h] at hi; cases hi
  rw [List.drop_eq_getElem_cons hlt] at hi
  simp only [List.cons.injEq] at hi
  obtain ⟨hy, hr⟩ := hi
  rw [L73_15_eq]
  simp only [faP_ptr, oB, Nat.zero_add, hx.f4, qc2, binV_ii, intsV_lss]
  rw [show decide ((i : Int) < (x.kids.length : Int)) = true by simp; omega]
  simp only [ifK_bool, cond_true]
  rw [qd6 x.kids i hlt, hy]
  simp only [oB, qgo, binV_ii, intsV_sub]
  rw [show ((m + 1 : Nat) : Int) - 1 = (m : Int) by omega, qc5 (by omega) (by omega), hself y (hy ▸ List.getElem_mem hlt)]
  have hb := deepN_le m y
  simp only [callP_ret, binV_ii, intsV_add, oB]
  rw [show (1 : Int) + (qcp m y : Int) = ((1 + qcp m y : Nat) : Int) by omega, qc5 (by omega) (by omega)]
  rw [foldK_max, show max (d : Int) ((1 + qcp m y : Nat) : Int) = ((max d (1 + qcp m y) : Nat) : Int) by omega]
  simp only [oB]
  rw [show (i : Int) + 1 = ((i + 1 : Nat) : Int) by omega, qc5 (by omega) (by omega)]
  rw [L57_spec self N nk ek x b hall m hm hself S hx r (i + 1) (max d (1 + qcp m y)) n hr (by simp at hn; omega) (by omega)]
  rfl
theorem F57_spec (self : EV) (x : Nd) (ok : x.ok) (m : Nat) (hm : m + 1 ≤ 14) (hself : ∀ y ∈ x.kids, ∀ s, 1 ≤ m → self.f 73 [qce y, .int .i64 (m : Int)] s = some (.ret (.int .i64 (qcp m y : Int)), s)) (S : St) (ho : S.on = false) :
 ∃ S', F73 self qa1 (qce x) (.int .i64 ((m + 1 : Nat) : Int)) S = some (.ret (.int .i64 (qcp (m + 1) x : Int)), S') ∧ Grew (fun _ => False) S S' := by
 obtain ⟨S1, k1, k2, k3, k4⟩ := qbq ho x
 have hok := ok.at
 rw [F73_eq, k1]
 simp only [oB, faP_ptr, Nat.zero_add, k2.f1, binV_ii, intsV_neq]
 rw [qcp]
 by_cases hk : x.kind = 2
 · rw [hk]
   simp only [ne_eq, not_true_eq_false, decide_true, decide_false, oB, qa8, qaj, qaq, Bool.not_true, Bool.not_false, cond_true, binV_ii, intsV_eql, qah, cond_false, false_or]
   by_cases hm0 : m = 0
   · subst hm0
     exact ⟨S1, rfl, k3⟩
   · rw [show decide (((m + 1 : Nat) : Int) = 1) = false by simp; omega, if_neg hm0]
     simp only [ifK_bool, cond_false]
     have h1 := L57_spec self qa1 (R73_11 self qa1 (qay E0 self Try.f73) qae) (exB 0 (R73_11 self qa1 (qay E0 self Try.f73) qae) qae) x S.next hok.few m (by omega) (fun y hy s => hself y hy s (by omega)) S1 k2 x.kids 0 1 qa1 rfl (by have := hok.few; unfold qa1; omega) (by omega)
     refine ⟨S1, ?_, k3⟩
     rw [show ((0 : Nat) : Int) = 0 from rfl, show ((1 : Nat) : Int) = 1 from rfl] at h1
     rw [h1, exB_same, R73_11_eq]
 · simp only [ne_eq, hk, not_false_eq_true, decide_true, decide_false, Bool.not_false, oB, qa8, qaj, qaq, Bool.not_true, cond_false, qah, cond_true, ifK_bool, true_or, if_true]
   exact ⟨S1, rfl, k3⟩
theorem kn57 {K : FuncId → Option KF} (hK : KnOk Try.prog E0 K) : KnWell Try.prog E0 73 kfDeep :=
 qhm (fn := Try.f73) (c := C73) (d := B73) (fun p : DeepIn => p.m) (fun p q h => by obtain ⟨h1, h2⟩ := qi9 h; unfold qn1; rw [h1, h2]; exact ⟨rfl, rfl⟩) qlj hK (by kernel_rfl) (by kernel_rfl) (qa3 C73 _ (by kernel_rfl)) fun K' _ p s hself ho => by
  obtain ⟨m, hm⟩ : ∃ m, p.m = m + 1 := ⟨p.m - 1, by have := p.h1; omega⟩
  obtain ⟨S', h1, h2⟩ := F57_spec (ev E0 K' 1) p.x p.ok m (by have := p.h2; omega) (fun y hy s h1m => hself ⟨m, y, h1m, by have := p.h2; omega, p.ok.at.kids y hy⟩ s 0 (by show m < p.m; omega)) s ho
  rw [← hm] at h1
  exact ⟨1, .ret (.int .i64 (qcp p.m p.x : Int)), S', h1, h2, Fz.same (.int _ _)⟩
structure NodeIn where
 x : Nd
 ok : x.ok
noncomputable def qm7 (p : NodeIn) : List V := [qce p.x]
theorem qm8 {p q : NodeIn} (h : qm7 p = qm7 q) : p.x = q.x := by
 simp only [qm7, List.cons.injEq, and_true] at h
 exact encN_inj h
noncomputable def qb3 (g : Nd → V) : KF := qcs qm7 (fun p : NodeIn => En.ret (g p.x))
theorem qbg (g : Nd → V) (x : Nd) (ok : x.ok) (S : St) : (qb3 g).run [qce x] S = some (.ret (g x), S) :=
 qcc (enc := qm7) (out := fun p : NodeIn => En.ret (g p.x)) (fun p q h => by rw [qm8 h]) ⟨x, ok⟩ S
theorem knNode {K : FuncId → Option KF} (hK : KnOk Try.prog E0 K) {f : FuncId} {fn : Func} {c : Code} {d : D} (g : Nd → V) (hu : ∀ n x, Under n (g x)) (hf : E0.fns.get f = some fn) (hb : fn.body = some c) (hd : ql6 d c)
 (n : Nat) (h : ∀ x S, x.ok → S.on = false → ∃ S', qc0 E0 (ev E0 K n) qa1 fn d [qce x] S = some (.ret (g x), S') ∧ Grew (fun _ => False) S S') : KnWell Try.prog E0 f (qb3 g) :=
 qd9 qlj hK hf hb hd fun p s ho => by
  obtain ⟨S', h1, h2⟩ := h p.x s p.ok ho
  exact ⟨n, .ret (g p.x), S', h1, h2, Fz.same (hu _ _)⟩
theorem qhf {K : FuncId → Option KF} (hK : KnOk Try.prog E0 K) {f : FuncId} {fn : Func} {c : Code} {d : D} (g : Nd → V) (hu : ∀ n x, Under n (g x)) (hf : E0.fns.get f = some fn) (hb : fn.body = some c) (hd : ql6 d c)
 (n : Nat) (h : ∀ K', (∀ q, q ≠ f → K' q = K q) → ∀ x S, x.ok → (∀ y s m, y ∈ x.kids → (ev E0 K' (m + 1)).f f [qce y] s = some (.ret (g y), s)) → S.on = false → ∃ S', qc0 E0 (ev E0 K' n) qa1 fn d [qce x] S = some (.ret (g x), S') ∧ Grew (fun _ => False) S S') : KnWell Try.prog E0 f (qb3 g) :=
 qhm (fun p : NodeIn => SizeOf.sizeOf p.x) (fun p q h => by rw [qm8 h]; exact ⟨rfl, rfl⟩) qlj hK hf hb hd fun K' hK' p s hself ho => by
  obtain ⟨S', h1, h2⟩ := h K' hK' p.x s p.ok (fun y s m hy => hself ⟨y, p.ok.at.kids y hy⟩ s m (by
   show SizeOf.sizeOf y < SizeOf.sizeOf p.x
   have := List.sizeOf_lt_of_mem hy
   cases hp : p.x with
   | mk n k e d l =>
    rw [hp] at this
    simp only [Nd.kids] at this
    simp only [Nd.mk.sizeOf_spec]
    omega)) ho
  exact ⟨n, .ret (g p.x), S', h1, h2, Fz.same (hu _ _)⟩
noncomputable def qkx (x : Nd) : V := .int .i64 (qcp 14 x : Int)
theorem kn58 {K : FuncId → Option KF} (hK : KnOk Try.prog E0 K) (h70 : K 75 = some kfDeep) : KnWell Try.prog E0 42 (qb3 qkx) :=
 knNode hK (c := C42) (d := B42) qkx (fun _ _ => .int _ _) (by kernel_rfl) (by kernel_rfl) (qa3 C42 _ (by kernel_rfl)) 1 fun x S ok ho => by
  obtain ⟨S1, k1, k2, k3, k4⟩ := qbq ho x
  refine ⟨S1, (?_ : F42 (ev E0 K 1) qa1 (qce x) S = _), k3⟩
  rw [F42_eq, k1]
  simp only [oB, k2.fA]
  rw [show (V.int .i64 14) = .int .i64 ((14 : Nat) : Int) from rfl, qau h70, kfDeep_run 14 x (by omega) (by omega) ok]
  rfl
theorem kn34 {K : FuncId → Option KF} (hK : KnOk Try.prog E0 K) (h57 : K 73 = some kfDeep) : KnWell Try.prog E0 36 (qb3 qkx) :=
 knNode hK (c := C36) (d := B36) qkx (fun _ _ => .int _ _) (by kernel_rfl) (by kernel_rfl) (qa3 C36 _ (by kernel_rfl)) 1 fun x S ok ho => by
  obtain ⟨S1, k1, k2, k3, k4⟩ := qbq ho x
  refine ⟨S1, (?_ : F36 (ev E0 K 1) qa1 (qce x) S = _), k3⟩
  rw [F36_eq, k1]
  simp only [oB, k2.fA]
  rw [show (V.int .i64 14) = .int .i64 ((14 : Nat) : Int) from rfl, qau h57, kfDeep_run 14 x (by omega) (by omega) ok]
  rfl
def qc4 (x : Nd) : Bool := decide (12 < qcp 14 x)
noncomputable def qdh (x : Nd) : V := .bool (qc4 x)
theorem kn35 {K : FuncId → Option KF} (hK : KnOk Try.prog E0 K) (h58 : K 42 = some (qb3 qkx)) : KnWell Try.prog E0 24 (qb3 qdh) :=
 knNode hK (c := C24) (d := B24) qdh (fun _ _ => .bool _) (by kernel_rfl) (by kernel_rfl) (qa3 C24 _ (by kernel_rfl)) 1 fun x S ok ho => by
  obtain ⟨S1, k1, k2, k3, k4⟩ := qbq ho x
  refine ⟨S1, (?_ : F24 (ev E0 K 1) qa1 (qce x) S = _), k3⟩
  rw [F24_eq, k1]
  simp only [oB, k2.fA]
  rw [qau h58, qbg _ x ok]
  simp only [callP_ret, qkx, binV_ii, intsV_gtr, oB, qdh, qc4]
  rw [show decide ((12 : Int) < (qcp 14 x : Int)) = decide (12 < qcp 14 x) by rw [decide_eq_decide]; omega]
abbrev wr (n : Int) : Int := IntKind.i64.wrap n
theorem wr_range (n : Int) : -9223372036854775808 ≤ wr n ∧ wr n < 9223372036854775808 := by
 unfold wr IntKind.wrap
 have h1 : ((2 : Int) ^ IntKind.i64.bits) = 18446744073709551616 := by decide
 have h2 : ((2 : Int) ^ (IntKind.i64.bits - 1)) = 9223372036854775808 := by decide
 simp only [h1, h2, show IntKind.i64.signed = true from rfl, Bool.true_and, decide_eq_true_eq]
 split <;> omega
theorem wr_wr (n : Int) : wr (wr n) = wr n := qc5 (wr_range n).1 (wr_range n).2
mutual
def qnj : Nd → Int × Int
 | .mk _ _ _ d l => qni l (1, (d.length : Int))
def qni : List Nd → Int × Int → Int × Int
 | [], a => a
 | x :: l, a => qni l (if qc4 x then a else (wr (a.1 + (qnj x).1), wr (a.2 + (qnj x).2)))
end
theorem sizeN_eq (x : Nd) : qnj x = qni x.kids (1, (x.data.length : Int)) := by cases x; rw [qnj]; rfl
noncomputable def gSize (x : Nd) : V := .tuple [.int .i64 (qnj x).1, .int .i64 (qnj x).2]
def sizeT (x : Nd) : Int × Int := if qc4 x then (0, 0) else qnj x
noncomputable def qev (x : Nd) : V := .tuple [.int .i64 (sizeT x).1, .int .i64 (sizeT x).2]
theorem qnr (n : Nat) (a b : V) (ha : Under n a) (hb : Under n b) : Under n (.tuple [a, b]) := .tuple (.cons ha (.cons hb .nil))
theorem qct {α : Type} {l r : List α} {i : Nat} {y : α} (h : l.drop i = y :: r) : ∃ hlt : i < l.length, l[i] = y ∧ l.drop (i + 1) = r ∧ y ∈ l := by
 have hlt : i < l.length := by
  rcases Nat.lt_or_ge i l.length with h' | h'
  · exact h'
  · rw [List.drop_eq_nil_of_le h'] at h; cases h
 rw [List.drop_eq_getElem_cons hlt] at h
 simp only [List.cons.injEq] at h
 exact ⟨hlt, h.1, h.2, h.1 ▸ List.getElem_mem hlt⟩
theorem qbo {α : Type} {l : List α} {i : Nat} (h : l.drop i = []) : l.length ≤ i := List.drop_eq_nil_iff.1 h
theorem qg0 {a b : Nat} (h : a < b) : decide ((a : Int) < (b : Int)) = true := by simp; omega
theorem qgf {a b : Nat} (h : b ≤ a) : decide ((a : Int) < (b : Int)) = false := by simp; omega
theorem qbl {i : Nat} (h : i < 9223372036854775807) : IntKind.i64.wrap ((i : Int) + 1) = ((i + 1 : Nat) : Int) := by
 rw [qc5 (by omega) (by omega)]; omega
theorem L38_spec (self : EV) (N : Nat) (nk : Ac → St → Rs) (ek : Nat → Ac → St → Rs) (all : List Nd) (hall : all.length ≤ 3000)
 (h35 : ∀ y ∈ all, ∀ s, self.f 24 [qce y] s = some (.ret (qdh y), s)) (h38 : ∀ y ∈ all, ∀ s, self.f 51 [qce y] s = some (.ret (gSize y), s)) :
 ∀ (r : List Nd) (i n : Nat) (a : Int × Int) (S : St), all.drop i = r → r.length < n → S.on = false →
 ∃ S', L51_17 self N nk ek n (.int .i64 a.1) (.int .i64 a.2) (qg9 (qhv all)) (.int .i64 (all.length : Int)) (.int .i64 (i : Int)) S = ek 0 (fr 34 [(2, .int .i64 (qni r a).1), (3, .int .i64 (qni r a).2)]) S' ∧ Grew (fun _ => False) S S'
 | r, i, 0, a, S, _, hn, _ => by omega
 | [], i, n + 1, a, S, hi, hn, ho => by
  rw [L51_17_eq, binV_ii, intsV_lss, qgf (qbo hi)]
  exact ⟨S, by rw [qni]; rfl, Grew.refl _ _⟩
 | x :: r, i, n + 1, a, S, hi, hn, ho => by
  obtain ⟨hlt, hx, hr, hmem⟩ := qct hi
  rw [L51_17_eq, binV_ii, intsV_lss, qg0 hlt]
  simp only [oB, ifK_bool, cond_true]
  rw [qd6 all i hlt, hx]
  simp only [oB, qgo, qii]
  obtain ⟨S1, k1, k2, k3, k4⟩ := ql9 ho (Tr.ofListFrom .nil [(sv []), (.int .i64 0), (.bool false), (sv []), .nilslice] 0) x
  rw [k1]
  simp only [oB, k2.fA]
  rw [h35 x hmem, qni]
  simp only [callP_ret, qdh, ifK_bool]
  cases htd : qc4 x with
  | true =>
   simp only [cond_true, binV_ii, intsV_add, oB, qbl (show i < 9223372036854775807 by omega)]
   obtain ⟨S', h1, h2⟩ := L38_spec self N nk ek all hall h35 h38 r (i + 1) n a S1 hr (by simp at hn; omega) k2.on
   exact ⟨S', by rw [h1]; rfl, k3.trans h2⟩
  | false =>
   simp only [cond_false, k2.fA, oB]
   rw [h38 x hmem]
   simp only [callP_ret, gSize, qa9, List.getElem?_cons_zero, List.getElem?_cons_succ, oB, binV_ii, intsV_add, qbl (show i < 9223372036854775807 by omega)]
   obtain ⟨S', h1, h2⟩ := L38_spec self N nk ek all hall h35 h38 r (i + 1) n (wr (a.1 + (qnj x).1), wr (a.2 + (qnj x).2)) S1 hr (by simp at hn; omega) k2.on
   exact ⟨S', by rw [h1]; rfl, k3.trans h2⟩
theorem kn38 {K : FuncId → Option KF} (hK : KnOk Try.prog E0 K) (h35 : K 24 = some (qb3 qdh)) : KnWell Try.prog E0 51 (qb3 gSize) :=
 qhf hK (fn := Try.f51) (c := C51) (d := B51) gSize (fun _ _ => qnr _ _ _ (.int _ _) (.int _ _)) (by kernel_rfl) (by kernel_rfl) (qa3 C51 _ (by kernel_rfl)) 1 fun K' hK' x S ok hself ho => by
  obtain ⟨S1, k1, k2, k3, k4⟩ := qbq ho x
  obtain ⟨S', h1, h2⟩ := L38_spec (ev E0 K' 1) qa1 (R51_8 (ev E0 K' 1) qa1 (qay E0 (ev E0 K' 1) Try.f51) qae) (exB 0 (R51_8 (ev E0 K' 1) qa1 (qay E0 (ev E0 K' 1) Try.f51) qae) qae) x.kids ok.at.few
   (fun y hy s => by rw [qau (show K' 24 = _ by rw [hK' 24 (by decide)]; exact h35), qbg _ y (ok.at.kids y hy)]) (fun y hy s => hself y s 0 hy) x.kids 0 qa1 (1, (x.data.length : Int)) S1 rfl (by have := ok.at.few; unfold qa1; omega) k2.on
  refine ⟨S', (?_ : F51 (ev E0 K' 1) qa1 (qce x) S = _), k3.trans h2⟩
  rw [F51_eq, k1]
  simp only [oB, faP_ptr, Nat.zero_add, k2.o3, qg5, qcv, lnStr_sv, qbz k2.on, k2.f4, qc2]
  rw [show ((0 : Nat) : Int) = 0 from rfl] at h1
  dsimp only at h1
  rw [h1, exB_same, R51_8_eq, gSize, sizeN_eq]
theorem kn17 {K : FuncId → Option KF} (hK : KnOk Try.prog E0 K) (h35 : K 24 = some (qb3 qdh)) (h38 : K 51 = some (qb3 gSize)) : KnWell Try.prog E0 26 (qb3 qev) :=
 knNode hK (fn := Try.f26) (c := C26) (d := B26) qev (fun _ _ => qnr _ _ _ (.int _ _) (.int _ _)) (by kernel_rfl) (by kernel_rfl) (qa3 C26 _ (by kernel_rfl)) 1 fun x S ok ho => by
  obtain ⟨S1, k1, k2, k3, k4⟩ := qbq ho x
  refine ⟨S1, (?_ : F26 (ev E0 K 1) qa1 (qce x) S = _), k3⟩
  rw [F26_eq, k1]
  simp only [oB, k2.fA]
  rw [qau h35, qbg _ x ok]
  simp only [callP_ret, qdh, ifK_bool, qev, sizeT]
  cases htd : qc4 x with
  | true => rfl
  | false =>
   simp only [cond_false, k2.fA, oB, Bool.false_eq_true, if_false]
   rw [qau h38, qbg _ x ok]
   rfl
theorem L45_spec (self : EV) (N : Nat) (nk : Ac → St → Rs) (ek : Nat → Ac → St → Rs) (x : Nd) (b : Nat) (hall : x.kids.length ≤ 3000)
 (h45 : ∀ y ∈ x.kids, ∀ s, self.f 38 [qce y] s = some (.ret (qev y), s)) (S : St) (hx : NodeAt S b x) :
 ∀ (r : List Nd) (i n : Nat) (a : Int × Int), x.kids.drop i = r → r.length < n → wr a.1 = a.1 → wr a.2 = a.2 →
 L38_19 self N nk ek n (.ptr b 0) (.int .i64 a.1) (.int .i64 a.2) (.int .i64 (i : Int)) S = ek 0 (fr 39 [(4, .int .i64 (qni r a).1), (5, .int .i64 (qni r a).2)]) S
 | r, i, 0, a, _, hn, _, _ => by omega
 | [], i, n + 1, a, hi, hn, _, _ => by
  rw [L38_19_eq]
  simp only [faP_ptr, oB, Nat.zero_add, hx.f4, qc2, binV_ii, intsV_lss, qgf (qbo hi), qni]
  rfl
 | y :: r, i, n + 1, a, hi, hn, ha1, ha2 => by
  obtain ⟨hlt, hy, hr, hmem⟩ := qct hi
  rw [L38_19_eq]
  simp only [faP_ptr, oB, Nat.zero_add, hx.f4, qc2, binV_ii, intsV_lss, qg0 hlt, ifK_bool, cond_true]
  rw [qd6 x.kids i hlt, hy]
  simp only [oB, qgo]
  rw [h45 y hmem, qni]
  simp only [callP_ret, qev, qa9, List.getElem?_cons_zero, List.getElem?_cons_succ, oB, binV_ii, intsV_add, qbl (show i < 9223372036854775807 by omega), sizeT]
  cases htd : qc4 y with
  | true =>
   simp only [if_true, Int.add_zero]
   rw [show IntKind.i64.wrap a.1 = a.1 from ha1, show IntKind.i64.wrap a.2 = a.2 from ha2]
   exact L45_spec self N nk ek x b hall h45 S hx r (i + 1) n a hr (by simp at hn; omega) ha1 ha2
  | false =>
   simp only [Bool.false_eq_true, if_false]
   exact L45_spec self N nk ek x b hall h45 S hx r (i + 1) n (wr (a.1 + (qnj y).1), wr (a.2 + (qnj y).2)) hr (by simp at hn; omega) (wr_wr _) (wr_wr _)
theorem kn45 {K : FuncId → Option KF} (hK : KnOk Try.prog E0 K) (h34 : K 36 = some (qb3 qkx)) : KnWell Try.prog E0 38 (qb3 qev) :=
 qhf hK (fn := Try.f38) (c := C38) (d := B38) qev (fun _ _ => qnr _ _ _ (.int _ _) (.int _ _)) (by kernel_rfl) (by kernel_rfl) (qa3 C38 _ (by kernel_rfl)) 1 fun K' hK' x S ok hself ho => by
  obtain ⟨S1, k1, k2, k3, k4⟩ := qbq ho x
  refine ⟨S1, (?_ : F38 (ev E0 K' 1) qa1 (qce x) S = _), k3⟩
  rw [F38_eq, k1]
  simp only [oB, k2.fA]
  rw [qau (show K' 36 = _ by rw [hK' 36 (by decide)]; exact h34), qbg _ x ok]
  simp only [callP_ret, qkx, binV_ii, intsV_gtr, oB, ifK_bool]
  rw [show decide ((12 : Int) < (qcp 14 x : Int)) = qc4 x by unfold qc4; rw [decide_eq_decide]; omega]
  simp only [qev, sizeT]
  cases htd : qc4 x with
  | true => rfl
  | false =>
   have hd := ok.at.data
   simp only [cond_false, faP_ptr, oB, Nat.zero_add, k2.o3, qg5, qcv, lnStr_sv, qbz k2.on, Bool.false_eq_true, if_false]
   have h1 := L45_spec (ev E0 K' 1) qa1 (R38_13 (ev E0 K' 1) qa1 (qay E0 (ev E0 K' 1) Try.f38) qae) (exB 0 (R38_13 (ev E0 K' 1) qa1 (qay E0 (ev E0 K' 1) Try.f38) qae) qae) x S.next ok.at.few
    (fun y hy s => hself y s 0 hy) S1 k2 x.kids 0 qa1 (1, (x.data.length : Int)) rfl (by have := ok.at.few; unfold qa1; omega) (show wr 1 = 1 from qc5 (by omega) (by omega)) (qc5 (by omega) (by omega))
   rw [show ((0 : Nat) : Int) = 0 from rfl] at h1
   dsimp only at h1
   rw [h1, exB_same, R38_13_eq, sizeN_eq]
def qbb (c : UInt8) : Bool := c == 47 || c == 0
def nameOk (s : List UInt8) : Bool := decide (1 ≤ s.length) && decide (s.length ≤ 56) && !(s.any qbb) && !(s == [46]) && !(s == [46, 46])
theorem u8_eq (c d : UInt8) : (c == d) = decide ((c.toNat : Int) = (d.toNat : Int)) := by
 rw [Bool.eq_iff_iff]
 simp only [beq_iff_eq, decide_eq_true_eq]
 constructor
 · rintro rfl; rfl
 · intro h; exact UInt8.toNat_inj.1 (by omega)
structure TextIn where
 s : List UInt8
 hs : s.length < 9223372036854775808
noncomputable def qhy (g : List UInt8 → V) : KF := qcs (fun p : TextIn => [sv p.s]) (fun p => En.ret (g p.s))
theorem kfText_run (g : List UInt8 → V) (s : List UInt8) (hs : s.length < 9223372036854775808) (S : St) : (qhy g).run [sv s] S = some (.ret (g s), S) :=
 qcc (enc := fun p : TextIn => [sv p.s]) (out := fun p => En.ret (g p.s)) (fun p q h => by
  simp only [List.cons.injEq, and_true] at h
  rw [qnn h]) ⟨s, hs⟩ S
theorem knText {K : FuncId → Option KF} (hK : KnOk Try.prog E0 K) {f : FuncId} {fn : Func} {c : Code} {d : D} (g : List UInt8 → V) (hu : ∀ n x, Under n (g x)) (hf : E0.fns.get f = some fn) (hb : fn.body = some c) (hd : ql6 d c)
 (n : Nat) (h : ∀ s S, s.length < 9223372036854775808 → S.on = false → ∃ S', qc0 E0 (ev E0 K n) qa1 fn d [sv s] S = some (.ret (g s), S') ∧ Grew (fun _ => False) S S') : KnWell Try.prog E0 f (qhy g) :=
 qd9 qlj hK hf hb hd fun p s ho => by
  obtain ⟨S', h1, h2⟩ := h p.s s p.hs ho
  exact ⟨n, .ret (g p.s), S', h1, h2, Fz.same (hu _ _)⟩
noncomputable def qgi (s : List UInt8) : V := .bool (nameOk s)
theorem L68_spec (self : EV) (N : Nat) (nk : Ac → St → Rs) (ek : Nat → Ac → St → Rs) (s : List UInt8) (hs : s.length < 9223372036854775808) (S : St) :
 ∀ (r : List UInt8) (i n : Nat), s.drop i = r → r.length < n →
 L74_20 self N nk ek n (sv s) (.int .i64 (i : Int)) S = bif r.any qbb then some (.ret (.bool false), S) else ek 0 (fr 36 [(0, sv s)]) S
 | r, i, 0, _, hn => by omega
 | [], i, n + 1, hi, hn => by
  rw [L74_20_eq]
  simp only [lnStr_sv, oB, binV_ii, intsV_lss, qgf (qbo hi)]
  rfl
 | c :: r, i, n + 1, hi, hn => by
  obtain ⟨hlt, hc, hr, hmem⟩ := qct hi
  rw [L74_20_eq]
  simp only [lnStr_sv, oB, binV_ii, intsV_lss, qg0 hlt, ifK_bool, cond_true, qg3 s .i64 i hlt, hc, intsV_eql, qa8, qaj, qaq]
  rw [List.any_cons, qbb, u8_eq c 47, u8_eq c 0, show (UInt8.toNat 47) = 47 from rfl, show (UInt8.toNat 0) = 0 from rfl]
  cases h1 : decide ((c.toNat : Int) = ((47 : Nat) : Int)) with
  | true =>
   rfl
  | false =>
   simp only [Bool.not_false, cond_true, oB, qg3 s .i64 i hlt, hc, binV_ii, intsV_eql, qah, cond_false, ifK_bool, Bool.false_or]
   cases h2 : decide ((c.toNat : Int) = ((0 : Nat) : Int)) with
   | true =>
    rfl
   | false =>
    simp only [cond_false, intsV_add, oB, qbl (show i < 9223372036854775807 by omega), Bool.false_or]
    exact L68_spec self N nk ek s hs S r (i + 1) n hr (by simp at hn; omega)
theorem kn68 {K : FuncId → Option KF} (hK : KnOk Try.prog E0 K) : KnWell Try.prog E0 74 (qhy qgi) :=
 knText hK (fn := Try.f74) (c := C74) (d := B74) qgi (fun _ _ => .bool _) (by kernel_rfl) (by kernel_rfl) (qa3 C74 _ (by kernel_rfl)) 0 fun s S hs ho => by
  refine ⟨S, (?_ : F74 (ev E0 K 0) qa1 (sv s) S = _), Grew.refl _ _⟩
  have h1 := L68_spec (ev E0 K 0) qa1 (R74_1 (ev E0 K 0) qa1 (qay E0 (ev E0 K 0) Try.f74) qae) (exB 0 (R74_1 (ev E0 K 0) qa1 (qay E0 (ev E0 K 0) Try.f74) qae) qae) s hs S s 0 qa1 rfl (by unfold qa1; omega)
  rw [F74_eq, show (V.int .i64 0) = .int .i64 ((0 : Nat) : Int) from rfl, h1, exB_same, R74_1_eq, qgi, nameOk]
  cases hb : s.any qbb with
  | true => simp only [cond_true, Bool.not_true, Bool.and_false, Bool.false_and]
  | false =>
   simp only [cond_false, lnStr_sv, oB, binV_ii, intsV_geq, qa8, qaj, qaq, Bool.not_false, Bool.and_true]
   rw [show decide ((1 : Int) ≤ (s.length : Int)) = decide (1 ≤ s.length) by rw [decide_eq_decide]; omega]
   cases decide (1 ≤ s.length) with
   | false => rfl
   | true =>
    simp only [cond_true, lnStr_sv, oB, binV_ii, intsV_leq, qah, qa8, qaj, qaq, Bool.true_and]
    rw [show decide ((s.length : Int) ≤ 56) = decide (s.length ≤ 56) by rw [decide_eq_decide]; omega]
    cases decide (s.length ≤ 56) with
    | false => rfl
    | true =>
     simp only [cond_true, oB, binV_ss, strOp_neq, qah, qa8, qaj, qaq, Bool.true_and]
     cases (s == [46]) with
     | true => rfl
     | false =>
      simp only [Bool.not_false, cond_true, oB, binV_ss, strOp_neq, qah, qa8, qaj, qaq, Bool.true_and]
def qhi (p : Option (List UInt8)) (s : List UInt8) : Bool :=
 match p with
 | none => true
 | some q => Op.bytesLess q s
mutual
def mayN : Nd → Bool
 | .mk _ k e d l => if k = 1 then l.isEmpty else if k = 3 then !(d.any (· == 0)) && (!e && l.isEmpty && decide (1 ≤ d.length) && decide (d.length ≤ 255)) else if k = 2 then mayL none l && (!e && (d == [])) else false
def mayL : Option (List UInt8) → List Nd → Bool
 | _, [] => true
 | p, x :: l => (nameOk x.name && mayN x) && qhi p x.name && mayL (some x.name) l
end
theorem mayN_eq (x : Nd) : mayN x = if x.kind = 1 then x.kids.isEmpty else if x.kind = 3 then !(x.data.any (· == 0)) && (!x.exec && x.kids.isEmpty && decide (1 ≤ x.data.length) && decide (x.data.length ≤ 255)) else if x.kind = 2 then mayL none x.kids && (!x.exec && (x.data == [])) else false := by
 cases x; rw [mayN]; rfl
noncomputable def gMay (x : Nd) : V := .bool (mayN x)
theorem L44d_spec (self : EV) (N : Nat) (nk : Ac → St → Rs) (ek : Nat → Ac → St → Rs) (x : Nd) (b : Nat) (hd : x.data.length ≤ 3000) (S : St) (hx : NodeAt S b x) :
 ∀ (r : List UInt8) (i n : Nat), x.data.drop i = r → r.length < n →
 L37_39 self N nk ek n (.ptr b 0) (.int .i64 (i : Int)) S = bif r.any (· == 0) then some (.ret (.bool false), S) else ek 1 (fr 102 [(1, .ptr b 0)]) S
 | r, i, 0, _, hn => by omega
 | [], i, n + 1, hi, hn => by
  rw [L37_39_eq]
  simp only [faP_ptr, Nat.zero_add, hx.f3, lnStr_sv, oB, binV_ii, intsV_lss, qgf (qbo hi)]
  rfl
 | c :: r, i, n + 1, hi, hn => by
  obtain ⟨hlt, hc, hr, hmem⟩ := qct hi
  rw [L37_39_eq]
  simp only [faP_ptr, Nat.zero_add, hx.f3, lnStr_sv, oB, binV_ii, intsV_lss, qg0 hlt, ifK_bool, cond_true, qg3 x.data .i64 i hlt, hc, intsV_eql]
  rw [List.any_cons, u8_eq c 0, show (UInt8.toNat 0) = 0 from rfl]
  cases h2 : decide ((c.toNat : Int) = ((0 : Nat) : Int)) with
  | true =>
   rfl
  | false =>
   simp only [cond_false, binV_ii, intsV_add, oB, qbl (show i < 9223372036854775807 by omega), Bool.false_or]
   exact L44d_spec self N nk ek x b hd S hx r (i + 1) n hr (by simp at hn; omega)
def qk3 (all : List Nd) : Nat → Option (List UInt8)
 | 0 => none
 | i + 1 => (all[i]?).map Nd.name
theorem qll (self : EV) (N : Nat) (nk : Ac → St → Rs) (ek : Nat → Ac → St → Rs) (x : Nd) (b : Nat) (ok : NdOk x) (h68 : ∀ y ∈ x.kids, ∀ s, self.f 74 [sv y.name] s = some (.ret (qgi y.name), s))
 (h44 : ∀ y ∈ x.kids, ∀ s, self.f 37 [qce y] s = some (.ret (gMay y), s)) (S : St) (hx : NodeAt S b x) :
 ∀ (r : List Nd) (i n : Nat), x.kids.drop i = r → r.length < n →
 L37_67 self N nk ek n (.ptr b 0) (.int .i64 (i : Int)) S = bif mayL (qk3 x.kids i) r then ek 3 (fr 102 [(1, .ptr b 0)]) S else some (.ret (.bool false), S)
 | r, i, 0, _, hn => by omega
 | [], i, n + 1, hi, hn => by
  rw [L37_67_eq]
  simp only [faP_ptr, oB, Nat.zero_add, hx.f4, qc2, binV_ii, intsV_lss, qgf (qbo hi), mayL]
  rfl
 | y :: r, i, n + 1, hi, hn => by
  obtain ⟨hlt, hy, hr, hmem⟩ := qct hi
  have hfew := ok.few
  rw [L37_67_eq, mayL]
  simp only [faP_ptr, oB, Nat.zero_add, hx.f4, qc2, binV_ii, intsV_lss, qg0 hlt, ifK_bool, cond_true, hx.o4, qd6 x.kids i hlt, hy, faP_kid, qg5, ld1_csv, h68 y hmem, qb7, qgi, unV, qa8, qaj, qaq, Bool.not_not]
  cases hnm : nameOk y.name with
  | false =>
   simp only [cond_false, Bool.not_false, oB, qb7, qah, cond_true, qa8, qaj, qaq, Bool.not_true, hx.o4, qcv]
   rw [qdp]
   · simp only [qbz hx.on, ifK_bool, cond_true, Bool.false_and, cond_false]
   · rfl
  | true =>
   simp only [cond_true, Bool.not_true, hx.o4, qcv, oB, qd6 x.kids i hlt, hy, qg5, qgo, h44 y hmem, qb7, gMay, unV, qah, cond_false, qa8, qaj, qaq, Bool.not_not]
   cases hmy : mayN y with
   | false =>
    simp only [cond_false, Bool.not_false, oB, cond_true, qa8, qaj, qaq, Bool.not_true, qah, qcv]
    rw [qdp]
    · simp only [qbz hx.on, ifK_bool, cond_true, Bool.false_and, Bool.and_false, cond_false]
    · rfl
   | true =>
    simp only [cond_true, Bool.not_true, oB, cond_false, qa8, qaj, qaq, Bool.not_false, qah, binV_ii, intsV_gtr, Bool.and_self, Bool.true_and]
    cases i with
    | zero =>
     simp only [show decide ((0 : Int) < ((0 : Nat) : Int)) = false from rfl, cond_false, oB, qcv]
     rw [qdp]
     · simp only [qbz hx.on, ifK_bool, cond_false, oB, binV_ii, intsV_add, qbl (show 0 < 9223372036854775807 by omega), qk3, qhi, Bool.true_and]
       rw [qll self N nk ek x b ok h68 h44 S hx r (0 + 1) n hr (by simp at hn; omega)]
       simp only [qk3, List.getElem?_eq_getElem hlt, hy, Option.map_some]
     · rfl
    | succ j =>
     have hj : j < x.kids.length := by omega
     simp only [show decide ((0 : Int) < ((j + 1 : Nat) : Int)) = true by simp, cond_true, oB, hx.o4, qcv, binV_ii, intsV_sub]
     rw [show ((j + 1 : Nat) : Int) - 1 = (j : Int) by omega, qc5 (by omega) (by omega)]
     simp only [oB, qd6 x.kids j hj, qd6 x.kids (j + 1) hlt, hy, faP_kid, qg5, ld1_csv, hx.o4, qcv, binV_ss, strOp_geq]
     rw [qdp]
     · simp only [qbz hx.on, ifK_bool, qk3, qhi, List.getElem?_eq_getElem hj, Option.map_some]
       cases hbl : Op.bytesLess x.kids[j].name y.name with
       | false => simp only [Bool.not_false, cond_true, Bool.false_and, cond_false]
       | true =>
        simp only [Bool.not_true, cond_false, Bool.true_and, binV_ii, intsV_add, qbl (show j + 1 < 9223372036854775807 by omega), oB]
        rw [qll self N nk ek x b ok h68 h44 S hx r (j + 1 + 1) n hr (by simp at hn; omega)]
        simp only [qk3, List.getElem?_eq_getElem hlt, hy, Option.map_some]
     · rfl
theorem kn44 {K : FuncId → Option KF} (hK : KnOk Try.prog E0 K) (h68 : K 74 = some (qhy qgi)) : KnWell Try.prog E0 37 (qb3 gMay) :=
 qhf hK (fn := Try.f37) (c := C37) (d := B37) gMay (fun _ _ => .bool _) (by kernel_rfl) (by kernel_rfl) (qa3 C37 _ (by kernel_rfl)) 1 fun K' hK' x S ok hself ho => by
  obtain ⟨S1, k1, k2, k3, k4⟩ := qbq ho x
  have hok := ok.at
  refine ⟨S1, (?_ : F37 (ev E0 K' 1) qa1 (qce x) S = _), k3⟩
  rw [F37_eq, k1]
  simp only [oB, faP_ptr, Nat.zero_add, k2.f1, binV_ii, intsV_eql, ifK_bool]
  rw [gMay, mayN_eq]
  by_cases h1 : x.kind = 1
  · simp only [h1, decide_true, cond_true, k2.f4, oB, qc2, binV_ii, intsV_eql, if_true]
    congr 4
    cases x.kids with
    | nil => rfl
    | cons y l => simp; omega
  · simp only [h1, decide_false, cond_false, if_false]
    by_cases h3 : x.kind = 3
    · have hl := L44d_spec (ev E0 K' 1) qa1 (R37_15 (ev E0 K' 1) qa1 (qes (ev E0 K' 1) qa1 (qay E0 (ev E0 K' 1) Try.f37) qae) (exB 0 (qes (ev E0 K' 1) qa1 (qay E0 (ev E0 K' 1) Try.f37) qae) qae)) (exB 1 (R37_15 (ev E0 K' 1) qa1 (qes (ev E0 K' 1) qa1 (qay E0 (ev E0 K' 1) Try.f37) qae) (exB 0 (qes (ev E0 K' 1) qa1 (qay E0 (ev E0 K' 1) Try.f37) qae) qae)) (exB 0 (qes (ev E0 K' 1) qa1 (qay E0 (ev E0 K' 1) Try.f37) qae) qae)) x S.next hok.data S1 k2 x.data 0 qa1 rfl (by have := hok.data; unfold qa1; omega)
      rw [show ((0 : Nat) : Int) = 0 from rfl] at hl
      simp only [h3, decide_true, cond_true, if_true, hl, exB_same]
      cases hz : x.data.any (· == 0) with
      | true => rfl
      | false =>
       rw [R37_15_eq]
       simp only [cond_false, faP_ptr, Nat.zero_add, k2.f2, oB, unV, qa8, qaj, qaq, Bool.not_false, Bool.true_and]
       cases he : x.exec with
       | true => rfl
       | false =>
        simp only [Bool.not_false, cond_true, k2.f4, oB, qc2, binV_ii, intsV_eql, qah, qa8, qaj, qaq, Bool.true_and]
        rw [show decide ((x.kids.length : Int) = 0) = x.kids.isEmpty by cases x.kids with
         | nil => rfl
         | cons y l => simp; omega]
        cases x.kids.isEmpty with
        | false => rfl
        | true =>
         simp only [cond_true, k2.f3, oB, lnStr_sv, binV_ii, intsV_geq, qah, qa8, qaj, qaq, Bool.true_and]
         rw [show decide ((1 : Int) ≤ (x.data.length : Int)) = decide (1 ≤ x.data.length) by rw [decide_eq_decide]; omega]
         cases decide (1 ≤ x.data.length) with
         | false => rfl
         | true =>
          simp only [cond_true, k2.f3, oB, lnStr_sv, binV_ii, intsV_leq, qah, qa8, qaj, qaq, Bool.true_and]
          rw [show decide ((x.data.length : Int) ≤ 255) = decide (x.data.length ≤ 255) by rw [decide_eq_decide]; omega]
    · simp only [h3, decide_false, cond_false, if_false]
      by_cases h2 : x.kind = 2
      · have hl := qll (ev E0 K' 1) qa1 (R37_56 (ev E0 K' 1) qa1 (qes (ev E0 K' 1) qa1 (qay E0 (ev E0 K' 1) Try.f37) qae) (exB 0 (qes (ev E0 K' 1) qa1 (qay E0 (ev E0 K' 1) Try.f37) qae) qae)) (exB 3 (R37_56 (ev E0 K' 1) qa1 (qes (ev E0 K' 1) qa1 (qay E0 (ev E0 K' 1) Try.f37) qae) (exB 0 (qes (ev E0 K' 1) qa1 (qay E0 (ev E0 K' 1) Try.f37) qae) qae)) (exB 0 (qes (ev E0 K' 1) qa1 (qay E0 (ev E0 K' 1) Try.f37) qae) qae)) x S.next hok
         (fun y hy s => by rw [qau (show K' 74 = _ by rw [hK' 74 (by decide)]; exact h68), kfText_run _ _ (hok.kids y hy).at.name]) (fun y hy s => hself y s 0 hy) S1 k2 x.kids 0 qa1 rfl (by have := hok.few; unfold qa1; omega)
        rw [show ((0 : Nat) : Int) = 0 from rfl] at hl
        simp only [h2, decide_true, cond_true, if_true, hl, exB_same]
        rw [show qk3 x.kids 0 = none from rfl]
        cases mayL none x.kids with
        | false => rfl
        | true =>
         rw [R37_56_eq]
         simp only [cond_true, faP_ptr, Nat.zero_add, k2.f2, oB, unV, qa8, qaj, qaq, Bool.true_and]
         cases he : x.exec with
         | true => rfl
         | false =>
          simp only [Bool.not_false, cond_true, k2.f3, oB, qah, Bool.true_and]
          simp only [binV_ss, strOp_eql, oB]
      · simp only [h2, decide_false, cond_false, if_false]
        rw [R37_2_eq]
end Go.Proofs.Ytmeohejdafbodaa.W
