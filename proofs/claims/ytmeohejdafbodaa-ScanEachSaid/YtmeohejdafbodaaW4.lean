/-
  WHAT THE FUNCTIONS COME TO: each is read by the evaluator, printed, and told as a function of data, part 4 of 12 (no condition).
-/
import Derived.Test.YtmeohejdafbodaaW3
import Derived.Test.YtmeohejdafbodaaProg
import Derived.KernelRfl
namespace Go.Proofs.Ytmeohejdafbodaa.W
open Go.Proofs.Ytmeohejdafbodaa.Ev
set_option maxRecDepth 100000
noncomputable section
noncomputable def C52 : Code := Try.f52.body.getD .skip
noncomputable def B52 : D := (qas C52 [[], [], [], [], [0, 1, 2, 3], [], [0, 1, 2], [], [], [0, 1, 2, 3, 14, 15, 16], [], [0, 1, 2, 3], [], [], [], [0, 1, 2, 3], [], [0, 0, 1, 2, 3], [0, 1, 2, 3], [0, 0, 1, 2, 3], [0, 1, 2, 3], [0, 0, 1, 2], [0, 1], [], [0, 1, 2, 29, 30, 31], [], [0, 1, 2], [], [], [], [0, 0, 1, 2], [0, 1], [], [0, 1, 2, 41], [], [0, 1], [], [], [], [0, 0, 1], [0, 1], []]).1
noncomputable def RL52 : List Nat := cellsOf Try.f52.results.toList
noncomputable def R52_3 (self : EV) (N : Nat) (nk : Ac->St->Rs) (ek : Nat->Ac->St->Rs) (a : Ac) (S : St) : Rs := qaa [0, 1, 2] a fun a => dr E0 self RL52 N (B52.r.l.r.r).r (mkK E0 self Try.f52 nk ek) a S
noncomputable def R52_4 (self : EV) (N : Nat) (nk : Ac->St->Rs) (ek : Nat->Ac->St->Rs) (a : Ac) (S : St) : Rs := qaa [0, 1, 2] a fun a => dr E0 self RL52 N (B52.r.l.r.r.r.l).r (mkK E0 self Try.f52 nk ek) a S
noncomputable def R52_5 (self : EV) (N : Nat) (nk : Ac->St->Rs) (ek : Nat->Ac->St->Rs) (a : Ac) (S : St) : Rs := qaa [0, 1] a fun a => dr E0 self RL52 N (B52.r.l.r.r.r.l.r.l).r (mkK E0 self Try.f52 nk ek) a S
theorem R52_5_eq (self : EV) (N : Nat) (nk : Ac->St->Rs) (ek : Nat->Ac->St->Rs) ( v0 v1 : V) (S : St) : R52_5 self N nk ek (fr 54 [(0, v0), (1, v1)]) S =
(ldA 8 v0 (onS S)).bind fun p6 =>
(ldA 64 v1 (onS p6.2)).bind fun p7 =>
(stP 8 v0 p6.1 (onS p7.2)).bind fun p8 =>
(stP 64 v1 p7.1 (onS p8.2)).bind fun p9 =>
qm8 [(0, [1]), (1, [2])] S [p6.2.log, p7.2.log, p8.2.log, p9.2.log] p9.2 fun S10 =>
(ldrA 8 v0 S10).bind fun p11 =>
(ldrA 64 v1 p11.2).bind fun p12 =>
some (.ret (.tuple [p11.1, p12.1]), p12.2) := by kernel_rfl
noncomputable def L52_14 (self : EV) (N : Nat) (nk : Ac->St->Rs) (ek : Nat->Ac->St->Rs) (n : Nat) ( v0 v1 v2 v41 : V) (S : St) : Rs := qbf [0, 1, 2, 41] (dr E0 self RL52 N (B52.r.l.r.r.r.l.r.l.l.r.l.l)) (mkK E0 self Try.f52 nk ek) n (fr 54 [(0, v0), (1, v1), (2, v2), (41, v41)]) S
theorem L52_14_eq (self : EV) (N : Nat) (nk : Ac->St->Rs) (ek : Nat->Ac->St->Rs) (n : Nat) ( v0 v1 v2 v41 : V) (S : St) : L52_14 self N nk ek (n + 1) v0 v1 v2 v41 S =
(qa4 E0 .lss 3 false true v41 (.int .i64 8)).bind fun t15 =>
ifK t15 (
(ixP 1 v2 v41).bind fun t21 =>
(ld1 t21 S).bind fun p22 =>
qax (self.f 80 [p22.1, (.fn (.func 82) [] [])] p22.2) fun t23 S23 =>
(ixA 8 1 false 1 v0 v41).bind fun t24 =>
(stP 1 t24 t23 S23).bind fun p25 =>
(qa4 E0 .add 3 false true v41 (.int .i64 1)).bind fun t26 =>
L52_14 self N nk ek n v0 v1 v2 t26 p25.2) (
ek 6 (fr 54 [(0, v0), (1, v1)]) S) := by kernel_rfl
theorem R52_4_eq (self : EV) (N : Nat) (nk : Ac->St->Rs) (ek : Nat->Ac->St->Rs) ( v0 v1 v2 : V) (S : St) : R52_4 self N nk ek (fr 54 [(0, v0), (1, v1), (2, v2)]) S =
L52_14 self N (R52_5 self N (fun a s => qaa [0, 1] a fun a => nk a s) ek) (exB 6 (R52_5 self N (fun a s => qaa [0, 1] a fun a => nk a s) ek) ek) N v0 v1 v2 (.int .i64 0) S := by kernel_rfl
noncomputable def L52_31 (self : EV) (N : Nat) (nk : Ac->St->Rs) (ek : Nat->Ac->St->Rs) (n : Nat) ( v0 v1 v2 v29 v30 v31 : V) (S : St) : Rs := qbf [0, 1, 2, 29, 30, 31] (dr E0 self RL52 N (B52.r.l.r.r.r.l.l.r.l.l)) (mkK E0 self Try.f52 nk ek) n (fr 54 [(0, v0), (1, v1), (2, v2), (29, v29), (30, v30), (31, v31)]) S
theorem L52_31_eq (self : EV) (N : Nat) (nk : Ac->St->Rs) (ek : Nat->Ac->St->Rs) (n : Nat) ( v0 v1 v2 v29 v30 v31 : V) (S : St) : L52_31 self N nk ek (n + 1) v0 v1 v2 v29 v30 v31 S =
(qa4 E0 .lss 3 false false v31 v30).bind fun t32 =>
ifK t32 (
(ixP 1 v29 v31).bind fun t34 =>
(ld1 t34 S).bind fun p35 =>
qax (self.f 80 [p35.1, (.fn (.func 81) [] [])] p35.2) fun t40 S40 =>
(ixA 64 1 false 1 v1 v31).bind fun t41 =>
(stP 1 t41 t40 S40).bind fun p42 =>
(qa4 E0 .add 3 false true v31 (.int .i64 1)).bind fun t43 =>
L52_31 self N nk ek n v0 v1 v2 v29 v30 t43 p42.2) (
ek 4 (fr 54 [(0, v0), (1, v1), (2, v2)]) S) := by kernel_rfl
theorem R52_3_eq (self : EV) (N : Nat) (nk : Ac->St->Rs) (ek : Nat->Ac->St->Rs) ( v0 v1 v2 : V) (S : St) : R52_3 self N nk ek (fr 54 [(0, v0), (1, v1), (2, v2)]) S =
(lnS v2 S).bind fun p29 =>
L52_31 self N (R52_4 self N (fun a s => qaa [0, 1] a fun a => nk a s) ek) (exB 4 (R52_4 self N (fun a s => qaa [0, 1] a fun a => nk a s) ek) ek) N v0 v1 v2 v2 p29.1 (.int .i64 0) p29.2 := by kernel_rfl
noncomputable def qip (self : EV) (N : Nat) (nk : Ac->St->Rs) (ek : Nat->Ac->St->Rs) (n : Nat) : Ac->St->Rs := fun a S => qaa [0, 1, 2, 3] a fun a => qbf [0, 1, 2, 3] (dr E0 self RL52 N (B52.r.l.r.r.l.r.l.l)) (mkK E0 self Try.f52 nk ek) n a S
noncomputable def L52_46 (self : EV) (N : Nat) (nk : Ac->St->Rs) (ek : Nat->Ac->St->Rs) (n : Nat) ( v0 v1 v2 v3 : V) (S : St) : Rs := qbf [0, 1, 2, 3] (dr E0 self RL52 N (B52.r.l.r.r.l.r.l.l)) (mkK E0 self Try.f52 nk ek) n (fr 54 [(0, v0), (1, v1), (2, v2), (3, v3)]) S
noncomputable def qiq (self : EV) (N : Nat) (nk : Ac->St->Rs) (ek : Nat->Ac->St->Rs) (a : Ac) (S : St) : Rs := qaa [0, 1, 2, 3] a fun a => dr E0 self RL52 N (B52.r.l.r.r.l.r.l.l.r).r (mkK E0 self Try.f52 nk ek) a S
theorem R52_50_eq (self : EV) (N : Nat) (nk : Ac->St->Rs) (ek : Nat->Ac->St->Rs) ( v0 v1 v2 v3 : V) (S : St) : qiq self N nk ek (fr 54 [(0, v0), (1, v1), (2, v2), (3, v3)]) S =
(qa4 E0 .add 96 false true v3 (.int .u64 1)).bind fun t52 =>
nk (fr 54 [(0, v0), (1, v1), (2, v2), (3, t52)]) S := by kernel_rfl
noncomputable def R52_54 (self : EV) (N : Nat) (nk : Ac->St->Rs) (ek : Nat->Ac->St->Rs) (a : Ac) (S : St) : Rs := qaa [0, 1, 2, 3] a fun a => dr E0 self RL52 N (B52.r.l.r.r.l.r.l.l.r.l.l).r (mkK E0 self Try.f52 nk ek) a S
theorem R52_54_eq (self : EV) (N : Nat) (nk : Ac->St->Rs) (ek : Nat->Ac->St->Rs) ( v0 v1 v2 v3 : V) (S : St) : R52_54 self N nk ek (fr 54 [(0, v0), (1, v1), (2, v2), (3, v3)]) S =
(bsP 96 1 1 (Ev.one (.int .u64 0)) [(0, v3)] S).bind fun p57 =>
(apP 96 1 8 v2 p57.1 p57.2).bind fun p58 =>
nk (fr 54 [(0, v0), (1, v1), (2, p58.1), (3, v3)]) p58.2 := by kernel_rfl
noncomputable def L52_63 (self : EV) (N : Nat) (nk : Ac->St->Rs) (ek : Nat->Ac->St->Rs) (n : Nat) ( v0 v1 v2 v3 v14 v15 v16 : V) (S : St) : Rs := qbf [0, 1, 2, 3, 14, 15, 16] (dr E0 self RL52 N (B52.r.l.r.r.l.r.l.l.r.l.l.l.r.l.l)) (mkK E0 self Try.f52 nk ek) n (fr 54 [(0, v0), (1, v1), (2, v2), (3, v3), (14, v14), (15, v15), (16, v16)]) S
theorem L52_63_eq (self : EV) (N : Nat) (nk : Ac->St->Rs) (ek : Nat->Ac->St->Rs) (n : Nat) ( v0 v1 v2 v3 v14 v15 v16 : V) (S : St) : L52_63 self N nk ek (n + 1) v0 v1 v2 v3 v14 v15 v16 S =
(qa4 E0 .lss 3 false false v16 v15).bind fun t64 =>
ifK t64 (
(ixP 1 v14 v16).bind fun t65 =>
(ld1 t65 S).bind fun p66 =>
(qa4 E0 .rem 96 false false v3 p66.1).bind fun t70 =>
(qa4 E0 .eql 96 false true t70 (.int .u64 0)).bind fun t71 =>
ifK t71 (
ek 1 (fr 54 [(0, v0), (1, v1), (2, v2), (3, v3)]) p66.2) (
(qa4 E0 .add 3 false true v16 (.int .i64 1)).bind fun t72 =>
L52_63 self N nk ek n v0 v1 v2 v3 v14 v15 t72 p66.2)) (
ek 2 (fr 54 [(0, v0), (1, v1), (2, v2), (3, v3)]) S) := by kernel_rfl
theorem qn5 (self : EV) (N : Nat) (nk : Ac->St->Rs) (ek : Nat->Ac->St->Rs) (n : Nat) ( v0 v1 v2 v3 : V) (S : St) : L52_46 self N nk ek (n + 1) v0 v1 v2 v3 S =
(lnS v2 S).bind fun p48 =>
(qa4 E0 .lss 3 false true p48.1 (.int .i64 64)).bind fun t49 =>
ifK t49 (
(lnS v2 p48.2).bind fun p61 =>
L52_63 self N (R52_54 self N (qiq self N (qip self N nk ek n) ek) (exB 1 (qiq self N (qip self N nk ek n) ek) ek)) (exB 2 (R52_54 self N (qiq self N (qip self N nk ek n) ek) (exB 1 (qiq self N (qip self N nk ek n) ek) ek)) (exB 1 (qiq self N (qip self N nk ek n) ek) ek)) N v0 v1 v2 v3 v2 p61.1 (.int .i64 0) p61.2) (
ek 0 (fr 54 [(0, v0), (1, v1), (2, v2)]) p48.2) := by kernel_rfl
theorem N52_46_eq (self : EV) (N : Nat) (nk : Ac->St->Rs) (ek : Nat->Ac->St->Rs) (n : Nat) ( v0 v1 v2 v3 : V) (S : St) : qip self N nk ek n (fr 54 [(0, v0), (1, v1), (2, v2), (3, v3)]) S = L52_46 self N nk ek n v0 v1 v2 v3 S := by kernel_rfl
noncomputable def F52 (self : EV) (N : Nat) (S : St) : Rs := qbu E0 self N Try.f52 B52 [] S
theorem F52_eq (self : EV) (N : Nat) (S : St) : F52 self N S =
(some (nwP 72 8 (Tr.ofListFrom .nil [(.int .u32 0), (.int .u32 0), (.int .u32 0), (.int .u32 0), (.int .u32 0), (.int .u32 0), (.int .u32 0), (.int .u32 0)] 0) S)).bind fun p0 =>
(some (nwP 73 64 (Tr.ofListFrom .nil [(.int .u32 0), (.int .u32 0), (.int .u32 0), (.int .u32 0), (.int .u32 0), (.int .u32 0), (.int .u32 0), (.int .u32 0), (.int .u32 0), (.int .u32 0), (.int .u32 0), (.int .u32 0), (.int .u32 0), (.int .u32 0), (.int .u32 0), (.int .u32 0), (.int .u32 0), (.int .u32 0), (.int .u32 0), (.int .u32 0), (.int .u32 0), (.int .u32 0), (.int .u32 0), (.int .u32 0), (.int .u32 0), (.int .u32 0), (.int .u32 0), (.int .u32 0), (.int .u32 0), (.int .u32 0), (.int .u32 0), (.int .u32 0), (.int .u32 0), (.int .u32 0), (.int .u32 0), (.int .u32 0), (.int .u32 0), (.int .u32 0), (.int .u32 0), (.int .u32 0), (.int .u32 0), (.int .u32 0), (.int .u32 0), (.int .u32 0), (.int .u32 0), (.int .u32 0), (.int .u32 0), (.int .u32 0), (.int .u32 0), (.int .u32 0), (.int .u32 0), (.int .u32 0), (.int .u32 0), (.int .u32 0), (.int .u32 0), (.int .u32 0), (.int .u32 0), (.int .u32 0), (.int .u32 0), (.int .u32 0), (.int .u32 0), (.int .u32 0), (.int .u32 0), (.int .u32 0)] 0) p0.2)).bind fun p1 =>
L52_46 self N (R52_3 self N (qak E0 self Try.f52) qa9) (exB 0 (R52_3 self N (qak E0 self Try.f52) qa9) qa9) N p0.1 p1.1 .nilslice (.int .u64 2) p1.2 := by kernel_rfl
noncomputable def C80 : Code := Try.f80.body.getD .skip
noncomputable def B80 : D := (qas C80 [[], [], [0, 1, 5, 6], [], [5], [], [], [], [0, 5], [4], []]).1
noncomputable def RL80 : List Nat := cellsOf Try.f80.results.toList
noncomputable def R80_3 (self : EV) (N : Nat) (nk : Ac->St->Rs) (ek : Nat->Ac->St->Rs) (a : Ac) (S : St) : Rs := qaa [5] a fun a => dr E0 self RL80 N (B80.r.r).r (mkK E0 self Try.f80 nk ek) a S
theorem R80_3_eq (self : EV) (N : Nat) (nk : Ac->St->Rs) (ek : Nat->Ac->St->Rs) ( v5 : V) (S : St) : R80_3 self N nk ek (fr 24 [(5, v5)]) S =
(cvI .u32 v5 S).bind fun p5 =>
some (.ret p5.1, p5.2) := by kernel_rfl
noncomputable def L80_7 (self : EV) (N : Nat) (nk : Ac->St->Rs) (ek : Nat->Ac->St->Rs) (n : Nat) ( v0 v1 v5 v6 : V) (S : St) : Rs := qbf [0, 1, 5, 6] (dr E0 self RL80 N (B80.r.r.l.l.l)) (mkK E0 self Try.f80 nk ek) n (fr 24 [(0, v0), (1, v1), (5, v5), (6, v6)]) S
theorem L80_7_eq (self : EV) (N : Nat) (nk : Ac->St->Rs) (ek : Nat->Ac->St->Rs) (n : Nat) ( v0 v1 v5 v6 : V) (S : St) : L80_7 self N nk ek (n + 1) v0 v1 v5 v6 S =
(qa4 E0 .sub 96 false false v6 v5).bind fun t10 =>
(qa4 E0 .gtr 96 false true t10 (.int .u64 1)).bind fun t11 =>
ifK t11 (
(qa4 E0 .add 96 false false v5 v6).bind fun t14 =>
(qa4 E0 .quo 96 false true t14 (.int .u64 2)).bind fun t15 =>
qax (qdl E0 self v1 [t15, v0] S) fun t20 S20 =>
ifK t20 (
L80_7 self N nk ek n v0 v1 v5 t15 S20) (
L80_7 self N nk ek n v0 v1 t15 v6 S20)) (
ek 0 (fr 24 [(5, v5)]) S) := by kernel_rfl
noncomputable def F80 (self : EV) (N : Nat) (x0 x1 : V) (S : St) : Rs := qbu E0 self N Try.f80 B80 [x0, x1] S
theorem F80_eq (self : EV) (N : Nat) (x0 x1 : V) (S : St) : F80 self N x0 x1 S =
L80_7 self N (R80_3 self N (qak E0 self Try.f80) qa9) (exB 0 (R80_3 self N (qak E0 self Try.f80) qa9) qa9) N x0 x1 (.int .u64 0) (.int .u64 68719476736) S := by kernel_rfl
end
end Go.Proofs.Ytmeohejdafbodaa.W
namespace Go.Proofs.Ytmeohejdafbodaa.W
open Go.Proofs.Ytmeohejdafbodaa.Ev
theorem qm4 : EnvOk Try.prog E0 := envOf_ok (by kernel_rfl) (by kernel_rfl) (by kernel_rfl) (fun p hp => by
 simp only [List.mem_cons, List.not_mem_nil, or_false] at hp;rcases hp with rfl | rfl
 . exact ⟨fun h => absurd h (by decide), fun h => absurd h (by decide), fun h => absurd h (by decide), fun _ args w => by kernel_rfl, fun h => absurd h (by decide)⟩
 . exact ⟨fun _ args w => by kernel_rfl, fun h => absurd h (by decide), fun h => absurd h (by decide), fun h => absurd h (by decide), fun h => absurd h (by decide)⟩
 ) (by kernel_rfl) (by kernel_rfl) (by kernel_rfl)
inductive Nd where
 | mk (name : List UInt8) (kind : Int) (exec : Bool) (data : List UInt8) (kids : List Nd)
def Nd.name : Nd->List UInt8 | .mk n _ _ _ _ => n
def Nd.kind : Nd->Int | .mk _ k _ _ _ => k
def Nd.exec : Nd->Bool | .mk _ _ e _ _ => e
def Nd.data : Nd->List UInt8 | .mk _ _ _ d _ => d
def Nd.kids : Nd->List Nd | .mk _ _ _ _ l => l
def qbh : List V->V
 | [] => .nilslice
 | x :: l => .list 5 (x :: l)
mutual
noncomputable def qde : Nd->V
 | .mk n k e d l => qmc [sv n, .int .i64 k, .bool e, sv d, qbh (qd3 l)]
noncomputable def qd3 : List Nd->List V
 | [] => []
 | x :: l => qde x :: qd3 l
end
noncomputable def qfd (x : Nd) : List V := [sv x.name, .int .i64 x.kind, .bool x.exec, sv x.data, qbh (qd3 x.kids)]
theorem qdz (x : Nd) : qde x = qmc (qfd x) := by cases x; simp only [qde, qfd, Nd.name, Nd.kind, Nd.exec, Nd.data, Nd.kids]
theorem qjx : ∀ l : List Nd, qd3 l = l.map qde
 | [] => rfl
 | x :: l => by rw [qd3, qjx l]; rfl
theorem qo1 (l : List Nd) : (qd3 l).length = l.length := by rw [qjx, lM]
mutual
def qgh : Nd->Nat
 | .mk _ _ _ _ l => 1 + qkt l
def qkt : List Nd->Nat
 | [] => 0
 | x :: l => qgh x + qkt l
end
mutual
def Nd.ok : Nd->Prop
 | .mk n k _ d l => n.length < 9223372036854775808/\(-9223372036854775808<=k/\k < 9223372036854775808)/\d.length<=3000/\l.length<=3000/\1 + qkt l < 4611686018427387904/\okL l
def okL : List Nd->Prop
 | [] => True
 | x :: l => x.ok/\okL l
end
theorem okL_iff : ∀ l : List Nd, okL l ↔ ∀ x ∈ l, x.ok
 | [] => by simp [okL]
 | x :: l => by simp [okL, okL_iff l]
structure NdOk (x : Nd) : Prop where
 name : x.name.length < 9223372036854775808
 kind : -9223372036854775808<=x.kind/\x.kind < 9223372036854775808
 data : x.data.length<=3000
 few : x.kids.length<=3000
 cnt : 1 + qkt x.kids < 4611686018427387904
 kids : ∀ y ∈ x.kids, y.ok
theorem Nd.ok.at {x : Nd} (h : x.ok) : NdOk x := by
 cases x with
 | mk n k e d l =>
  rw [Nd.ok] at h;obtain ⟨h1, h2, h3, h4, hc, h5⟩ := h;exact ⟨h1, h2, h3, h4, hc, (okL_iff l).1 h5⟩
theorem vAgg_inj {l m : List V} (h : qmc l = qmc m) : l = m := by
 unfold qmc at h;simp only [V.agg.injEq] at h;refine List.ext_getElem? fun i => ?_;rw [<- qmw l i, <- qmw m i, h.2]
theorem kidsV_inj : ∀ {l m : List V}, qbh l = qbh m->l = m
 | [], [], _ => rfl
 | [], _ :: _, h => by simp [qbh] at h
 | _ :: _, [], h => by simp [qbh] at h
 | _ :: _, _ :: _, h => by simpa [qbh] using h
mutual
theorem encN_inj : ∀ {x y : Nd}, qde x = qde y->x = y
 | .mk n k e d l, .mk n' k' e' d' l', h => by
  rw [qde, qde] at h;have h := vAgg_inj h;simp only [List.cons.injEq, V.int.injEq, V.bool.injEq, true_and, and_true] at h;obtain ⟨h1, h2, h3, h4, h5⟩ := h;rw [qks h1, h2, h3, qks h4, encL_inj (kidsV_inj h5)]
theorem encL_inj : ∀ {l m : List Nd}, qd3 l = qd3 m->l = m
 | [], [], _ => rfl
 | [], _ :: _, h => by simp [qd3] at h
 | _ :: _, [], h => by simp [qd3] at h
 | x :: l, y :: m, h => by
  simp only [qd3, List.cons.injEq] at h;rw [encN_inj h.1, encL_inj h.2]
end
section
variable {s : St}
structure NodeAt (s : St) (b : Nat) (x : Nd) : Prop where
 on : s.on = false
 bx : Bx s b 24 (qfd x)
theorem qm5 : 5 < big := by unfold big; decide
variable {b : Nat} {x : Nd}
theorem NodeAt.f0 (h : NodeAt s b x) : ld1 (.ptr b 0) s = some (sv x.name, s) := Bx.ld1 h.on h.bx 0 (by show 0 < 5; decide) qm5
theorem NodeAt.f1 (h : NodeAt s b x) : ld1 (.ptr b 1) s = some (.int .i64 x.kind, s) := Bx.ld1 h.on h.bx 1 (by show 1 < 5; decide) qm5
theorem NodeAt.f2 (h : NodeAt s b x) : ld1 (.ptr b 2) s = some (.bool x.exec, s) := Bx.ld1 h.on h.bx 2 (by show 2 < 5; decide) qm5
theorem NodeAt.f3 (h : NodeAt s b x) : ld1 (.ptr b 3) s = some (sv x.data, s) := Bx.ld1 h.on h.bx 3 (by show 3 < 5; decide) qm5
theorem NodeAt.f4 (h : NodeAt s b x) : ld1 (.ptr b 4) s = some (qbh (qd3 x.kids), s) := Bx.ld1 h.on h.bx 4 (by show 4 < 5; decide) qm5
theorem NodeAt.fA (h : NodeAt s b x) : ldA 5 (.ptr b 0) s = some (qde x, s) := by rw [qdz]; exact Bx.ldA h.on h.bx rfl qm5
theorem NodeAt.o0 (h : NodeAt s b x) : ld1 (.ptr b 0) (onS s) = some (sv x.name, rd s b 0 1) := Bx.ld1On h.on h.bx 0 (by show 0 < 5; decide) qm5
theorem NodeAt.o1 (h : NodeAt s b x) : ld1 (.ptr b 1) (onS s) = some (.int .i64 x.kind, rd s b 1 1) := Bx.ld1On h.on h.bx 1 (by show 1 < 5; decide) qm5
theorem NodeAt.o2 (h : NodeAt s b x) : ld1 (.ptr b 2) (onS s) = some (.bool x.exec, rd s b 2 1) := Bx.ld1On h.on h.bx 2 (by show 2 < 5; decide) qm5
theorem NodeAt.o3 (h : NodeAt s b x) : ld1 (.ptr b 3) (onS s) = some (sv x.data, rd s b 3 1) := Bx.ld1On h.on h.bx 3 (by show 3 < 5; decide) qm5
theorem NodeAt.o4 (h : NodeAt s b x) : ld1 (.ptr b 4) (onS s) = some (qbh (qd3 x.kids), rd s b 4 1) := Bx.ld1On h.on h.bx 4 (by show 4 < 5; decide) qm5
theorem NodeAt.oA (h : NodeAt s b x) : ldA 5 (.ptr b 0) (onS s) = some (qde x, rd s b 0 5) := by rw [qdz]; exact Bx.ldAOn h.bx rfl qm5
theorem NodeAt.grew {W : Nat->Prop} {t : St} (h : NodeAt s b x) (hb : b < s.next) (hw : ¬ W b) (g : Grew W s t) : NodeAt t b x := ⟨g.on.trans h.on, h.bx.grew hb hw g⟩
theorem qdc (ho : s.on = false) (x : Nd) : ∃ t, qm6 24 (qde x) s = some (.ptr s.next 0, t)/\NodeAt t s.next x/\Grew (fun _ => False) s t/\t.next = s.next + 1 := by
 obtain ⟨t, h1, h2, h3, h4⟩ := box_new ho 24 (qfd x);rw [qdz];exact ⟨t, h1, ⟨h3.on.trans ho, h2⟩, h3, h4⟩
theorem node_new (ho : s.on = false) (z : Tr V) (x : Nd) : ∃ t, stP 5 (.ptr s.next 0) (qde x) (nwP 24 5 z s).2 = some (.tuple [], t)/\NodeAt t s.next x/\Grew (fun _ => False) s t/\t.next = s.next + 1 := by
 obtain ⟨t, h1, h2, h3, h4⟩ := var_new ho 24 5 z (qfd x) rfl (by decide) qm5;rw [qdz];exact ⟨t, h1, ⟨h3.on.trans ho, h2⟩, h3, h4⟩
theorem qcj (l : List Nd) : lnS (qbh (qd3 l)) s = some (.int .i64 (l.length : Int), s) := by
 cases l with
 | nil => rfl
 | cons x l =>
  show some (V.int .i64 (.ofNat ((qde x :: qd3 l).length)), s) = _;rw [List.length_cons, qo1]; rfl
theorem qds (l : List Nd) (i : Nat) (h : i < l.length) : ixP 5 (qbh (qd3 l)) (.int .i64 (i : Int)) = some (.cptr (qde l[i])) := by
 cases l with
 | nil => simp at h
 | cons x l =>
  show ixP 5 (.list 5 (qd3 (x :: l))) _ = _;rw [ixP_list 5 (qd3 (x :: l)) .i64 i (by rw [qo1]; exact h) (by decide)]
  congr 2
  simp only [qjx, List.getElem_map]
theorem qj9 (x : Nd) : ldA 5 (.cptr (qde x)) s = some (qde x, s) := by rw [qdz]; exact ldA_cptr (qfd x)
theorem faP_kid (x : Nd) : faP 0 false 1 (.cptr (qde x)) = some (.cptr (sv x.name)) := by rw [qdz]; exact faP_cptr (qfd x) 0 (by show 0 < 5; decide)
theorem ld1_csv (l : List UInt8) : ld1 (.cptr (sv l)) s = some (sv l, s) := rfl
end
def qbv : Nat->Nd->Nat
 | 0, _ => 1
 | m + 1, x => if x.kind ≠ 2\/m = 0 then 1 else x.kids.foldl (fun d y => max d (1 + qbv m y)) 1
theorem qff {α : Type} (f : α->Nat) (B : Nat) : ∀ (l : List α) (d : Nat), d<=B->(∀ y ∈ l, 1 + f y<=B)->l.foldl (fun d y => max d (1 + f y)) d<=B
 | [], d, h, _ => h
 | y :: l, d, h, hl => qff f B l _ (Nat.max_le.2 ⟨h, hl y (List.mem_cons_self ..)⟩) fun z hz => hl z (mO _ hz)
theorem deepN_le : ∀ (m : Nat) (x : Nd), qbv m x<=m + 1
 | 0, x => by simp [qbv]
 | m + 1, x => by
  rw [qbv];split
  . omega
  . exact qff _ _ _ _ (by omega) fun y _ => by have := deepN_le m y; omega
structure DeepIn where
 m : Nat
 x : Nd
 h1 : 1<=m
 h2 : m<=14
 ok : x.ok
noncomputable def qo0 (p : DeepIn) : List V := [qde p.x, .int .i64 (p.m : Int)]
theorem qj4 {p q : DeepIn} (h : qo0 p = qo0 q) : p.m = q.m/\p.x = q.x := by
 simp only [qo0, List.cons.injEq, V.int.injEq, true_and, and_true] at h;exact ⟨by omega, encN_inj h.1⟩
noncomputable def qp2 (p : DeepIn) : En := .ret (.int .i64 (qbv p.m p.x : Int))
noncomputable def kfDeep : KF := qdb qo0 qp2
theorem kfDeep_run (m : Nat) (x : Nd) (h1 : 1<=m) (h2 : m<=14) (ok : x.ok) (S : St) : kfDeep.run [qde x, .int .i64 (m : Int)] S = some (.ret (.int .i64 (qbv m x : Int)), S) :=
 qcf (enc := qo0) (out := qp2) (fun p q h => by obtain ⟨h1, h2⟩ := qj4 h; unfold qp2; rw [h1, h2]) ⟨m, x, h1, h2, ok⟩ S
theorem L70_spec (self : EV) (N : Nat) (nk : Ac->St->Rs) (ek : Nat->Ac->St->Rs) (all : List Nd) (hall : all.length<=3000) (m : Nat) (hm : m<=14)
 (hself : ∀ x ∈ all, ∀ s, self.f 75 [qde x, .int .i64 (m : Int)] s = some (.ret (.int .i64 (qbv m x : Int)), s)) :
 ∀ (r : List Nd) (i d n : Nat) (S : St), all.drop i = r->r.length < n->S.on = false->d<=100 ->
 ∃ S', L75_19 self N nk ek n (.int .i64 ((m + 1 : Nat) : Int)) (.int .i64 (d : Int)) (qbh (qd3 all)) (.int .i64 (all.length : Int)) (.int .i64 (i : Int)) S = ek 0 (fr 32 [(5, .int .i64 ((r.foldl (fun d y => max d (1 + qbv m y)) d : Nat) : Int))]) S'/\Grew (fun _ => False) S S'
 | r, i, d, 0, S, _, hn, _, _ => by omega
 | [], i, d, n + 1, S, hi, hn, ho, hd => by
  rw [L75_19_eq, binV_ii, intsV_lss];have : all.length<=i := List.drop_eq_nil_iff.1 hi;rw [show decide ((i : Int) < (all.length : Int)) = false by simp; omega];exact ⟨S, rfl, Grew.refl _ _⟩
 | x :: r, i, d, n + 1, S, hi, hn, ho, hd => by
  have hlt : i < all.length := by
   rcases Nat.lt_or_ge i all.length with h | h
   . exact h
   . rw [List.drop_eq_nil_of_le h] at hi; cases hi
  rw [List.drop_eq_getElem_cons hlt] at hi;simp only [List.cons.injEq] at hi;obtain ⟨hx, hr⟩ := hi;rw [L75_19_eq, binV_ii, intsV_lss, show decide ((i : Int) < (all.length : Int)) = true by simp; omega];simp only [oB, ifK_bool, cT];rw [qds all i hlt, hx];simp only [oB, qj9, qfv];obtain ⟨S1, k1, k2, k3, k4⟩ := node_new ho (Tr.ofListFrom .nil [(sv []), (.int .i64 0), (.bool false), (sv []), .nilslice] 0) x;rw [k1];simp only [oB, k2.fA, binV_ii, intsV_sub];rw [show ((m + 1 : Nat) : Int) - 1 = (m : Int) by omega, qb8 (by omega) (by omega)];rw [hself x (hx ▸ List.getElem_mem hlt)];have hb := deepN_le m x;simp only [callP_ret, binV_ii, intsV_add, oB];rw [show (1 : Int) + (qbv m x : Int) = ((1 + qbv m x : Nat) : Int) by omega, qb8 (by omega) (by omega)];rw [foldK_max, show max (d : Int) ((1 + qbv m x : Nat) : Int) = ((max d (1 + qbv m x) : Nat) : Int) by omega];simp only [oB];rw [show (i : Int) + 1 = ((i + 1 : Nat) : Int) by omega, qb8 (by omega) (by omega)];obtain ⟨S', h1, h2⟩ := L70_spec self N nk ek all hall m hm hself r (i + 1) (max d (1 + qbv m x)) n S1 hr (by simp at hn; omega) k2.on (by omega);exact ⟨S', by rw [h1]; rfl, k3.trans h2⟩
theorem F70_spec (self : EV) (x : Nd) (ok : x.ok) (m : Nat) (hm : m + 1<=14) (hself : ∀ y ∈ x.kids, ∀ s, 1<=m->self.f 75 [qde y, .int .i64 (m : Int)] s = some (.ret (.int .i64 (qbv m y : Int)), s)) (S : St) (ho : S.on = false) :
 ∃ S', F75 self qa1 (qde x) (.int .i64 ((m + 1 : Nat) : Int)) S = some (.ret (.int .i64 (qbv (m + 1) x : Int)), S')/\Grew (fun _ => False) S S' := by
 obtain ⟨S1, k1, k2, k3, k4⟩ := qdc ho x;have hok := ok.at
 rw [F75_eq, k1];simp only [oB, faP_ptr, Nat.zero_add, k2.f1, binV_ii, intsV_neq];rw [qbv];by_cases hk : x.kind = 2
 . rw [hk]
   simp only [ne_eq, not_true_eq_false, decide_true, decide_false, oB, qab, qal, qao, Bool.not_true, nF, cT, binV_ii, intsV_eql, qag, cF, false_or];by_cases hm0 : m = 0
   . subst hm0
     exact ⟨S1, rfl, k3⟩
   . rw [show decide (((m + 1 : Nat) : Int) = 1) = false by simp; omega, iN hm0]
     simp only [ifK_bool, cF, k2.f4, oB, qcj];obtain ⟨S', h1, h2⟩ := L70_spec self qa1 (R75_12 self qa1 (qak E0 self Try.f75) qa9) (exB 0 (R75_12 self qa1 (qak E0 self Try.f75) qa9) qa9) x.kids hok.few m (by omega) (fun y hy s => hself y hy s (by omega)) x.kids 0 1 qa1 S1 rfl (by have := hok.few; unfold qa1; omega) k2.on (by omega);refine ⟨S', ?_, k3.trans h2⟩;rw [show ((0 : Nat) : Int) = 0 from rfl, show ((1 : Nat) : Int) = 1 from rfl] at h1;rw [h1, exB_same, R75_12_eq]
 . simp only [ne_eq, hk, not_false_eq_true, decide_true, decide_false, nF, oB, qab, qal, qao, Bool.not_true, cF, qag, cT, ifK_bool, true_or, if_true]
   exact ⟨S1, rfl, k3⟩
theorem kn70 {K : FuncId->Option KF} (hK : KnOk Try.prog E0 K) : KnWell Try.prog E0 75 kfDeep :=
 qii (fn := Try.f75) (c := C75) (d := B75) (fun p : DeepIn => p.m) (fun p q h => by obtain ⟨h1, h2⟩ := qj4 h; unfold qp2; rw [h1, h2]; exact ⟨rfl, rfl⟩) qm4 hK (by kernel_rfl) (by kernel_rfl) (qa3 C75 _ (by kernel_rfl)) fun K' _ p s hself ho => by
  obtain ⟨m, hm⟩ : ∃ m, p.m = m + 1 := ⟨p.m - 1, by have := p.h1; omega⟩
  obtain ⟨S', h1, h2⟩ := F70_spec (ev E0 K' 1) p.x p.ok m (by have := p.h2; omega) (fun y hy s h1m => hself ⟨m, y, h1m, by have := p.h2; omega, p.ok.at.kids y hy⟩ s 0 (by show m < p.m; omega)) s ho;rw [<- hm] at h1;exact ⟨1, .ret (.int .i64 (qbv p.m p.x : Int)), S', h1, h2, Fz.same (.int _ _)⟩
theorem L57_spec (self : EV) (N : Nat) (nk : Ac->St->Rs) (ek : Nat->Ac->St->Rs) (x : Nd) (b : Nat) (hall : x.kids.length<=3000) (m : Nat) (hm : m<=14)
 (hself : ∀ y ∈ x.kids, ∀ s, self.f 73 [qde y, .int .i64 (m : Int)] s = some (.ret (.int .i64 (qbv m y : Int)), s)) (S : St) (hx : NodeAt S b x) :
 ∀ (r : List Nd) (i d n : Nat), x.kids.drop i = r->r.length < n->d<=100 ->
 L73_15 self N nk ek n (.int .i64 ((m + 1 : Nat) : Int)) (.ptr b 0) (.int .i64 (d : Int)) (.int .i64 (i : Int)) S = ek 0 (fr 33 [(5, .int .i64 ((r.foldl (fun d y => max d (1 + qbv m y)) d : Nat) : Int))]) S
 | r, i, d, 0, _, hn, _ => by omega
 | [], i, d, n + 1, hi, hn, hd => by
  have : x.kids.length<=i := List.drop_eq_nil_iff.1 hi;rw [L73_15_eq];simp only [faP_ptr, oB, Nat.zero_add, hx.f4, qcj, binV_ii, intsV_lss];rw [show decide ((i : Int) < (x.kids.length : Int)) = false by simp; omega];rfl
 | y :: r, i, d, n + 1, hi, hn, hd => by
  have hlt : i < x.kids.length := by
   rcases Nat.lt_or_ge i x.kids.length with h | h
   . exact h
   . rw [List.drop_eq_nil_of_le h] at hi; cases hi
  rw [List.drop_eq_getElem_cons hlt] at hi;simp only [List.cons.injEq] at hi;obtain ⟨hy, hr⟩ := hi;rw [L73_15_eq];simp only [faP_ptr, oB, Nat.zero_add, hx.f4, qcj, binV_ii, intsV_lss];rw [show decide ((i : Int) < (x.kids.length : Int)) = true by simp; omega];simp only [ifK_bool, cT];rw [qds x.kids i hlt, hy];simp only [oB, qj9, binV_ii, intsV_sub];rw [show ((m + 1 : Nat) : Int) - 1 = (m : Int) by omega, qb8 (by omega) (by omega), hself y (hy ▸ List.getElem_mem hlt)];have hb := deepN_le m y;simp only [callP_ret, binV_ii, intsV_add, oB];rw [show (1 : Int) + (qbv m y : Int) = ((1 + qbv m y : Nat) : Int) by omega, qb8 (by omega) (by omega)];rw [foldK_max, show max (d : Int) ((1 + qbv m y : Nat) : Int) = ((max d (1 + qbv m y) : Nat) : Int) by omega];simp only [oB];rw [show (i : Int) + 1 = ((i + 1 : Nat) : Int) by omega, qb8 (by omega) (by omega)];rw [L57_spec self N nk ek x b hall m hm hself S hx r (i + 1) (max d (1 + qbv m y)) n hr (by simp at hn; omega) (by omega)];rfl
theorem F57_spec (self : EV) (x : Nd) (ok : x.ok) (m : Nat) (hm : m + 1<=14) (hself : ∀ y ∈ x.kids, ∀ s, 1<=m->self.f 73 [qde y, .int .i64 (m : Int)] s = some (.ret (.int .i64 (qbv m y : Int)), s)) (S : St) (ho : S.on = false) :
 ∃ S', F73 self qa1 (qde x) (.int .i64 ((m + 1 : Nat) : Int)) S = some (.ret (.int .i64 (qbv (m + 1) x : Int)), S')/\Grew (fun _ => False) S S' := by
 obtain ⟨S1, k1, k2, k3, k4⟩ := qdc ho x;have hok := ok.at
 rw [F73_eq, k1];simp only [oB, faP_ptr, Nat.zero_add, k2.f1, binV_ii, intsV_neq];rw [qbv];by_cases hk : x.kind = 2
 . rw [hk]
   simp only [ne_eq, not_true_eq_false, decide_true, decide_false, oB, qab, qal, qao, Bool.not_true, nF, cT, binV_ii, intsV_eql, qag, cF, false_or];by_cases hm0 : m = 0
   . subst hm0
     exact ⟨S1, rfl, k3⟩
   . rw [show decide (((m + 1 : Nat) : Int) = 1) = false by simp; omega, iN hm0]
     simp only [ifK_bool, cF];have h1 := L57_spec self qa1 (R73_11 self qa1 (qak E0 self Try.f73) qa9) (exB 0 (R73_11 self qa1 (qak E0 self Try.f73) qa9) qa9) x S.next hok.few m (by omega) (fun y hy s => hself y hy s (by omega)) S1 k2 x.kids 0 1 qa1 rfl (by have := hok.few; unfold qa1; omega) (by omega)
     refine ⟨S1, ?_, k3⟩;rw [show ((0 : Nat) : Int) = 0 from rfl, show ((1 : Nat) : Int) = 1 from rfl] at h1;rw [h1, exB_same, R73_11_eq]
 . simp only [ne_eq, hk, not_false_eq_true, decide_true, decide_false, nF, oB, qab, qal, qao, Bool.not_true, cF, qag, cT, ifK_bool, true_or, if_true]
   exact ⟨S1, rfl, k3⟩
theorem kn57 {K : FuncId->Option KF} (hK : KnOk Try.prog E0 K) : KnWell Try.prog E0 73 kfDeep :=
 qii (fn := Try.f73) (c := C73) (d := B73) (fun p : DeepIn => p.m) (fun p q h => by obtain ⟨h1, h2⟩ := qj4 h; unfold qp2; rw [h1, h2]; exact ⟨rfl, rfl⟩) qm4 hK (by kernel_rfl) (by kernel_rfl) (qa3 C73 _ (by kernel_rfl)) fun K' _ p s hself ho => by
  obtain ⟨m, hm⟩ : ∃ m, p.m = m + 1 := ⟨p.m - 1, by have := p.h1; omega⟩
  obtain ⟨S', h1, h2⟩ := F57_spec (ev E0 K' 1) p.x p.ok m (by have := p.h2; omega) (fun y hy s h1m => hself ⟨m, y, h1m, by have := p.h2; omega, p.ok.at.kids y hy⟩ s 0 (by show m < p.m; omega)) s ho;rw [<- hm] at h1;exact ⟨1, .ret (.int .i64 (qbv p.m p.x : Int)), S', h1, h2, Fz.same (.int _ _)⟩
structure NodeIn where
 x : Nd
 ok : x.ok
noncomputable def qo2 (p : NodeIn) : List V := [qde p.x]
theorem qo3 {p q : NodeIn} (h : qo2 p = qo2 q) : p.x = q.x := by
 simp only [qo2, List.cons.injEq, and_true] at h;exact encN_inj h
noncomputable def qbc (g : Nd->V) : KF := qdb qo2 (fun p : NodeIn => En.ret (g p.x))
theorem qbq (g : Nd->V) (x : Nd) (ok : x.ok) (S : St) : (qbc g).run [qde x] S = some (.ret (g x), S) :=
 qcf (enc := qo2) (out := fun p : NodeIn => En.ret (g p.x)) (fun p q h => by rw [qo3 h]) ⟨x, ok⟩ S
theorem knNode {K : FuncId->Option KF} (hK : KnOk Try.prog E0 K) {f : FuncId} {fn : Func} {c : Code} {d : D} (g : Nd->V) (hu : ∀ n x, Under n (g x)) (hf : E0.fns.get f = some fn) (hb : fn.body = some c) (hd : qmj d c)
 (n : Nat) (h : ∀ x S, x.ok->S.on = false->∃ S', qbu E0 (ev E0 K n) qa1 fn d [qde x] S = some (.ret (g x), S')/\Grew (fun _ => False) S S') : KnWell Try.prog E0 f (qbc g) :=
 qcs qm4 hK hf hb hd fun p s ho => by
  obtain ⟨S', h1, h2⟩ := h p.x s p.ok ho;exact ⟨n, .ret (g p.x), S', h1, h2, Fz.same (hu _ _)⟩
theorem qic {K : FuncId->Option KF} (hK : KnOk Try.prog E0 K) {f : FuncId} {fn : Func} {c : Code} {d : D} (g : Nd->V) (hu : ∀ n x, Under n (g x)) (hf : E0.fns.get f = some fn) (hb : fn.body = some c) (hd : qmj d c)
 (n : Nat) (h : ∀ K', (∀ q, q ≠ f->K' q = K q)->∀ x S, x.ok->(∀ y s m, y ∈ x.kids->(ev E0 K' (m + 1)).f f [qde y] s = some (.ret (g y), s))->S.on = false->∃ S', qbu E0 (ev E0 K' n) qa1 fn d [qde x] S = some (.ret (g x), S')/\Grew (fun _ => False) S S') : KnWell Try.prog E0 f (qbc g) :=
 qii (fun p : NodeIn => SizeOf.sizeOf p.x) (fun p q h => by rw [qo3 h]; exact ⟨rfl, rfl⟩) qm4 hK hf hb hd fun K' hK' p s hself ho => by
  obtain ⟨S', h1, h2⟩ := h K' hK' p.x s p.ok (fun y s m hy => hself ⟨y, p.ok.at.kids y hy⟩ s m (by
   show SizeOf.sizeOf y < SizeOf.sizeOf p.x;have := List.sizeOf_lt_of_mem hy;cases hp : p.x with
   | mk n k e d l =>
    rw [hp] at this;simp only [Nd.kids] at this;simp only [Nd.mk.sizeOf_spec]
    omega)) ho
  exact ⟨n, .ret (g p.x), S', h1, h2, Fz.same (hu _ _)⟩
noncomputable def qm9 (x : Nd) : V := .int .i64 (qbv 14 x : Int)
theorem kn58 {K : FuncId->Option KF} (hK : KnOk Try.prog E0 K) (h70 : K 75 = some kfDeep) : KnWell Try.prog E0 42 (qbc qm9) :=
 knNode hK (c := C42) (d := B42) qm9 (fun _ _ => .int _ _) (by kernel_rfl) (by kernel_rfl) (qa3 C42 _ (by kernel_rfl)) 1 fun x S ok ho => by
  obtain ⟨S1, k1, k2, k3, k4⟩ := qdc ho x;refine ⟨S1, (?_ : F42 (ev E0 K 1) qa1 (qde x) S = _), k3⟩;rw [F42_eq, k1];simp only [oB, k2.fA];rw [show (V.int .i64 14) = .int .i64 ((14 : Nat) : Int) from rfl, qaq h70, kfDeep_run 14 x (by omega) (by omega) ok];rfl
theorem kn34 {K : FuncId->Option KF} (hK : KnOk Try.prog E0 K) (h57 : K 73 = some kfDeep) : KnWell Try.prog E0 36 (qbc qm9) :=
 knNode hK (c := C36) (d := B36) qm9 (fun _ _ => .int _ _) (by kernel_rfl) (by kernel_rfl) (qa3 C36 _ (by kernel_rfl)) 1 fun x S ok ho => by
  obtain ⟨S1, k1, k2, k3, k4⟩ := qdc ho x;refine ⟨S1, (?_ : F36 (ev E0 K 1) qa1 (qde x) S = _), k3⟩;rw [F36_eq, k1];simp only [oB, k2.fA];rw [show (V.int .i64 14) = .int .i64 ((14 : Nat) : Int) from rfl, qaq h57, kfDeep_run 14 x (by omega) (by omega) ok];rfl
def qbs (x : Nd) : Bool := decide (12 < qbv 14 x)
noncomputable def qdq (x : Nd) : V := .bool (qbs x)
theorem kn35 {K : FuncId->Option KF} (hK : KnOk Try.prog E0 K) (h58 : K 42 = some (qbc qm9)) : KnWell Try.prog E0 24 (qbc qdq) :=
 knNode hK (c := C24) (d := B24) qdq (fun _ _ => .bool _) (by kernel_rfl) (by kernel_rfl) (qa3 C24 _ (by kernel_rfl)) 1 fun x S ok ho => by
  obtain ⟨S1, k1, k2, k3, k4⟩ := qdc ho x;refine ⟨S1, (?_ : F24 (ev E0 K 1) qa1 (qde x) S = _), k3⟩;rw [F24_eq, k1];simp only [oB, k2.fA];rw [qaq h58, qbq _ x ok];simp only [callP_ret, qm9, binV_ii, intsV_gtr, oB, qdq, qbs];rw [show decide ((12 : Int) < (qbv 14 x : Int)) = decide (12 < qbv 14 x) by rw [decide_eq_decide]; omega]
abbrev wr (n : Int) : Int := IntKind.i64.wrap n
theorem wr_range (n : Int) : -9223372036854775808<=wr n/\wr n < 9223372036854775808 := by
 unfold wr IntKind.wrap;have h1 : ((2 : Int) ^ IntKind.i64.bits) = 18446744073709551616 := by decide
 have h2 : ((2 : Int) ^ (IntKind.i64.bits - 1)) = 9223372036854775808 := by decide
 simp only [h1, h2, show IntKind.i64.signed = true from rfl, Bool.true_and, decide_eq_true_eq];split <;> omega
theorem wr_wr (n : Int) : wr (wr n) = wr n := qb8 (wr_range n).1 (wr_range n).2
mutual
def qeb : Nd->Int × Int
 | .mk _ _ _ d l => qf8 l (1, (d.length : Int))
def qf8 : List Nd->Int × Int->Int × Int
 | [], a => a
 | x :: l, a => qf8 l (if qbs x then a else (wr (a.1 + (qeb x).1), wr (a.2 + (qeb x).2)))
end
theorem qgo (x : Nd) : qeb x = qf8 x.kids (1, (x.data.length : Int)) := by cases x; rw [qeb]; rfl
noncomputable def gSize (x : Nd) : V := .tuple [.int .i64 (qeb x).1, .int .i64 (qeb x).2]
def sizeT (x : Nd) : Int × Int := if qbs x then (0, 0) else qeb x
noncomputable def qfg (x : Nd) : V := .tuple [.int .i64 (sizeT x).1, .int .i64 (sizeT x).2]
theorem qpu (n : Nat) (a b : V) (ha : Under n a) (hb : Under n b) : Under n (.tuple [a, b]) := .tuple (.cons ha (.cons hb .nil))
theorem qcn {α : Type} {l r : List α} {i : Nat} {y : α} (h : l.drop i = y :: r) : ∃ hlt : i < l.length, l[i] = y/\l.drop (i + 1) = r/\y ∈ l := by
 have hlt : i < l.length := by
  rcases Nat.lt_or_ge i l.length with h' | h'
  . exact h'
  . rw [List.drop_eq_nil_of_le h'] at h; cases h
 rw [List.drop_eq_getElem_cons hlt] at h;simp only [List.cons.injEq] at h;exact ⟨hlt, h.1, h.2, h.1 ▸ List.getElem_mem hlt⟩
theorem qbm {α : Type} {l : List α} {i : Nat} (h : l.drop i = []) : l.length<=i := List.drop_eq_nil_iff.1 h
theorem qfz {a b : Nat} (h : a < b) : decide ((a : Int) < (b : Int)) = true := by simp; omega
theorem qgx {a b : Nat} (h : b<=a) : decide ((a : Int) < (b : Int)) = false := by simp; omega
theorem qbt {i : Nat} (h : i < 9223372036854775807) : IntKind.i64.wrap ((i : Int) + 1) = ((i + 1 : Nat) : Int) := by
 rw [qb8 (by omega) (by omega)]; omega
theorem L38_spec (self : EV) (N : Nat) (nk : Ac->St->Rs) (ek : Nat->Ac->St->Rs) (all : List Nd) (hall : all.length<=3000)
 (h35 : ∀ y ∈ all, ∀ s, self.f 24 [qde y] s = some (.ret (qdq y), s)) (h38 : ∀ y ∈ all, ∀ s, self.f 51 [qde y] s = some (.ret (gSize y), s)) :
 ∀ (r : List Nd) (i n : Nat) (a : Int × Int) (S : St), all.drop i = r->r.length < n->S.on = false ->
 ∃ S', L51_17 self N nk ek n (.int .i64 a.1) (.int .i64 a.2) (qbh (qd3 all)) (.int .i64 (all.length : Int)) (.int .i64 (i : Int)) S = ek 0 (fr 34 [(2, .int .i64 (qf8 r a).1), (3, .int .i64 (qf8 r a).2)]) S'/\Grew (fun _ => False) S S'
 | r, i, 0, a, S, _, hn, _ => by omega
 | [], i, n + 1, a, S, hi, hn, ho => by
  rw [L51_17_eq, binV_ii, intsV_lss, qgx (qbm hi)];exact ⟨S, by rw [qf8]; rfl, Grew.refl _ _⟩
 | x :: r, i, n + 1, a, S, hi, hn, ho => by
  obtain ⟨hlt, hx, hr, hmem⟩ := qcn hi;rw [L51_17_eq, binV_ii, intsV_lss, qfz hlt];simp only [oB, ifK_bool, cT];rw [qds all i hlt, hx];simp only [oB, qj9, qfv];obtain ⟨S1, k1, k2, k3, k4⟩ := node_new ho (Tr.ofListFrom .nil [(sv []), (.int .i64 0), (.bool false), (sv []), .nilslice] 0) x;rw [k1];simp only [oB, k2.fA];rw [h35 x hmem, qf8];simp only [callP_ret, qdq, ifK_bool];cases htd : qbs x with
  | true =>
   simp only [cT, binV_ii, intsV_add, oB, qbt (show i < 9223372036854775807 by omega)];obtain ⟨S', h1, h2⟩ := L38_spec self N nk ek all hall h35 h38 r (i + 1) n a S1 hr (by simp at hn; omega) k2.on;exact ⟨S', by rw [h1]; rfl, k3.trans h2⟩
  | false =>
   simp only [cF, k2.fA, oB];rw [h38 x hmem];simp only [callP_ret, gSize, qac, List.getElem?_cons_zero, List.getElem?_cons_succ, oB, binV_ii, intsV_add, qbt (show i < 9223372036854775807 by omega)];obtain ⟨S', h1, h2⟩ := L38_spec self N nk ek all hall h35 h38 r (i + 1) n (wr (a.1 + (qeb x).1), wr (a.2 + (qeb x).2)) S1 hr (by simp at hn; omega) k2.on;exact ⟨S', by rw [h1]; rfl, k3.trans h2⟩
theorem kn38 {K : FuncId->Option KF} (hK : KnOk Try.prog E0 K) (h35 : K 24 = some (qbc qdq)) : KnWell Try.prog E0 51 (qbc gSize) :=
 qic hK (fn := Try.f51) (c := C51) (d := B51) gSize (fun _ _ => qpu _ _ _ (.int _ _) (.int _ _)) (by kernel_rfl) (by kernel_rfl) (qa3 C51 _ (by kernel_rfl)) 1 fun K' hK' x S ok hself ho => by
  obtain ⟨S1, k1, k2, k3, k4⟩ := qdc ho x
  obtain ⟨S', h1, h2⟩ := L38_spec (ev E0 K' 1) qa1 (R51_8 (ev E0 K' 1) qa1 (qak E0 (ev E0 K' 1) Try.f51) qa9) (exB 0 (R51_8 (ev E0 K' 1) qa1 (qak E0 (ev E0 K' 1) Try.f51) qa9) qa9) x.kids ok.at.few
   (fun y hy s => by rw [qaq (show K' 24 = _ by rw [hK' 24 (by decide)]; exact h35), qbq _ y (ok.at.kids y hy)]) (fun y hy s => hself y s 0 hy) x.kids 0 qa1 (1, (x.data.length : Int)) S1 rfl (by have := ok.at.few; unfold qa1; omega) k2.on
  refine ⟨S', (?_ : F51 (ev E0 K' 1) qa1 (qde x) S = _), k3.trans h2⟩;rw [F51_eq, k1];simp only [oB, faP_ptr, Nat.zero_add, k2.o3, qh2, qd4, lnStr_sv, qc3 k2.on, k2.f4, qcj];rw [show ((0 : Nat) : Int) = 0 from rfl] at h1;dsimp only at h1;rw [h1, exB_same, R51_8_eq, gSize, qgo]
theorem kn17 {K : FuncId->Option KF} (hK : KnOk Try.prog E0 K) (h35 : K 24 = some (qbc qdq)) (h38 : K 51 = some (qbc gSize)) : KnWell Try.prog E0 26 (qbc qfg) :=
 knNode hK (fn := Try.f26) (c := C26) (d := B26) qfg (fun _ _ => qpu _ _ _ (.int _ _) (.int _ _)) (by kernel_rfl) (by kernel_rfl) (qa3 C26 _ (by kernel_rfl)) 1 fun x S ok ho => by
  obtain ⟨S1, k1, k2, k3, k4⟩ := qdc ho x;refine ⟨S1, (?_ : F26 (ev E0 K 1) qa1 (qde x) S = _), k3⟩;rw [F26_eq, k1];simp only [oB, k2.fA];rw [qaq h35, qbq _ x ok];simp only [callP_ret, qdq, ifK_bool, qfg, sizeT];cases htd : qbs x with
  | true => rfl
  | false =>
   simp only [cF, k2.fA, oB, Bool.false_eq_true, if_false];rw [qaq h38, qbq _ x ok];rfl
theorem L45_spec (self : EV) (N : Nat) (nk : Ac->St->Rs) (ek : Nat->Ac->St->Rs) (x : Nd) (b : Nat) (hall : x.kids.length<=3000)
 (h45 : ∀ y ∈ x.kids, ∀ s, self.f 38 [qde y] s = some (.ret (qfg y), s)) (S : St) (hx : NodeAt S b x) :
 ∀ (r : List Nd) (i n : Nat) (a : Int × Int), x.kids.drop i = r->r.length < n->wr a.1 = a.1->wr a.2 = a.2 ->
 L38_19 self N nk ek n (.ptr b 0) (.int .i64 a.1) (.int .i64 a.2) (.int .i64 (i : Int)) S = ek 0 (fr 39 [(4, .int .i64 (qf8 r a).1), (5, .int .i64 (qf8 r a).2)]) S
 | r, i, 0, a, _, hn, _, _ => by omega
 | [], i, n + 1, a, hi, hn, _, _ => by
  rw [L38_19_eq];simp only [faP_ptr, oB, Nat.zero_add, hx.f4, qcj, binV_ii, intsV_lss, qgx (qbm hi), qf8];rfl
 | y :: r, i, n + 1, a, hi, hn, ha1, ha2 => by
  obtain ⟨hlt, hy, hr, hmem⟩ := qcn hi;rw [L38_19_eq];simp only [faP_ptr, oB, Nat.zero_add, hx.f4, qcj, binV_ii, intsV_lss, qfz hlt, ifK_bool, cT];rw [qds x.kids i hlt, hy];simp only [oB, qj9];rw [h45 y hmem, qf8];simp only [callP_ret, qfg, qac, List.getElem?_cons_zero, List.getElem?_cons_succ, oB, binV_ii, intsV_add, qbt (show i < 9223372036854775807 by omega), sizeT];cases htd : qbs y with
  | true =>
   simp only [if_true, Int.add_zero];rw [show IntKind.i64.wrap a.1 = a.1 from ha1, show IntKind.i64.wrap a.2 = a.2 from ha2];exact L45_spec self N nk ek x b hall h45 S hx r (i + 1) n a hr (by simp at hn; omega) ha1 ha2
  | false =>
   simp only [Bool.false_eq_true, if_false];exact L45_spec self N nk ek x b hall h45 S hx r (i + 1) n (wr (a.1 + (qeb y).1), wr (a.2 + (qeb y).2)) hr (by simp at hn; omega) (wr_wr _) (wr_wr _)
theorem kn45 {K : FuncId->Option KF} (hK : KnOk Try.prog E0 K) (h34 : K 36 = some (qbc qm9)) : KnWell Try.prog E0 38 (qbc qfg) :=
 qic hK (fn := Try.f38) (c := C38) (d := B38) qfg (fun _ _ => qpu _ _ _ (.int _ _) (.int _ _)) (by kernel_rfl) (by kernel_rfl) (qa3 C38 _ (by kernel_rfl)) 1 fun K' hK' x S ok hself ho => by
  obtain ⟨S1, k1, k2, k3, k4⟩ := qdc ho x;refine ⟨S1, (?_ : F38 (ev E0 K' 1) qa1 (qde x) S = _), k3⟩;rw [F38_eq, k1];simp only [oB, k2.fA];rw [qaq (show K' 36 = _ by rw [hK' 36 (by decide)]; exact h34), qbq _ x ok];simp only [callP_ret, qm9, binV_ii, intsV_gtr, oB, ifK_bool];rw [show decide ((12 : Int) < (qbv 14 x : Int)) = qbs x by unfold qbs; rw [decide_eq_decide]; omega];simp only [qfg, sizeT];cases htd : qbs x with
  | true => rfl
  | false =>
   have hd := ok.at.data;simp only [cF, faP_ptr, oB, Nat.zero_add, k2.o3, qh2, qd4, lnStr_sv, qc3 k2.on, Bool.false_eq_true, if_false]
   have h1 := L45_spec (ev E0 K' 1) qa1 (R38_13 (ev E0 K' 1) qa1 (qak E0 (ev E0 K' 1) Try.f38) qa9) (exB 0 (R38_13 (ev E0 K' 1) qa1 (qak E0 (ev E0 K' 1) Try.f38) qa9) qa9) x S.next ok.at.few
    (fun y hy s => hself y s 0 hy) S1 k2 x.kids 0 qa1 (1, (x.data.length : Int)) rfl (by have := ok.at.few; unfold qa1; omega) (show wr 1 = 1 from qb8 (by omega) (by omega)) (qb8 (by omega) (by omega))
   rw [show ((0 : Nat) : Int) = 0 from rfl] at h1;dsimp only at h1;rw [h1, exB_same, R38_13_eq, qgo]
def qbd (c : UInt8) : Bool := c == 47 || c == 0
def qos (s : List UInt8) : Bool := decide (1<=s.length) && decide (s.length<=56) && !(s.any qbd) && !(s == [46]) && !(s == [46, 46])
theorem u8_eq (c d : UInt8) : (c == d) = decide ((c.toNat : Int) = (d.toNat : Int)) := by
 rw [Bool.eq_iff_iff];simp only [beq_iff_eq, decide_eq_true_eq];constructor
 . rintro rfl; rfl
 . intro h; exact UInt8.toNat_inj.1 (by omega)
structure TextIn where
 s : List UInt8
 hs : s.length < 9223372036854775808
noncomputable def qis (g : List UInt8->V) : KF := qdb (fun p : TextIn => [sv p.s]) (fun p => En.ret (g p.s))
theorem kfText_run (g : List UInt8->V) (s : List UInt8) (hs : s.length < 9223372036854775808) (S : St) : (qis g).run [sv s] S = some (.ret (g s), S) :=
 qcf (enc := fun p : TextIn => [sv p.s]) (out := fun p => En.ret (g p.s)) (fun p q h => by
  simp only [List.cons.injEq, and_true] at h
  rw [qks h]) ⟨s, hs⟩ S
theorem knText {K : FuncId->Option KF} (hK : KnOk Try.prog E0 K) {f : FuncId} {fn : Func} {c : Code} {d : D} (g : List UInt8->V) (hu : ∀ n x, Under n (g x)) (hf : E0.fns.get f = some fn) (hb : fn.body = some c) (hd : qmj d c)
 (n : Nat) (h : ∀ s S, s.length < 9223372036854775808->S.on = false->∃ S', qbu E0 (ev E0 K n) qa1 fn d [sv s] S = some (.ret (g s), S')/\Grew (fun _ => False) S S') : KnWell Try.prog E0 f (qis g) :=
 qcs qm4 hK hf hb hd fun p s ho => by
  obtain ⟨S', h1, h2⟩ := h p.s s p.hs ho;exact ⟨n, .ret (g p.s), S', h1, h2, Fz.same (hu _ _)⟩
noncomputable def qhi (s : List UInt8) : V := .bool (qos s)
theorem L68_spec (self : EV) (N : Nat) (nk : Ac->St->Rs) (ek : Nat->Ac->St->Rs) (s : List UInt8) (hs : s.length < 9223372036854775808) (S : St) :
 ∀ (r : List UInt8) (i n : Nat), s.drop i = r->r.length < n ->
 L74_20 self N nk ek n (sv s) (.int .i64 (i : Int)) S = bif r.any qbd then some (.ret (.bool false), S) else ek 0 (fr 36 [(0, sv s)]) S
 | r, i, 0, _, hn => by omega
 | [], i, n + 1, hi, hn => by
  rw [L74_20_eq];simp only [lnStr_sv, oB, binV_ii, intsV_lss, qgx (qbm hi)];rfl
 | c :: r, i, n + 1, hi, hn => by
  obtain ⟨hlt, hc, hr, hmem⟩ := qcn hi;rw [L74_20_eq];simp only [lnStr_sv, oB, binV_ii, intsV_lss, qfz hlt, ifK_bool, cT, qh0 s .i64 i hlt, hc, intsV_eql, qab, qal, qao];rw [List.any_cons, qbd, u8_eq c 47, u8_eq c 0, show (UInt8.toNat 47) = 47 from rfl, show (UInt8.toNat 0) = 0 from rfl];cases h1 : decide ((c.toNat : Int) = ((47 : Nat) : Int)) with
  | true =>
   rfl
  | false =>
   simp only [nF, cT, oB, qh0 s .i64 i hlt, hc, binV_ii, intsV_eql, qag, cF, ifK_bool, Bool.false_or];cases h2 : decide ((c.toNat : Int) = ((0 : Nat) : Int)) with
   | true =>
    rfl
   | false =>
    simp only [cF, intsV_add, oB, qbt (show i < 9223372036854775807 by omega), Bool.false_or];exact L68_spec self N nk ek s hs S r (i + 1) n hr (by simp at hn; omega)
theorem kn68 {K : FuncId->Option KF} (hK : KnOk Try.prog E0 K) : KnWell Try.prog E0 74 (qis qhi) :=
 knText hK (fn := Try.f74) (c := C74) (d := B74) qhi (fun _ _ => .bool _) (by kernel_rfl) (by kernel_rfl) (qa3 C74 _ (by kernel_rfl)) 0 fun s S hs ho => by
  refine ⟨S, (?_ : F74 (ev E0 K 0) qa1 (sv s) S = _), Grew.refl _ _⟩;have h1 := L68_spec (ev E0 K 0) qa1 (R74_1 (ev E0 K 0) qa1 (qak E0 (ev E0 K 0) Try.f74) qa9) (exB 0 (R74_1 (ev E0 K 0) qa1 (qak E0 (ev E0 K 0) Try.f74) qa9) qa9) s hs S s 0 qa1 rfl (by unfold qa1; omega);rw [F74_eq, show (V.int .i64 0) = .int .i64 ((0 : Nat) : Int) from rfl, h1, exB_same, R74_1_eq, qhi, qos];cases hb : s.any qbd with
  | true => simp only [cT, Bool.not_true, Bool.and_false, Bool.false_and]
  | false =>
   simp only [cF, lnStr_sv, oB, binV_ii, intsV_geq, qab, qal, qao, nF, Bool.and_true];rw [show decide ((1 : Int)<=(s.length : Int)) = decide (1<=s.length) by rw [decide_eq_decide]; omega];cases decide (1<=s.length) with
   | false => rfl
   | true =>
    simp only [cT, lnStr_sv, oB, binV_ii, intsV_leq, qag, qab, qal, qao, Bool.true_and];rw [show decide ((s.length : Int)<=56) = decide (s.length<=56) by rw [decide_eq_decide]; omega];cases decide (s.length<=56) with
    | false => rfl
    | true =>
     simp only [cT, oB, binV_ss, strOp_neq, qag, qab, qal, qao, Bool.true_and];cases (s == [46]) with
     | true => rfl
     | false =>
      simp only [nF, cT, oB, binV_ss, strOp_neq, qag, qab, qal, qao, Bool.true_and]
def qgn (p : Option (List UInt8)) (s : List UInt8) : Bool :=
 match p with
 | none => true
 | some q => Op.bytesLess q s
mutual
def mayN : Nd->Bool
 | .mk _ k e d l => if k = 1 then l.isEmpty else if k = 3 then !(d.any (· == 0)) && (!e && l.isEmpty && decide (1<=d.length) && decide (d.length<=255)) else if k = 2 then mayL none l && (!e && (d == [])) else false
def mayL : Option (List UInt8)->List Nd->Bool
 | _, [] => true
 | p, x :: l => (qos x.name && mayN x) && qgn p x.name && mayL (some x.name) l
end
theorem mayN_eq (x : Nd) : mayN x = if x.kind = 1 then x.kids.isEmpty else if x.kind = 3 then !(x.data.any (· == 0)) && (!x.exec && x.kids.isEmpty && decide (1<=x.data.length) && decide (x.data.length<=255)) else if x.kind = 2 then mayL none x.kids && (!x.exec && (x.data == [])) else false := by
 cases x; rw [mayN]; rfl
noncomputable def gMay (x : Nd) : V := .bool (mayN x)
theorem L44d_spec (self : EV) (N : Nat) (nk : Ac->St->Rs) (ek : Nat->Ac->St->Rs) (x : Nd) (b : Nat) (hd : x.data.length<=3000) (S : St) (hx : NodeAt S b x) :
 ∀ (r : List UInt8) (i n : Nat), x.data.drop i = r->r.length < n ->
 L37_39 self N nk ek n (.ptr b 0) (.int .i64 (i : Int)) S = bif r.any (· == 0) then some (.ret (.bool false), S) else ek 1 (fr 102 [(1, .ptr b 0)]) S
 | r, i, 0, _, hn => by omega
 | [], i, n + 1, hi, hn => by
  rw [L37_39_eq];simp only [faP_ptr, Nat.zero_add, hx.f3, lnStr_sv, oB, binV_ii, intsV_lss, qgx (qbm hi)];rfl
 | c :: r, i, n + 1, hi, hn => by
  obtain ⟨hlt, hc, hr, hmem⟩ := qcn hi;rw [L37_39_eq];simp only [faP_ptr, Nat.zero_add, hx.f3, lnStr_sv, oB, binV_ii, intsV_lss, qfz hlt, ifK_bool, cT, qh0 x.data .i64 i hlt, hc, intsV_eql];rw [List.any_cons, u8_eq c 0, show (UInt8.toNat 0) = 0 from rfl];cases h2 : decide ((c.toNat : Int) = ((0 : Nat) : Int)) with
  | true =>
   rfl
  | false =>
   simp only [cF, binV_ii, intsV_add, oB, qbt (show i < 9223372036854775807 by omega), Bool.false_or];exact L44d_spec self N nk ek x b hd S hx r (i + 1) n hr (by simp at hn; omega)
def qlb (all : List Nd) : Nat->Option (List UInt8)
 | 0 => none
 | i + 1 => (all[i]?).map Nd.name
theorem qn2 (self : EV) (N : Nat) (nk : Ac->St->Rs) (ek : Nat->Ac->St->Rs) (x : Nd) (b : Nat) (ok : NdOk x) (h68 : ∀ y ∈ x.kids, ∀ s, self.f 74 [sv y.name] s = some (.ret (qhi y.name), s))
 (h44 : ∀ y ∈ x.kids, ∀ s, self.f 37 [qde y] s = some (.ret (gMay y), s)) (S : St) (hx : NodeAt S b x) :
 ∀ (r : List Nd) (i n : Nat), x.kids.drop i = r->r.length < n ->
 L37_67 self N nk ek n (.ptr b 0) (.int .i64 (i : Int)) S = bif mayL (qlb x.kids i) r then ek 3 (fr 102 [(1, .ptr b 0)]) S else some (.ret (.bool false), S)
 | r, i, 0, _, hn => by omega
 | [], i, n + 1, hi, hn => by
  rw [L37_67_eq];simp only [faP_ptr, oB, Nat.zero_add, hx.f4, qcj, binV_ii, intsV_lss, qgx (qbm hi), mayL];rfl
 | y :: r, i, n + 1, hi, hn => by
  obtain ⟨hlt, hy, hr, hmem⟩ := qcn hi;have hfew := ok.few;rw [L37_67_eq, mayL];simp only [faP_ptr, oB, Nat.zero_add, hx.f4, qcj, binV_ii, intsV_lss, qfz hlt, ifK_bool, cT, hx.o4, qds x.kids i hlt, hy, faP_kid, qh2, ld1_csv, h68 y hmem, qbg, qhi, unV, qab, qal, qao, Bool.not_not];cases hnm : qos y.name with
  | false =>
   simp only [cF, nF, oB, qbg, qag, cT, qab, qal, qao, Bool.not_true, hx.o4, qd4];rw [qhf]
   . simp only [qc3 hx.on, ifK_bool, cT, Bool.false_and, cF]
   . rfl
  | true =>
   simp only [cT, Bool.not_true, hx.o4, qd4, oB, qds x.kids i hlt, hy, qh2, qj9, h44 y hmem, qbg, gMay, unV, qag, cF, qab, qal, qao, Bool.not_not];cases hmy : mayN y with
   | false =>
    simp only [cF, nF, oB, cT, qab, qal, qao, Bool.not_true, qag, qd4];rw [qhf]
    . simp only [qc3 hx.on, ifK_bool, cT, Bool.false_and, Bool.and_false, cF]
    . rfl
   | true =>
    simp only [cT, Bool.not_true, oB, cF, qab, qal, qao, nF, qag, binV_ii, intsV_gtr, Bool.and_self, Bool.true_and];cases i with
    | zero =>
     simp only [show decide ((0 : Int) < ((0 : Nat) : Int)) = false from rfl, cF, oB, qd4];rw [qhf]
     . simp only [qc3 hx.on, ifK_bool, cF, oB, binV_ii, intsV_add, qbt (show 0 < 9223372036854775807 by omega), qlb, qgn, Bool.true_and]
       rw [qn2 self N nk ek x b ok h68 h44 S hx r (0 + 1) n hr (by simp at hn; omega)];simp only [qlb, List.getElem?_eq_getElem hlt, hy, Option.map_some]
     . rfl
    | succ j =>
     have hj : j < x.kids.length := by omega
     simp only [show decide ((0 : Int) < ((j + 1 : Nat) : Int)) = true by simp, cT, oB, hx.o4, qd4, binV_ii, intsV_sub];rw [show ((j + 1 : Nat) : Int) - 1 = (j : Int) by omega, qb8 (by omega) (by omega)];simp only [oB, qds x.kids j hj, qds x.kids (j + 1) hlt, hy, faP_kid, qh2, ld1_csv, hx.o4, qd4, binV_ss, strOp_geq];rw [qhf]
     . simp only [qc3 hx.on, ifK_bool, qlb, qgn, List.getElem?_eq_getElem hj, Option.map_some]
       cases hbl : Op.bytesLess x.kids[j].name y.name with
       | false => simp only [nF, cT, Bool.false_and, cF]
       | true =>
        simp only [Bool.not_true, cF, Bool.true_and, binV_ii, intsV_add, qbt (show j + 1 < 9223372036854775807 by omega), oB];rw [qn2 self N nk ek x b ok h68 h44 S hx r (j + 1 + 1) n hr (by simp at hn; omega)];simp only [qlb, List.getElem?_eq_getElem hlt, hy, Option.map_some]
     . rfl
theorem kn44 {K : FuncId->Option KF} (hK : KnOk Try.prog E0 K) (h68 : K 74 = some (qis qhi)) : KnWell Try.prog E0 37 (qbc gMay) :=
 qic hK (fn := Try.f37) (c := C37) (d := B37) gMay (fun _ _ => .bool _) (by kernel_rfl) (by kernel_rfl) (qa3 C37 _ (by kernel_rfl)) 1 fun K' hK' x S ok hself ho => by
  obtain ⟨S1, k1, k2, k3, k4⟩ := qdc ho x;have hok := ok.at
  refine ⟨S1, (?_ : F37 (ev E0 K' 1) qa1 (qde x) S = _), k3⟩;rw [F37_eq, k1];simp only [oB, faP_ptr, Nat.zero_add, k2.f1, binV_ii, intsV_eql, ifK_bool];rw [gMay, mayN_eq];by_cases h1 : x.kind = 1
  . simp only [h1, decide_true, cT, k2.f4, oB, qcj, binV_ii, intsV_eql, if_true]
    congr 4
    cases x.kids with
    | nil => rfl
    | cons y l => simp; omega
  . simp only [h1, decide_false, cF, if_false]
    by_cases h3 : x.kind = 3
    . have hl := L44d_spec (ev E0 K' 1) qa1 (R37_15 (ev E0 K' 1) qa1 (qfb (ev E0 K' 1) qa1 (qak E0 (ev E0 K' 1) Try.f37) qa9) (exB 0 (qfb (ev E0 K' 1) qa1 (qak E0 (ev E0 K' 1) Try.f37) qa9) qa9)) (exB 1 (R37_15 (ev E0 K' 1) qa1 (qfb (ev E0 K' 1) qa1 (qak E0 (ev E0 K' 1) Try.f37) qa9) (exB 0 (qfb (ev E0 K' 1) qa1 (qak E0 (ev E0 K' 1) Try.f37) qa9) qa9)) (exB 0 (qfb (ev E0 K' 1) qa1 (qak E0 (ev E0 K' 1) Try.f37) qa9) qa9)) x S.next hok.data S1 k2 x.data 0 qa1 rfl (by have := hok.data; unfold qa1; omega)
      rw [show ((0 : Nat) : Int) = 0 from rfl] at hl;simp only [h3, decide_true, cT, if_true, hl, exB_same];cases hz : x.data.any (· == 0) with
      | true => rfl
      | false =>
       rw [R37_15_eq];simp only [cF, faP_ptr, Nat.zero_add, k2.f2, oB, unV, qab, qal, qao, nF, Bool.true_and];cases he : x.exec with
       | true => rfl
       | false =>
        simp only [nF, cT, k2.f4, oB, qcj, binV_ii, intsV_eql, qag, qab, qal, qao, Bool.true_and]
        rw [show decide ((x.kids.length : Int) = 0) = x.kids.isEmpty by cases x.kids with
         | nil => rfl
         | cons y l => simp; omega]
        cases x.kids.isEmpty with
        | false => rfl
        | true =>
         simp only [cT, k2.f3, oB, lnStr_sv, binV_ii, intsV_geq, qag, qab, qal, qao, Bool.true_and];rw [show decide ((1 : Int)<=(x.data.length : Int)) = decide (1<=x.data.length) by rw [decide_eq_decide]; omega];cases decide (1<=x.data.length) with
         | false => rfl
         | true =>
          simp only [cT, k2.f3, oB, lnStr_sv, binV_ii, intsV_leq, qag, qab, qal, qao, Bool.true_and];rw [show decide ((x.data.length : Int)<=255) = decide (x.data.length<=255) by rw [decide_eq_decide]; omega]
    . simp only [h3, decide_false, cF, if_false]
      by_cases h2 : x.kind = 2
      . have hl := qn2 (ev E0 K' 1) qa1 (R37_56 (ev E0 K' 1) qa1 (qfb (ev E0 K' 1) qa1 (qak E0 (ev E0 K' 1) Try.f37) qa9) (exB 0 (qfb (ev E0 K' 1) qa1 (qak E0 (ev E0 K' 1) Try.f37) qa9) qa9)) (exB 3 (R37_56 (ev E0 K' 1) qa1 (qfb (ev E0 K' 1) qa1 (qak E0 (ev E0 K' 1) Try.f37) qa9) (exB 0 (qfb (ev E0 K' 1) qa1 (qak E0 (ev E0 K' 1) Try.f37) qa9) qa9)) (exB 0 (qfb (ev E0 K' 1) qa1 (qak E0 (ev E0 K' 1) Try.f37) qa9) qa9)) x S.next hok
         (fun y hy s => by rw [qaq (show K' 74 = _ by rw [hK' 74 (by decide)]; exact h68), kfText_run _ _ (hok.kids y hy).at.name]) (fun y hy s => hself y s 0 hy) S1 k2 x.kids 0 qa1 rfl (by have := hok.few; unfold qa1; omega)
        rw [show ((0 : Nat) : Int) = 0 from rfl] at hl;simp only [h2, decide_true, cT, if_true, hl, exB_same];rw [show qlb x.kids 0 = none from rfl];cases mayL none x.kids with
        | false => rfl
        | true =>
         rw [R37_56_eq];simp only [cT, faP_ptr, Nat.zero_add, k2.f2, oB, unV, qab, qal, qao, Bool.true_and];cases he : x.exec with
         | true => rfl
         | false =>
          simp only [nF, cT, k2.f3, oB, qag, Bool.true_and];simp only [binV_ss, strOp_eql, oB]
      . simp only [h2, decide_false, cF, if_false]
        rw [R37_2_eq]
end Go.Proofs.Ytmeohejdafbodaa.W
