/-
  WHAT THE FUNCTIONS COME TO: each is read by the evaluator, printed, and told as a function of data, part 6 of 11 (no condition).
-/
import Derived.Test.YtbihlgcdnhoknaaW5
import Derived.WalkKit
import Derived.ProofKit
import Derived.OpenShut
import Derived.Carry
import Derived.ChangeMaps5
namespace Go.Proofs.Ytbihlgcdnhoknaa.W
open Go.Proofs.Ytbihlgcdnhoknaa.Ev
section
variable {S U : St} {b r : Nat} {T : Tab}
def Tab.add (T : Tab) (p : Nod) : Tab := { T with nodes := T.nodes ++ [p] }
def qdt (T : Tab) (p : Nod) (d : Int) (kv : List (List UInt8 × Int)) (k : Int) : Tab := { (T.add p).upd d (qb2 kv) with ui := T.ui + 1, ub := T.ub + k }
theorem TabAt.addNode (h : TabAt S b r T) (p : Nod) (hk : T.get p.no = none) (hbx : Bx S p.box 65 p.ino.cells) (hmp : ∀ m, p.ino.map = some m → MapAt S m (kvS p.ino.ents)) (hno : p.ino.map = none → p.ino.ents = [])
 (N : Nat) (hN : b < N ∧ r < N ∧ ∀ q ∈ T.nodes, q.box < N ∧ ∀ m, q.ino.map = some m → m < N) (hp1 : N ≤ p.box ∧ p.box < S.next) (hp2 : ∀ m, p.ino.map = some m → N ≤ m ∧ m < S.next ∧ m ≠ p.box) :
 ∃ U, (∀ l, qag E0 66 (.map r) (.int .i64 p.no) (.ptr p.box 0) (stt S l) = some (stt U (l.map fun l => ⟨r, 0, big, true⟩ :: ⟨r, 0, big, false⟩ :: l))) ∧ TabAt U b r (T.add p) ∧ Grew (fun x => x = r) S U ∧ U.next = S.next := by
 obtain ⟨es, c, h1, h2⟩ := qp8 h.on und66 h.nm p.no (.ptr p.box 0)
 rw [qln _ _ _ (by rw [lkI_kvN, show qfk p.no T.nodes = none from hk]; rfl)] at h1
 exact ⟨_, h2, h.putA p (fun q hq => qo2 hk q hq) hbx hmp hno N hN hp1 hp2 h1, qb6 _ _, rfl⟩
theorem made_run (h : TabAt S b r T) (m : Nat) {x6 x11 : Nat} (c6 : Cap S x6 23 (.ptr b 0)) (a : List UInt8) {data : List UInt8} (c11 : Cap S x11 9 (sv data)) (hd : data.length < 1000000) (hT : Fits T) (p : Nod) (hk : T.get p.no = none) (hlast : T.last = p.no) (hbx : Bx S p.box 65 p.ino.cells) (hmp : ∀ m, p.ino.map = some m → MapAt S m (kvS p.ino.ents)) (hno : p.ino.map = none → p.ino.ents = [])
 (N : Nat) (hN : b < N ∧ r < N ∧ ∀ q ∈ T.nodes, q.box < N ∧ ∀ m, q.ino.map = some m → m < N) (hp1 : N ≤ p.box ∧ p.box < S.next) (hp2 : ∀ m, p.ino.map = some m → N ≤ m ∧ m < S.next ∧ m ≠ p.box) (hx6 : N ≤ x6 ∧ x6 ≠ p.box) (hx11 : N ≤ x11 ∧ x11 ≠ p.box)
 {d : Int} {q : Nod} {mq : Nat} (hq : T.get d = some q) (hm : q.ino.map = some mq) (nk : Ac → St → Rs) (ek : Nat → Ac → St → Rs) :
 ∃ U, qn9 (ev E0 KD m) qa4 nk ek (fr 106 [(1, .int .i64 d), (2, sv a), (6, .ptr x6 0), (11, .ptr x11 0), (16, .ptr p.box 0)]) S = some (.ret (.tuple [.int .i64 p.no, .int .i64 0]), U) ∧
  TabAt U b r (qdt T p d (qat a p.no q.ino.ents) data.length) ∧ Grew (Own b r T) S U := by
 obtain ⟨V1, v1, v2, v3, v4⟩ := h.addNode p hk hbx hmp hno N hN hp1 hp2
 have ht1 := v2.same (U := atS V1 S) rfl rfl rfl
 have gA := qcm v3 h.on
 have c6a : Cap (atS V1 S) x6 23 (.ptr b 0) := ⟨c6.bx.grew c6.lt (fun e => by omega) gA, Nat.lt_of_lt_of_le c6.lt gA.next⟩
 have c11a : Cap (atS V1 S) x11 9 (sv data) := ⟨c11.bx.grew c11.lt (fun e => by omega) gA, Nat.lt_of_lt_of_le c11.lt gA.next⟩
 have hq1 : (T.add p).get d = some q := by
  show qfk d (T.nodes ++ [p]) = _
  rw [qgr, show qfk d T.nodes = some q from hq]
 have hmq := (hN.2.2 q (qan hq).1).2 mq hm
 generalize hA : atS V1 S = A at ht1 gA c6a c11a
 obtain ⟨V2, w1, w2, w3, w4⟩ := ht1.setName hq1 hm a p.no
 have ht2 := w2.same (U := atS V2 A) rfl rfl rfl
 have gB := qcm w3 ht1.on
 have c6b : Cap (atS V2 A) x6 23 (.ptr b 0) := ⟨c6a.bx.grew c6a.lt (fun e => by omega) gB, Nat.lt_of_lt_of_le c6a.lt gB.next⟩
 have c11b : Cap (atS V2 A) x11 9 (sv data) := ⟨c11a.bx.grew c11a.lt (fun e => by omega) gB, Nat.lt_of_lt_of_le c11a.lt gB.next⟩
 generalize hB : atS V2 A = B at ht2 gB c6b c11b
 obtain ⟨C, y1, y2, y3, y4⟩ := ht2.setT (T' := { (T.add p).upd d (qb2 (qat a p.no q.ino.ents)) with ui := T.ui + 1 }) rfl 2 (by decide) (qb5 .i64 (T.ui + 1)) (set6_2 ..)
 have c6c : Cap C x6 23 (.ptr b 0) := ⟨c6b.bx.grew c6b.lt (fun e => by omega) y3, Nat.lt_of_lt_of_le c6b.lt y3.next⟩
 have c11c : Cap C x11 9 (sv data) := ⟨c11b.bx.grew c11b.lt (fun e => by omega) y3, Nat.lt_of_lt_of_le c11b.lt y3.next⟩
 obtain ⟨D, z1, z2, z3, z4⟩ := y2.setT (T' := qdt T p d (qat a p.no q.ino.ents) data.length) rfl 3 (by decide) (qb5 .i64 (T.ub + (data.length : Int))) (set6_3 ..)
 obtain ⟨lz, z1'⟩ := stP_lg y2.on z1
 have ht4 := z2.same (U := atS D C) rfl rfl rfl
 have gD := qcm z3 y2.on
 have c6d : Cap (atS D C) x6 23 (.ptr b 0) := ⟨c6c.bx.grew c6c.lt (fun e => by omega) gD, Nat.lt_of_lt_of_le c6c.lt gD.next⟩
 refine ⟨atS D C, ?_, ht4, (((gA.mono fun x _ hx => .inr (.inl hx)).trans (gB.mono fun x _ hx => hx ▸ qol hq hm)).trans (y3.mono fun x _ hx => .inl hx)).trans (gD.mono fun x _ hx => .inl hx)⟩
 rw [R8_45_eq, c6.ldL h.on, oB]
 dsimp only
 rw [qek, oB, qcy, oB, qa1, Nat.zero_add, h.ldL (i := 4) (v := .map r) rfl, oB]
 dsimp only
 rw [qa1, c6.ldL h.on, oB]
 dsimp only
 simp only [qek, qcy, oB, Nat.zero_add, qa1]
 rw [h.ldL (i := 5) (v := .int .i64 p.no) (by show some (V.int .i64 T.last) = _; rw [hlast]), oB]
 dsimp only
 rw [qa1, show qag E0 66 (.map r) (.int .i64 p.no) (.ptr p.box 0) (onS S) = _ from v1 (some [])]
 show ((some (V.tuple [], V1.lg _)).bind _) = _
 rw [oB]
 dsimp only
 rw [qc6 (by rfl), qfp h.on, hA, c6a.ldL ht1.on, oB]
 dsimp only
 simp only [qek, qcy, oB, Nat.zero_add, qa1]
 rw [ht1.ldL (i := 4) (v := .map r) rfl, oB]
 dsimp only
 rw [qa1, qgd ht1, oB, hq1]
 simp only [qkw, qek, qcy, oB, Nat.zero_add, qa1]
 rw [ht1.ndL hq1 (i := d) (k := 5) (v := mapV q.ino.map) rfl, oB]
 dsimp only
 rw [qa1, c6a.ldL ht1.on, oB]
 dsimp only
 simp only [qek, qcy, oB, Nat.zero_add, qa1]
 rw [ht1.ldL (i := 5) (v := .int .i64 p.no) (by show some (V.int .i64 T.last) = _; rw [hlast]), oB]
 dsimp only
 rw [qa1, hm]
 unfold mapV
 dsimp only
 rw [show qag E0 63 (.map mq) (sv a) (.int .i64 p.no) (onS A) = _ from w1 (some [])]
 show ((some (V.tuple [], V2.lg _)).bind _) = _
 rw [oB]
 dsimp only
 rw [qc6 (by rfl), qfp ht1.on, hB, c6b.ld ht2.on, oB]
 dsimp only
 simp only [qek, qcy, oB, Nat.zero_add, Nat.add_zero]
 rw [ht2.ld (i := 2) (v := .int .i64 T.ui) rfl, oB]
 dsimp only
 rw [addI 3 false true _ _ hT.ui (by unfold qau; omega), oB, y1, oB]
 dsimp only
 rw [c6c.ldL y2.on, oB]
 dsimp only
 simp only [qek, qcy, oB, Nat.zero_add, qa1]
 rw [y2.ldL (i := 2 + 1) (v := .int .i64 T.ub) rfl, oB]
 dsimp only
 rw [qa1, c11c.ldL y2.on, oB]
 dsimp only
 rw [lnStr_sv, oB]
 dsimp only
 rw [addI 3 false false _ _ hT.ub (by unfold qau; omega), oB, qe4, qa1]
 rw [show stP 1 (.ptr b (2 + 1)) (.int .i64 (T.ub + (data.length : Int))) (onS C) = _ from z1', oB]
 dsimp only
 rw [qc6 (by rfl), qfp y2.on, c6d.ld ht4.on, oB]
 dsimp only
 simp only [qek, qcy, oB, Nat.zero_add]
 rw [ht4.ld (i := 5) (v := .int .i64 p.no) (by show some (V.int .i64 T.last) = _; rw [hlast]), oB]
theorem box4_steps (ho : S.on = false) (e e2 e3 e4 : Nat) {v v2 v3 v4 : V} (hv : OneV v) (hv2 : OneV v2) (hv3 : OneV v3) (hv4 : OneV v4) : ∃ U1 U2 U3 U, qd7 e v S = some (.ptr S.next 0, U1) ∧ qd7 e2 v2 U1 = some (.ptr (S.next + 1) 0, U2) ∧ qd7 e3 v3 U2 = some (.ptr (S.next + 2) 0, U3) ∧ qd7 e4 v4 U3 = some (.ptr (S.next + 3) 0, U) ∧ Cap U S.next e v ∧ Cap U (S.next + 1) e2 v2 ∧ Cap U (S.next + 2) e3 v3 ∧ Cap U (S.next + 3) e4 v4 ∧ Grew (fun _ => False) S U ∧ U.next = S.next + 4 := by
 obtain ⟨U1, U2, U3, h1, h2, h3, c1, c2, c3, g, n⟩ := qg3 ho e e2 e3 hv hv2 hv3
 obtain ⟨U4, k1, k2, k3, k4⟩ := qhf (g.on.trans ho) e4 hv4
 rw [n] at k1 k2 k4
 exact ⟨U1, U2, U3, U4, h1, h2, h3, k1, c1.grew k3, c2.grew k3, c3.grew k3, ⟨k2, by omega⟩, g.trans k3, k4⟩
theorem build65 (a c l : Int) (d : List UInt8) : qck E0 65 [(0, qh4 [.int .i64 a, .int .i64 c, sv d, .int .i64 l])] = some (qh4 [.int .i64 a, .int .i64 c, sv d, .int .i64 l, .int .i64 0, .nilmap]) := by kernel_rfl
def eMake (T : Tab) (d : Int) (a : List UInt8) (kind mode : Int) (data : List UInt8) : Int := qg5 [0, qmf T d, eNamed a, eLike kind mode data, eFree T d a, qmg T 1 data.length]
def qm3 (kind mode : Int) (data : List UInt8) (up : Int) (m : Option Nat) : Ino := { kind := kind, mode := mode, data := data, links := 1, up := up, map := m, ents := [] }
theorem make_head (h : TabAt S b r T) (hT : Fits T) (m : Nat) (d : Int) (a : List UInt8) (kind mode : Int) (data : List UInt8) (ha : a.length < 9223372036854775808) (hd : data.length < 1000000) :
 ∃ A, Cap A S.next 23 (.ptr b 0) ∧ Cap A (S.next + 1) 3 (.int .i64 kind) ∧ Cap A (S.next + 2) 3 (.int .i64 mode) ∧ Cap A (S.next + 3) 9 (sv data) ∧ TabAt A b r T ∧ Grew (fun _ => False) S A ∧
 F8 (ev E0 KD (m + 5)) qa4 (.ptr b 0) (.int .i64 d) (sv a) (.int .i64 kind) (.int .i64 mode) (sv data) S = if eMake T d a kind mode data = 0 then
(ld1 (.ptr S.next 0) A).bind fun p30 =>
(qa3 p30.1).bind fun t31 =>
(faP 5 false 1 t31).bind fun t32 =>
(ld1 t32 p30.2).bind fun p33 =>
(qab E0 .add 3 false true p33.1 (.int .i64 1)).bind fun t34 =>
(qa3 p30.1).bind fun t35 =>
(faP 5 false 1 t35).bind fun t36 =>
(stP 1 t36 t34 p33.2).bind fun p37 =>
(ld1 (.ptr (S.next + 1) 0) p37.2).bind fun p38 =>
(ld1 (.ptr (S.next + 2) 0) p38.2).bind fun p39 =>
(ld1 (.ptr (S.next + 3) 0) p39.2).bind fun p40 =>
(qck E0 35 [(0, p38.1), (1, p39.1), (2, p40.1), (3, (.int .i64 1))]).bind fun t41 =>
(qck E0 65 [(0, t41)]).bind fun t42 =>
(qd7 65 t42 p40.2).bind fun p43 =>
(ld1 (.ptr (S.next + 1) 0) p43.2).bind fun p102 =>
(qab E0 .eql 3 false true p102.1 (.int .i64 2)).bind fun t103 =>
ifK t103 (
(qbz E0 63 none p102.2).bind fun p107 =>
(qa3 p43.1).bind fun t108 =>
(faP 4 false 1 t108).bind fun t109 =>
(stP 1 t109 (.int .i64 d) p107.2).bind fun p110 =>
(qa3 p43.1).bind fun t111 =>
(faP 5 false 1 t111).bind fun t112 =>
(stP 1 t112 p107.1 p110.2).bind fun p113 =>
qn9 (ev E0 KD (m + 5)) qa4 (qdw E0 (ev E0 KD (m + 5)) Try.f8) qda (fr 106 [(1, .int .i64 d), (2, sv a), (6, .ptr S.next 0), (11, .ptr (S.next + 3) 0), (16, p43.1)]) p113.2) (
qn9 (ev E0 KD (m + 5)) qa4 (qdw E0 (ev E0 KD (m + 5)) Try.f8) qda (fr 106 [(1, .int .i64 d), (2, sv a), (6, .ptr S.next 0), (11, .ptr (S.next + 3) 0), (16, p43.1)]) p102.2) else some (.ret (.tuple [.int .i64 0, .int .i64 (eMake T d a kind mode data)]), A) := by
 obtain ⟨S1, S2, S3, S4, s1, s2, s3, s4, c1, c2, c3, c4, g4, n4⟩ := box4_steps h.on 23 3 3 9 (oneP b 0) (qb5 .i64 kind) (qb5 .i64 mode) (qgv data)
 have h4 := h.grewF g4
 obtain ⟨S5, a1, a2, a3, a4, a5⟩ := ql9 (m + 4) h4.on b d
 have h5 := h4.grewF a4
 obtain ⟨S6, b1, b2, b3, b4⟩ := qoa (m + 4) h5.on a
 have h6 := h5.grewF b3
 obtain ⟨S7, f1, f2, f3, f4, f5, f6⟩ := free_run (m + 4) h6.on b d a
 have h7 := h6.grewF f5
 have g56 := a4.trans b3
 have g57 := g56.trans f5
 have g67 := b3.trans f5
 have all : AsksAll S7 (m + 4) [.fn (.func 27) [.ptr b 0] [], .fn (.func 57) [] [.ptr S4.next 0, .ptr (S4.next + 1) 0], .fn (.func 58) [] [.ptr S5.next 0], .fn (.func 23) [] [.ptr (S.next + 3) 0, .ptr (S.next + 1) 0, .ptr (S.next + 2) 0], .fn (.func 60) [] [.ptr S6.next 0, .ptr (S6.next + 1) 0, .ptr (S6.next + 2) 0], .fn (.func 31) [] [.ptr S.next 0, .ptr (S.next + 3) 0]] (eMake T d a kind mode data) :=
  qad (qcd (m + 2) b) (qad (qee h7 (m + 2) (a2.grew g67) (a3.grew g67)) (qad (qji (m + 2) h7.on (b2.grew f5) ha) (qad (make1_asks h7.on (m + 2) (c4.grew g57) (c2.grew g57) (c3.grew g57)) (qad (qlc h7 (m + 1) f2 f3 f4) (qad (make2_asks h7 hT (m + 1) (by omega) (c1.grew g57) (c4.grew g57)) qfj)))))
 obtain ⟨R, U, q1, q2, q3, q4⟩ := asked h7.on (m + 4) _ (fun v hv => by
  simp only [List.mem_cons, List.not_mem_nil, or_false] at hv
  rcases hv with rfl | rfl | rfl | rfl | rfl | rfl <;> exact oneF _ _ _) (by show 6 < 1000000; decide) all
 obtain ⟨l2, q2'⟩ := qdy (m + 4) q2
 have gU := g57.trans q3
 have hU := (h4.grewF gU).same (U := atS U S4) rfl rfl rfl
 have gA := qcm gU h4.on
 refine ⟨atS U S4, c1.grew gA, c2.grew gA, c3.grew gA, c4.grew gA, hU, g4.trans gA, ?_⟩
 rw [F8_eq, s1, oB]
 dsimp only
 rw [s2, oB]
 dsimp only
 rw [s3, oB]
 dsimp only
 rw [s4, oB]
 dsimp only
 rw [c1.ldL h4.on, oB]
 dsimp only
 rw [qa1, c1.ldL h4.on, oB]
 dsimp only
 rw [qa1, show (ev E0 KD (m + 5)).f 28 [.ptr b 0, .int .i64 d] (onS S4) = _ from a1 (some []), qak]
 rw [show (ev E0 KD (m + 5)).f 29 [sv a] (onS (stt S5 (Option.map _ (some [])))) = _ from b1 (some []), qak]
 rw [show onS (stt S6 (Option.map _ (some []))) = onS S6 from rfl, ((c1.grew a4).grew b3).ldL h6.on, oB]
 dsimp only
 rw [qa1, show (ev E0 KD (m + 5)).f 30 [.ptr b 0, .int .i64 d, sv a] (onS S6) = _ from f1 (some []), qak]
 rw [show bsP 72 1 6 (Go.Proofs.Ytbihlgcdnhoknaa.Ev.one .nilfn) [(0, (.fn (.func 27) [.ptr b 0] [])), (1, .fn (.func 57) [] [.ptr S4.next 0, .ptr (S4.next + 1) 0]), (2, .fn (.func 58) [] [.ptr S5.next 0]), (3, .fn (.func 23) [] [.ptr (S.next + 3) 0, .ptr (S.next + 1) 0, .ptr (S.next + 2) 0]), (4, .fn (.func 60) [] [.ptr S6.next 0, .ptr (S6.next + 1) 0, .ptr (S6.next + 2) 0]), (5, .fn (.func 31) [] [.ptr S.next 0, .ptr (S.next + 3) 0])] (onS (stt S7 (Option.map _ (some [])))) = _ from q1 (some []), oB]
 dsimp only
 rw [show (ev E0 KD (m + 5)).f 26 _ (onS (stt R (Option.map _ (some [])))) = _ from q2', qak]
 rw [qew (S.next + 4) [0, 2, 8] [4, 6, 11]]
 rotate_left
 · rfl
 · exact ⟨⟨⟨rfl, by show S.next < S.next + 4; omega⟩, trivial⟩, ⟨⟨rfl, by show S.next < S.next + 4; omega⟩, trivial⟩, ⟨⟨rfl, by show S.next < S.next + 4; omega⟩, trivial⟩, trivial⟩
 · exact ⟨⟨by show S.next + 4 ≤ S4.next + 1; omega, by show S.next + 4 ≤ S4.next; omega, trivial⟩, ⟨by show S.next + 4 ≤ S5.next; omega, trivial⟩, ⟨by show S.next + 4 ≤ S6.next + 2; omega, by show S.next + 4 ≤ S6.next + 1; omega, by show S.next + 4 ≤ S6.next; omega, trivial⟩, trivial⟩
 rw [qa1, qdq h4.on, qob, oB, ifK_bool]
 by_cases h0 : eMake T d a kind mode data = 0
 · rw [if_pos h0, h0]; rfl
 · rw [if_neg h0, beq_false_of_ne h0]; rfl
theorem TabAt.bound (h : TabAt S b r T) : b < S.next ∧ r < S.next ∧ ∀ q ∈ T.nodes, q.box < S.next ∧ ∀ m, q.ino.map = some m → m < S.next := ⟨h.hb, h.hr, fun q hq => ⟨h.hn q hq, h.hm q hq⟩⟩
theorem make_err (h : TabAt S b r T) (hT : Fits T) (m : Nat) (d : Int) (a : List UInt8) (kind mode : Int) (data : List UInt8) (ha : a.length < 9223372036854775808) (hd : data.length < 1000000) (he : eMake T d a kind mode data ≠ 0) :
 ∃ U, (ev E0 KD (m + 6)).f 8 [.ptr b 0, .int .i64 d, sv a, .int .i64 kind, .int .i64 mode, sv data] S = some (.ret (.tuple [.int .i64 0, .int .i64 (eMake T d a kind mode data)]), U) ∧ TabAt U b r T ∧ Grew (fun _ => False) S U := by
 obtain ⟨A, c1, c2, c3, c4, hA, gA, hF⟩ := make_head h hT m d a kind mode data ha hd
 rw [if_neg he] at hF
 exact ⟨A, rd8 hF, hA, gA⟩
theorem make_new (h : TabAt S b r T) (hT : Fits T) (m : Nat) (d : Int) (a : List UInt8) (kind mode : Int) (data : List UInt8) (ha : a.length < 9223372036854775808) (hd : data.length < 1000000) (he : eMake T d a kind mode data = 0) (hl : -qau < T.last ∧ T.last < qau) :
 ∃ (B C : St), Bx C B.next 65 [.int .i64 kind, .int .i64 mode, sv data, .int .i64 1, .int .i64 0, .nilmap] ∧ C.next = B.next + 1 ∧ S.next + 4 ≤ B.next ∧ Cap C S.next 23 (.ptr b 0) ∧ Cap C (S.next + 3) 9 (sv data) ∧ TabAt C b r { T with last := T.last + 1 } ∧ Grew (Own b r T) S C ∧
 F8 (ev E0 KD (m + 5)) qa4 (.ptr b 0) (.int .i64 d) (sv a) (.int .i64 kind) (.int .i64 mode) (sv data) S = ifK (.bool (decide (kind = 2))) (
(qbz E0 63 none C).bind fun p107 =>
(qa3 (.ptr B.next 0)).bind fun t108 =>
(faP 4 false 1 t108).bind fun t109 =>
(stP 1 t109 (.int .i64 d) p107.2).bind fun p110 =>
(qa3 (.ptr B.next 0)).bind fun t111 =>
(faP 5 false 1 t111).bind fun t112 =>
(stP 1 t112 p107.1 p110.2).bind fun p113 =>
qn9 (ev E0 KD (m + 5)) qa4 (qdw E0 (ev E0 KD (m + 5)) Try.f8) qda (fr 106 [(1, .int .i64 d), (2, sv a), (6, .ptr S.next 0), (11, .ptr (S.next + 3) 0), (16, .ptr B.next 0)]) p113.2) (
qn9 (ev E0 KD (m + 5)) qa4 (qdw E0 (ev E0 KD (m + 5)) Try.f8) qda (fr 106 [(1, .int .i64 d), (2, sv a), (6, .ptr S.next 0), (11, .ptr (S.next + 3) 0), (16, .ptr B.next 0)]) C) := by
 obtain ⟨A, c1, c2, c3, c4, hA, gA, hF⟩ := make_head h hT m d a kind mode data ha hd
 rw [if_pos he] at hF
 obtain ⟨B, t1, t2, t3, t4⟩ := hA.setT (T' := { T with last := T.last + 1 }) rfl 5 (by decide) (qb5 .i64 (T.last + 1)) (set6_5 ..)
 have hb := h.hb
 have kp : ∀ {x e : Nat} {v : V}, S.next ≤ x → Cap A x e v → Cap B x e v := fun {x e v} hx hc => ⟨hc.bx.grew hc.lt (fun e => by omega) t3, Nat.lt_of_lt_of_le hc.lt t3.next⟩
 have e1 := kp (Nat.le_refl _) c1
 have e2 := kp (by omega) c2
 have e3 := kp (by omega) c3
 have e4 := kp (by omega) c4
 obtain ⟨C, w1, w2, w3, w4⟩ := ql6 t2.on 65 [.int .i64 kind, .int .i64 mode, sv data, .int .i64 1, .int .i64 0, .nilmap]
 have f2 := e2.grew w3
 have hC := t2.grewF w3
 refine ⟨B, C, w2, w4, by have := e4.lt; omega, e1.grew w3, e4.grew w3, hC, ((gA.mono fun _ _ h => h.elim).trans (t3.mono fun x _ hx => .inl hx)).trans (w3.mono fun _ _ h => h.elim), hF.trans ?_⟩
 clear hF
 generalize hR : qn9 (ev E0 KD (m + 5)) qa4 (qdw E0 (ev E0 KD (m + 5)) Try.f8) qda = R
 rw [c1.ld hA.on, oB]
 dsimp only
 simp only [qek, qcy, oB, Nat.zero_add]
 rw [hA.ld (i := 5) (v := .int .i64 T.last) rfl, oB]
 dsimp only
 rw [addI 3 false true _ _ hl (by unfold qau; omega), oB, t1, oB]
 dsimp only
 rw [e2.ld t2.on, oB]
 dsimp only
 rw [e3.ld t2.on, oB]
 dsimp only
 rw [e4.ld t2.on, oB]
 dsimp only
 rw [build_35, oB, build65, oB, w1, oB]
 dsimp only
 rw [f2.ld hC.on, oB]
 dsimp only
 rw [qhl, oB]
 simp only [qek, qcy, oB, Nat.zero_add]
end
section
variable {S U : St} {b r : Nat} {T : Tab}
theorem make_file (h : TabAt S b r T) (hT : Fits T) (m : Nat) (d : Int) (a : List UInt8) (kind mode : Int) (data : List UInt8) (ha : a.length < 9223372036854775808) (hd : data.length < 1000000) (he : eMake T d a kind mode data = 0) {q : Nod} {mq : Nat} (hq : T.get d = some q) (hm : q.ino.map = some mq) (hnew : T.get (T.last + 1) = none) (hl : -qau < T.last ∧ T.last < qau) (hk : kind ≠ 2) :
 ∃ U nb, (ev E0 KD (m + 6)).f 8 [.ptr b 0, .int .i64 d, sv a, .int .i64 kind, .int .i64 mode, sv data] S = some (.ret (.tuple [.int .i64 (T.last + 1), .int .i64 0]), U) ∧
  TabAt U b r (qdt { T with last := T.last + 1 } ⟨T.last + 1, nb, qm3 kind mode data 0 none⟩ d (qat a (T.last + 1) q.ino.ents) data.length) ∧ Grew (Own b r T) S U ∧ S.next ≤ nb := by
 obtain ⟨B, C, w2, w4, hBn, f1, f4, hC, gC, pre⟩ := make_new h hT m d a kind mode data ha hd he hl
 have hbd := h.bound
 have hT' : Fits { T with last := T.last + 1 } := ⟨hT.ui, hT.ub⟩
 rw [decide_eq_false hk, ifK_bool, cond_false] at pre
 obtain ⟨Y, y1, y2, y3⟩ := made_run hC (m + 5) f1 a f4 hd hT' ⟨T.last + 1, B.next, qm3 kind mode data 0 none⟩ hnew rfl w2 (fun m0 hm0 => by cases hm0) (fun _ => rfl) S.next hbd ⟨by show S.next ≤ B.next; omega, by show B.next < C.next; omega⟩ (fun m0 hm0 => by cases hm0) ⟨Nat.le_refl _, by show S.next ≠ B.next; omega⟩ ⟨by omega, by show S.next + 3 ≠ B.next; omega⟩ hq hm (qdw E0 (ev E0 KD (m + 5)) Try.f8) qda
 generalize qn9 (ev E0 KD (m + 5)) qa4 (qdw E0 (ev E0 KD (m + 5)) Try.f8) qda = R at pre y1
 have y1' : R (fr 106 [(1, .int .i64 d), (2, sv a), (6, .ptr S.next 0), (11, .ptr (S.next + 3) 0), (16, .ptr B.next 0)]) C = some (.ret (.tuple [.int .i64 (T.last + 1), .int .i64 0]), Y) := y1
 rw [y1'] at pre
 exact ⟨Y, B.next, rd8 pre, y2, gC.trans y3, by omega⟩
theorem make_dir (h : TabAt S b r T) (hT : Fits T) (m : Nat) (d : Int) (a : List UInt8) (mode : Int) (data : List UInt8) (ha : a.length < 9223372036854775808) (hd : data.length < 1000000) (he : eMake T d a 2 mode data = 0) {q : Nod} {mq : Nat} (hq : T.get d = some q) (hm : q.ino.map = some mq) (hnew : T.get (T.last + 1) = none) (hl : -qau < T.last ∧ T.last < qau) :
 ∃ U nb nm, (ev E0 KD (m + 6)).f 8 [.ptr b 0, .int .i64 d, sv a, .int .i64 2, .int .i64 mode, sv data] S = some (.ret (.tuple [.int .i64 (T.last + 1), .int .i64 0]), U) ∧
  TabAt U b r (qdt { T with last := T.last + 1 } ⟨T.last + 1, nb, qm3 2 mode data d (some nm)⟩ d (qat a (T.last + 1) q.ino.ents) data.length) ∧ Grew (Own b r T) S U ∧ S.next ≤ nb ∧ S.next ≤ nm := by
 obtain ⟨B, C, w2, w4, hBn, f1, f4, hC, gC, pre⟩ := make_new h hT m d a 2 mode data ha hd he hl
 have hbd := h.bound
 have hT' : Fits { T with last := T.last + 1 } := ⟨hT.ui, hT.ub⟩
 rw [show decide ((2 : Int) = 2) = true from rfl, ifK_bool, cond_true] at pre
 have g1 := qce hC.on (fun _ => False) (.map [] 0)
 have on1 : (nw C (.map [] 0)).on = false := qoe hC.on _
 have hD := hC.grewF g1
 have hmD : MapAt (nw C (.map [] 0)) C.next (kvS []) := ⟨[], 0, by rw [qf8, if_pos rfl], MapOk.new⟩
 have hbD := w2.grew (show B.next < C.next by omega) (fun h => h) g1
 have hnD : (nw C (.map [] 0)).next = C.next + 1 := rfl
 have p1 := f1.grew g1
 have p4 := f4.grew g1
 have hmk : qbz E0 63 none C = some (.map C.next, nw C (.map [] 0)) := rfl
 rw [hmk, oB] at pre
 dsimp only at pre
 generalize nw C (.map [] 0) = D at g1 on1 hD hmD hbD hnD p1 p4 pre
 have st1 : stP 1 (.ptr B.next 4) (.int .i64 d) D = some (.tuple [], D.put B.next (bxO 65 [.int .i64 2, .int .i64 mode, sv data, .int .i64 1, .int .i64 d, .nilmap])) := bx_st6 on1 hbD rfl rfl (by decide) (set6_4 ..) rfl rfl rfl
 have hbE := bx_put (s := D) B.next 65 [.int .i64 2, .int .i64 mode, sv data, .int .i64 1, .int .i64 d, .nilmap]
 have gE := qb6 (s := D) B.next (bxO 65 [.int .i64 2, .int .i64 mode, sv data, .int .i64 1, .int .i64 d, .nilmap])
 generalize D.put B.next (bxO 65 [.int .i64 2, .int .i64 mode, sv data, .int .i64 1, .int .i64 d, .nilmap]) = E at st1 hbE gE
 have onE := gE.on.trans on1
 have st2 : stP 1 (.ptr B.next 5) (.map C.next) E = some (.tuple [], E.put B.next (bxO 65 [.int .i64 2, .int .i64 mode, sv data, .int .i64 1, .int .i64 d, .map C.next])) := bx_st6 onE hbE rfl rfl (by decide) (set6_5 ..) rfl rfl rfl
 have hbF := bx_put (s := E) B.next 65 [.int .i64 2, .int .i64 mode, sv data, .int .i64 1, .int .i64 d, .map C.next]
 have gF := qb6 (s := E) B.next (bxO 65 [.int .i64 2, .int .i64 mode, sv data, .int .i64 1, .int .i64 d, .map C.next])
 generalize E.put B.next (bxO 65 [.int .i64 2, .int .i64 mode, sv data, .int .i64 1, .int .i64 d, .map C.next]) = F at st2 hbF gF
 have gEF := gE.trans gF
 have hTF : TabAt F b r { T with last := T.last + 1 } := hD.grew gEF fun x hx => by
  subst hx
  exact ⟨by omega, by omega, fun q hq => ⟨by have := (hbd.2.2 q hq).1; omega, fun e => by have := (hbd.2.2 q hq).2 _ e; omega⟩⟩
 have p1F : Cap F S.next 23 (.ptr b 0) := ⟨p1.bx.grew p1.lt (fun e => by omega) gEF, Nat.lt_of_lt_of_le p1.lt gEF.next⟩
 have p4F : Cap F (S.next + 3) 9 (sv data) := ⟨p4.bx.grew p4.lt (fun e => by omega) gEF, Nat.lt_of_lt_of_le p4.lt gEF.next⟩
 have hmF : MapAt F C.next (kvS []) := hmD.grew (by omega) (fun e => by omega) gEF
 have hFn := gEF.next
 obtain ⟨Y, y1, y2, y3⟩ := made_run hTF (m + 5) p1F a p4F hd hT' ⟨T.last + 1, B.next, qm3 2 mode data d (some C.next)⟩ hnew rfl hbF (fun m0 hm0 => by
  simp only [qm3, oS] at hm0
  subst hm0; exact hmF) (fun e => by cases e) S.next hbd ⟨by show S.next ≤ B.next; omega, by show B.next < F.next; omega⟩ (fun m0 hm0 => by
  simp only [qm3, oS] at hm0
  subst hm0
  exact ⟨by omega, by omega, by show C.next ≠ B.next; omega⟩) ⟨Nat.le_refl _, by show S.next ≠ B.next; omega⟩ ⟨by omega, by show S.next + 3 ≠ B.next; omega⟩ hq hm (qdw E0 (ev E0 KD (m + 5)) Try.f8) qda
 refine ⟨Y, B.next, C.next, rd8 (pre.trans ?_), y2, ?_, by omega, by omega⟩
 · clear pre
   generalize qn9 (ev E0 KD (m + 5)) qa4 (qdw E0 (ev E0 KD (m + 5)) Try.f8) qda = R at y1 ⊢
   simp only [qek, qcy, oB, Nat.zero_add]
   rw [st1, oB]
   dsimp only
   rw [st2, oB]
   exact y1
 · have gSD : Grew (Own b r T) S D := gC.trans (g1.mono fun _ _ h => h.elim)
   exact (gSD.own (show S.next ≤ B.next by omega) gEF).trans y3
end
section
variable {S U : St}
theorem build35r : qck E0 35 [(0, (.int .i64 2)), (1, (.int .i64 493)), (3, (.int .i64 1))] = some (qh4 [.int .i64 2, .int .i64 493, sv [], .int .i64 1]) := by kernel_rfl
theorem build65r (m : Nat) : qck E0 65 [(0, qh4 [.int .i64 2, .int .i64 493, sv [], .int .i64 1]), (1, (.int .i64 1)), (2, .map m)] = some (qh4 [.int .i64 2, .int .i64 493, sv [], .int .i64 1, .int .i64 1, .map m]) := by kernel_rfl
theorem build26r : qck E0 26 [(0, (.int .i64 1))] = some (qh4 [.int .i64 1, .int .i64 0]) := by kernel_rfl
theorem build68r (a c : Int) (r : Nat) : qck E0 68 [(0, qh4 [.int .i64 a, .int .i64 c]), (1, qh4 [.int .i64 1, .int .i64 0]), (2, .map r), (3, (.int .i64 1))] = some (qh4 [.int .i64 a, .int .i64 c, .int .i64 1, .int .i64 0, .map r, .int .i64 1]) := by kernel_rfl
def qfb (m : Nat) : Ino := { kind := 2, mode := 493, data := [], links := 1, up := 1, map := some m, ents := [] }
def qj1 (qi qb : Int) (nb nm : Nat) : Tab := { qi := qi, qb := qb, ui := 1, ub := 0, last := 1, nodes := [⟨1, nb, qfb nm⟩] }
theorem new_run (ho : S.on = false) (m : Nat) (qi qb : Int) (h1 : 1 ≤ qi ∧ qi ≤ 1048576) (h2 : 0 ≤ qb ∧ qb ≤ 1073741824) :
 ∃ U b r nb nm, (ev E0 KD (m + 1)).f 7 [qh4 [.int .i64 qi, .int .i64 qb]] S = some (.ret (.ptr b 0), U) ∧ TabAt U b r (qj1 qi qb nb nm) ∧ Grew (fun _ => False) S U ∧ S.next ≤ b ∧ S.next ≤ r ∧ S.next ≤ nb ∧ S.next ≤ nm := by
 obtain ⟨A, a1, a2, a3, a4⟩ := ql6 ho 26 [.int .i64 qi, .int .i64 qb]
 have onA := a3.on.trans ho
 have hb : nw A (.map [] 0) = nw A (.map [] 0) := rfl
 have g1 := qce onA (fun _ => False) (.map [] 0)
 have on1 : (nw A (.map [] 0)).on = false := qoe onA _
 have hm1 : MapAt (nw A (.map [] 0)) A.next (kvS []) := ⟨[], 0, by rw [qf8, if_pos rfl], MapOk.new⟩
 have hn1 : (nw A (.map [] 0)).next = A.next + 1 := rfl
 have hk1 : qbz E0 63 none A = some (.map A.next, nw A (.map [] 0)) := rfl
 generalize nw A (.map [] 0) = B at g1 on1 hm1 hn1 hk1
 obtain ⟨C, c1, c2, c3, c4⟩ := ql6 on1 65 [.int .i64 2, .int .i64 493, sv [], .int .i64 1, .int .i64 1, .map A.next]
 have on2 := c3.on.trans on1
 have g3 := qce on2 (fun _ => False) (.map [] 0)
 have on3 : (nw C (.map [] 0)).on = false := qoe on2 _
 have hm3 : MapAt (nw C (.map [] 0)) C.next (kvI []) := ⟨[], 0, by rw [qf8, if_pos rfl], MapOk.new⟩
 have hn3 : (nw C (.map [] 0)).next = C.next + 1 := rfl
 have hk3 : qbz E0 66 none C = some (.map C.next, nw C (.map [] 0)) := rfl
 generalize nw C (.map [] 0) = D at g3 on3 hm3 hn3 hk3
 obtain ⟨es, cl, e1, e2⟩ := qp8 on3 und66 hm3 1 (.ptr B.next 0)
 have e2' : qag E0 66 (.map C.next) (.int .i64 1) (.ptr B.next 0) D = some (D.put C.next (.map es cl)) := e2 none
 have hmE := qge (S := D) C.next (c := cl) e1
 have gE := qb6 (s := D) C.next (.map es cl)
 have onE : (D.put C.next (.map es cl)).on = false := on3
 have hnE : (D.put C.next (.map es cl)).next = D.next := rfl
 generalize D.put C.next (.map es cl) = E at e2' hmE gE onE hnE
 obtain ⟨F, f1, f2, f3, f4⟩ := ql6 onE 68 [.int .i64 qi, .int .i64 qb, .int .i64 1, .int .i64 0, .map C.next, .int .i64 1]
 have onF := f3.on.trans onE
 have rootD := (c2.grew (by omega) (fun h => h) g3).grew (show B.next < D.next by omega) (fun e => by omega) gE
 have rootF := rootD.grew (show B.next < E.next by omega) (fun h => h) f3
 have mapF := (((hm1.grew (by omega) (fun h => h) c3).grew (show A.next < C.next by omega) (fun h => h) g3).grew (show A.next < D.next by omega) (fun e => by omega) gE).grew (show A.next < E.next by omega) (fun h => h) f3
 have hT : TabAt F E.next C.next (qj1 qi qb B.next A.next) := by
  refine ⟨onF, f2, hmE.grew (by omega) (fun h => h) f3, fun p hp => ?_, fun p hp m hm => ?_, fun p hp hm => ?_, by omega, fun p hp => ?_, fun p hp m hm => ?_, fun p hp q hq _ => ?_, fun p hp q hq _ _ _ => ?_, by show ([1] : List Int).Nodup; decide, by omega, by omega, fun p hp => ?_, fun p hp m hm => ?_⟩
  all_goals (have hp' : p = ⟨1, B.next, qfb A.next⟩ := by simpa [qj1] using hp)
  all_goals subst hp'
  · exact rootF
  · simp only [qfb, oS] at hm
    subst hm
    exact mapF
  · cases hm
  · exact ⟨by show B.next ≠ E.next; omega, by show B.next ≠ C.next; omega⟩
  · simp only [qfb, oS] at hm
    subst hm
    refine ⟨by omega, by omega, fun q hq => ?_⟩
    have hq' : q = ⟨1, B.next, qfb A.next⟩ := by simpa [qj1] using hq
    subst hq'
    show A.next ≠ B.next
    omega
  · have hq' : q = ⟨1, B.next, qfb A.next⟩ := by simpa [qj1] using hq
    subst hq'; rfl
  · have hq' : q = ⟨1, B.next, qfb A.next⟩ := by simpa [qj1] using hq
    subst hq'; rfl
  · show B.next < F.next
    omega
  · simp only [qfb, oS] at hm
    subst hm
    omega
 refine ⟨F, E.next, C.next, B.next, A.next, rd7 ?_, hT, ?_, by omega, by omega, by omega, by omega⟩
 · show F7 (ev E0 KD m) qa4 (qh4 [.int .i64 qi, .int .i64 qb]) S = _
   have l0 : ld1 (.ptr S.next 0) A = some (.int .i64 qi, A) := Bx6.ld onA a2 big2 rfl
   have l1 : ld1 (.ptr S.next 1) A = some (.int .i64 qb, A) := Bx6.ld onA a2 big2 rfl
   have lA : Go.Proofs.Ytbihlgcdnhoknaa.Ev.ldA 2 (.ptr S.next 0) C = some (qh4 [.int .i64 qi, .int .i64 qb], C) := ((a2.grew (by omega) (fun h => h) g1).grew (show S.next < B.next by omega) (fun h => h) c3).ldA on2 rfl big2
   rw [F7_eq, a1, oB]
   dsimp only
   rw [qcy, oB, l0, oB]
   dsimp only
   rw [binV_ii, intsV_lss, oB, decide_eq_false (show ¬ qi < 1 by omega)]
   simp only [gFF, oB, cond_true, l0, pickV_bool, cond_false]
   rw [binV_ii, intsV_gtr, oB, decide_eq_false (show ¬ (1048576 : Int) < qi by omega)]
   simp only [gFF, oB, cond_true, qcy, Nat.zero_add, l1]
   rw [binV_ii, intsV_lss, oB, decide_eq_false (show ¬ qb < 0 by omega)]
   simp only [gFF, oB, cond_true, qcy, Nat.zero_add, l1, pickV_bool, cond_false]
   rw [binV_ii, intsV_gtr, oB, decide_eq_false (show ¬ (1073741824 : Int) < qb by omega), ifK_bool, cond_false, build35r, oB, hk1, oB]
   dsimp only
   rw [build65r, oB, c1, oB]
   dsimp only
   rw [lA, oB]
   dsimp only
   rw [build26r, oB, hk3, oB]
   dsimp only
   rw [e2']
   show ((some (V.tuple [], E)).bind _) = _
   rw [oB, build68r, oB]
   dsimp only
   rw [f1, oB]
 · have gS := ((a3.trans g1).trans c3).trans g3
   exact (gS.own (show S.next ≤ C.next by omega) gE).trans f3
end
section
variable {S U : St}
def qh0 (l : List (List UInt8)) : List (Tr V) := l.map fun a => Go.Proofs.Ytbihlgcdnhoknaa.Ev.one (sv a)
inductive NL (S : St) (r : Nat) : V → List (List UInt8) → Prop where
 | slice {l : List (List UInt8)} (h : RowAt S r 9 1 (qh0 l)) (hr : r < S.next) : NL S r (.slice r 0 l.length l.length) l
 | oslice {l : List (List UInt8)} (h : RowAt S r 9 1 (qh0 l)) (hr : r < S.next) (h0 : 0 < l.length) : NL S r (.oslice r 0 l.length 1) l
theorem qbv (l : List (List UInt8)) : (qh0 l).length = l.length := by unfold qh0; rw [List.length_map]
theorem NL.row {r : Nat} {v : V} {l : List (List UInt8)} (h : NL S r v l) : RowAt S r 9 1 (qh0 l) ∧ r < S.next := by cases h <;> exact ⟨by assumption, by assumption⟩
theorem NL.inv {r : Nat} {v : V} {l : List (List UInt8)} (h : NL S r v l) : v = .slice r 0 l.length l.length ∨ (v = .oslice r 0 l.length 1 ∧ 0 < l.length) := by
 cases h with
 | slice => exact .inl rfl
 | oslice _ _ h0 => exact .inr ⟨rfl, h0⟩
theorem NL.grew {W : Nat → Prop} {r : Nat} {v : V} {l : List (List UInt8)} (h : NL S r v l) (hw : ¬ W r) (g : Grew W S U) : NL U r v l := by
 cases h with
 | slice h hr => exact .slice (h.grew hr hw g) (Nat.lt_of_lt_of_le hr g.next)
 | oslice h hr h0 => exact .oslice (h.grew hr hw g) (Nat.lt_of_lt_of_le hr g.next) h0
theorem NL.len {r : Nat} {v : V} {l : List (List UInt8)} (h : NL S r v l) : lnS v S = some (.int .i64 (l.length : Int), S) := by cases h <;> rfl
theorem NL.ix {r : Nat} {v : V} {l : List (List UInt8)} (h : NL S r v l) (ho : S.on = false) {i : Nat} (hi : i < l.length) : ixP 1 v (.int .i64 (i : Int)) = some (.ptr r i) ∧ ld1 (.ptr r i) S = some (sv l[i], S) := by
 have hrow := h.row.1
 refine ⟨?_, ?_⟩
 · have h1 : ixP 1 v (.int .i64 (i : Int)) = bif Nat.blt i l.length then some (V.ptr r (0 + i * 1)) else none := by cases h <;> rfl
   rw [h1, blt_true.2 hi, cond_true, Nat.zero_add, Nat.mul_one]
 · show ld S r i = _
   exact hrow.ld1 ho (by unfold qh0; rw [List.getElem?_map, List.getElem?_eq_getElem hi]; rfl)
theorem und30 : und E0 30 = some (.slice 9) := by kernel_rfl
theorem size9 : qay E0 9 = some 1 := by kernel_rfl
inductive Part (r off k : Nat) : V → Prop where
 | slice (c : Nat) : Part r off k (.slice r off k c)
 | oslice : Part r off k (.oslice r off k 1)
 | eslice (h : k = 0) : Part r off k .eslice
theorem sizeB_row {r e : Nat} {l : List (Tr V)} (h : RowAt S r e 1 l) (L : List LE) : qlp (S.lg L) r = some (l.length, S.lg (⟨r, big - 1, big, false⟩ :: L)) := by
 obtain ⟨c, h1, _⟩ := h.row
 unfold qlp
 rw [show (S.lg L).heap.get r = _ from h1]
 simp only [show 1 * l.length = l.length from Nat.one_mul _, blt_true.2 h.len, cond_true]
 rfl
theorem NL.take {r : Nat} {v : V} {l : List (List UInt8)} (h : NL S r v l) {n : Nat} (hn : n ≤ l.length) : ∃ y L, qdg E0 30 v none (some (.int .i64 (n : Int))) none (onS S) = some (y, S.lg L) ∧ Part r 0 n y ∧ ∀ x ∈ L, x.w = false ∧ x.b = r := by
 have hb : qcj l.length l.length none (some (.int .i64 (n : Int))) none = some (0, n, l.length) := by
  unfold qcj
  simp only [oB, natOf_cast]
  rw [ble_true.2 hn]; rfl
 cases h with
 | slice h hr =>
  refine ⟨.slice r (0 + 0 * 1) (n - 0) (l.length - 0), [], ?_, ?_, fun x hx => by cases hx⟩
  · unfold qdg
    rw [und30, oB]
    simp only
    rw [hb, oB, size9, oB]; rfl
  · exact .slice _
 | oslice h hr h0 =>
  refine ⟨.oslice r (0 + 0 * 1) (n - 0) 1, [⟨r, big - 1, big, false⟩], ?_, ?_, fun x hx => ?_⟩
  · unfold qdg
    rw [und30, oB]
    simp only
    rw [size9, oB, show (Nat.beq 1 1 && Nat.blt 0 1) = true from rfl, cond_true, show onS S = S.lg [] from rfl, sizeB_row h, oB]
    simp only [qbv, Nat.sub_zero, Nat.div_one]
    rw [hb, oB]
    simp only
    rw [blt_true.2 h0]; rfl
  · exact .oslice
  · simp only [List.mem_singleton] at hx
    subst hx; exact ⟨rfl, rfl⟩
theorem NL.drop {r : Nat} {v : V} {l : List (List UInt8)} (h : NL S r v l) {n : Nat} (hn : n ≤ l.length) : ∃ y L, qdg E0 30 v (some (.int .i64 (n : Int))) none none (onS S) = some (y, S.lg L) ∧ Part r n (l.length - n) y ∧ ∀ x ∈ L, x.w = false ∧ x.b = r := by
 have hb : qcj l.length l.length (some (.int .i64 (n : Int))) none none = some (n, l.length, l.length) := by
  unfold qcj
  simp only [oB, natOf_cast]
  rw [ble_true.2 hn]; rfl
 cases h with
 | slice h hr =>
  refine ⟨.slice r (0 + n * 1) (l.length - n) (l.length - n), [], ?_, ?_, fun x hx => by cases hx⟩
  · unfold qdg
    rw [und30, oB]
    simp only
    rw [hb, oB, size9, oB]; rfl
  · rw [Nat.mul_one, Nat.zero_add]; exact .slice _
 | oslice h hr h0 =>
  have hs : qdg E0 30 (.oslice r 0 l.length 1) (some (.int .i64 (n : Int))) none none (onS S) = (bif Nat.blt n l.length then some (V.oslice r (0 + n * 1) (l.length - n) 1, S.lg [⟨r, big - 1, big, false⟩]) else bif Nat.beq n l.length then some (.eslice, S.lg [⟨r, big - 1, big, false⟩]) else none) := by
   unfold qdg
   rw [und30, oB]
   simp only
   rw [size9, oB, show (Nat.beq 1 1 && Nat.blt 0 1) = true from rfl, cond_true, show onS S = S.lg [] from rfl, sizeB_row h, oB]
   simp only [qbv, Nat.sub_zero, Nat.div_one]
   rw [hb, oB]
  rcases Nat.lt_or_ge n l.length with hlt | hge
  · refine ⟨.oslice r (0 + n * 1) (l.length - n) 1, [⟨r, big - 1, big, false⟩], ?_, ?_, fun x hx => ?_⟩
    · rw [hs, blt_true.2 hlt]; rfl
    · rw [Nat.mul_one, Nat.zero_add]; exact .oslice
    · simp only [List.mem_singleton] at hx
      subst hx; exact ⟨rfl, rfl⟩
  · have e : n = l.length := by omega
    refine ⟨.eslice, [⟨r, big - 1, big, false⟩], ?_, .eslice (by omega), fun x hx => ?_⟩
    · rw [hs, blt_false.2 hge, e, Nat.beq_refl]; rfl
    · simp only [List.mem_singleton] at hx
      subst hx; exact ⟨rfl, rfl⟩
end
def oddB (c : UInt8) : Bool := (c.toNat - 97) % 2 == 1
def dn (o : Bool) : Int := if o then 2 else 1
def nam (cs : List UInt8) : List (List UInt8) := cs.map fun c => [c]
structure Inv (T : Tab) (cs : List UInt8) (data : List UInt8) : Prop where
 num : T.qi = 10 ∧ T.qb = 300 ∧ T.ui = 3 ∧ T.ub = data.length ∧ T.last = 3
 dir : ∀ o : Bool, ∃ p m, T.get (dn o) = some p ∧ p.ino.kind = 2 ∧ p.ino.map = some m ∧ ∀ c ∈ cs, oddB c = o → lkS [c] p.ino.ents = some 3
 file : ∃ f, T.get 3 = some f ∧ f.ino.kind = 1 ∧ f.ino.data = data ∧ f.ino.links = cs.length ∧ f.ino.ents = []
section
variable {S U : St} {b r : Nat} {T : Tab}
theorem Own_step {T' : Tab} (h : ∀ p' ∈ T'.nodes, ∃ p ∈ T.nodes, p'.box = p.box ∧ p'.ino.map = p.ino.map) {x : Nat} (hx : Own b r T' x) : Own b r T x := by
 rcases hx with e | e | ⟨p', hp', e⟩
 · exact .inl e
 · exact .inr (.inl e)
 · obtain ⟨p, hp, h1, h2⟩ := h p' hp'
   exact .inr (.inr ⟨p, hp, by rw [← h1, ← h2]; exact e⟩)
theorem qg0 {i : Int} {f : Ino → Ino} (hf : ∀ n, (f n).map = n.map) {x : Nat} (hx : Own b r (T.upd i f) x) : Own b r T x :=
 Own_step (fun p' hp' => by
  obtain ⟨p, hp, rfl⟩ := updN_mem.1 hp'
  refine ⟨p, hp, ?_⟩
  split
  · exact ⟨rfl, hf _⟩
  · exact ⟨rfl, rfl⟩) hx
theorem own_del {i : Int} {x : Nat} (hx : Own b r (T.del i) x) : Own b r T x := Own_step (fun p' hp' => ⟨p', (qk5 i T.nodes).subset hp', rfl, rfl⟩) hx
end
def u8V (c : UInt8) : V := .int .u8 (c.toNat : Int)
section
variable {S U : St} {b r : Nat} {T : Tab}
theorem wrap_u8s {n : Int} (h0 : 0 ≤ n) (h1 : n < 256) : IntKind.u8.wrap n = n := by
 rw [← qbw]
 obtain ⟨k, rfl⟩ : ∃ k : Nat, n = k := ⟨n.toNat, by omega⟩
 show (bif Nat.blt k (qdx .u8) then Int.ofNat k else _) = _
 rw [blt_true.2 (show k < qdx .u8 by show k < 256; omega)]; rfl
def letters (cs : List UInt8) : Prop := ∀ c ∈ cs, 97 ≤ c.toNat ∧ c.toNat ≤ 108
theorem agg4 (S : St) (ho : S.on = false) (a c d e : V) : ∃ U, stP 4 (.ptr S.next 0) (qh4 [a, c, d, e]) (nwP 35 4 (Tr.ofListFrom .nil [(.int .i64 0), (.int .i64 0), (sv []), (.int .i64 0)] 0) S).2 = some (.tuple [], U) ∧ Bx U S.next 35 [a, c, d, e] ∧ Grew (fun _ => False) S U ∧ U.next = S.next + 1 := qjt ho 35 4 _ [a, c, d, e] rfl (by decide) big4
end
section
variable {S U : St} {b r : Nat} {T : Tab}
theorem und22 : und E0 22 = some (.slice 5) := by kernel_rfl
theorem und5 : und E0 5 = some (.int .u8) := by kernel_rfl
theorem quota_ne (x y z w : Int) : qab E0 .neq 26 false false (qh4 [.int .i64 x, .int .i64 y]) (qh4 [.int .i64 z, .int .i64 w]) = (bif iEq x z then (bif iEq y w then some true else some false) else some false).bind fun b => some (.bool (!b)) := by kernel_rfl
theorem qky (x y : Int) : qab E0 .neq 26 false false (qh4 [.int .i64 x, .int .i64 y]) (qh4 [.int .i64 x, .int .i64 y]) = some (.bool false) := by
 rw [quota_ne, qh6, qh6, beq_self_eq_true, beq_self_eq_true]; rfl
theorem build26 (x y : Int) : qck E0 26 [(0, (.int .i64 x)), (1, (.int .i64 y))] = some (qh4 [.int .i64 x, .int .i64 y]) := by kernel_rfl
theorem NL.push (ho : S.on = false) {x : Nat} {v : V} {l : List (List UInt8)} (h : NL S x v l) (hl : l.length < 1000) (h0 : 0 < l.length) (a : List UInt8) : ∃ v' U y W, bsP 9 1 1 (Go.Proofs.Ytbihlgcdnhoknaa.Ev.one (sv [])) [(0, sv a)] S = some (y, W) ∧ apP 9 1 16 v y W = some (v', U) ∧ NL U (S.next + 1) v' (l ++ [a]) ∧ Grew (fun z => z = x) S U := by
 obtain ⟨W, h1, h2, h3, h4⟩ := bsP_one ho 9 (Go.Proofs.Ytbihlgcdnhoknaa.Ev.one (sv [])) (qgv a)
 have on1 := h3.on.trans ho
 have hx := h.row.2
 have hrow := h.row.1.grew hx (fun h => h) h3
 have hlm : (l ++ [a]).length = l.length + 1 := by rw [List.length_append]; rfl
 have hra : qh0 (l ++ [a]) = qh0 l ++ [Go.Proofs.Ytbihlgcdnhoknaa.Ev.one (sv a)] := by unfold qh0; rw [List.map_append]; rfl
 rcases h.inv with rfl | ⟨rfl, _⟩
 · have hld := hrow.ldN on1 l.length 0 (by rw [qbv]; omega)
   rw [Nat.zero_mul, List.drop_zero, List.take_of_length_le (by rw [qbv]; exact Nat.le_refl _)] at hld
   have hl1 := h2.ldN on1 1 0 (by simp)
   rw [Nat.zero_mul, List.drop_zero, List.take_of_length_le (by simp)] at hl1
   refine ⟨.oslice W.next 0 (l.length + 1) 1, qac W 9 1 (qh0 l ++ [Go.Proofs.Ytbihlgcdnhoknaa.Ev.one (sv a)]), _, W, h1, ?_, ?_, ?_⟩
   · unfold apP
     rw [show lenV (.slice S.next 0 1 1) = some 1 from rfl, oB, show lenV (.slice x 0 l.length l.length) = some l.length from rfl, oB, blt_true.2 (show (l.length + 1) * (16 + 1 + 1) < qal by unfold qal; omega), cond_true]
     unfold qdi
     rw [show qb9 1 1 (.slice S.next 0 1 1) W = _ from hl1, oB]
     simp only
     rw [show Nat.ble (l.length + 1) l.length = false from by rw [qne]; omega, cond_false, show qb9 1 l.length (.slice x 0 l.length l.length) W = _ from hld, oB]
   · rw [h4]
     have := qea (e := 9) (z := 1) (l := qh0 (l ++ [a])) on1 (by omega) (by rw [qbv, hlm]; unfold big; omega)
     rw [← hra, ← hlm]
     rw [h4] at this
     exact .oslice this (by show S.next + 1 < W.next + 1; omega) (by omega)
   · exact (h3.mono fun _ _ h => h.elim).trans (qce on1 _ _)
 · obtain ⟨U, k1, k2, k3, k4⟩ := ap1_more (B := 16) on1 h2 hrow (by rw [qbv]; unfold qal; omega) (by rw [qbv]; unfold big; omega)
   rw [qbv] at k1
   refine ⟨_, U, _, W, h1, k1, ?_, (h3.mono fun _ _ h => h.elim).trans k3⟩
   rw [h4] at k2 ⊢
   rw [← hra] at k2
   rw [← hlm]
   exact .oslice k2 (by omega) (by omega)
end
open Go.RowKit
section
variable {S U : St} {b r : Nat} {T : Tab}
theorem works_known (n : Nat) (S : St) : (ev E0 KD (n + 1)).f 15 [] S = some (.ret (.bool true), S) := by
 rw [qgp (show KD 15 = some kfTrue from rfl)]
 exact kfTrue_run S
end
section
variable {S U : St} {b r : Nat} {T : Tab}
end
end Go.Proofs.Ytbihlgcdnhoknaa.W
namespace Go.Proofs.Ytbihlgcdnhoknaa.W
open Go.Proofs.Ytbihlgcdnhoknaa.Ev
theorem u5 : Try.prog.underlying 5 = some (.int .u8) := by kernel_rfl
theorem c5 : Try.prog.cellsOf 5 = 1 := by kernel_rfl
theorem u8_byte {n : Int} (h : (Lit.int .u8 n).wf = true) : ∃ b : UInt8, n = (b.toNat : Int) := by
 unfold Lit.wf at h
 simp only [Bool.and_eq_true, decide_eq_true_eq] at h
 have e1 : IntKind.u8.min = 0 := by decide
 have e2 : IntKind.u8.max = 255 := by decide
 rw [e1, e2] at h
 refine ⟨UInt8.ofNat n.toNat, ?_⟩
 rw [UInt8.toNat_ofNat']
 omega
theorem qht {α : Type} {f : Nat → Option α} : ∀ (n k : Nat) {r : List α}, ((List.range' k n).mapM f) = some r → r.length = n ∧ ∀ i, i < n → ∃ y, r[i]? = some y ∧ f (k + i) = some y
 | 0, k, r, h => by
  simp at h; subst h
  exact ⟨rfl, fun i hi => by omega⟩
 | n + 1, k, r, h => by
  rw [List.range'_succ, List.mapM_cons] at h
  simp only [Option.bind_eq_bind, oI, Option.pure_def, oS] at h
  obtain ⟨y, hy, r', hr', rfl⟩ := h
  obtain ⟨h1, h2⟩ := qht n (k + 1) hr'
  refine ⟨by simp [h1], fun i hi => ?_⟩
  cases i with
  | zero => exact ⟨y, rfl, hy⟩
  | succ i =>
   obtain ⟨z, hz1, hz2⟩ := h2 i (by omega)
   exact ⟨z, by simpa using hz1, by rw [show k + (i + 1) = k + 1 + i by omega]; exact hz2⟩
theorem cells?_at {W : World} {a : Addr} {n : Nat} {cs : List Value} (h : W.cells? 0 a n = some cs) : cs.length = n ∧ ∀ i, i < n → ∃ y, cs[i]? = some y ∧ W.cell? (a.add i) = some y := by
 unfold World.cells? at h
 rw [if_pos (Nat.zero_le _), List.range_eq_range'] at h
 obtain ⟨h1, h2⟩ := qht n 0 h
 exact ⟨h1, fun i hi => by
  obtain ⟨y, hy1, hy2⟩ := h2 i hi
  exact ⟨y, hy1, by rw [Nat.zero_add] at hy2; exact hy2⟩⟩
theorem add_eq {a : Addr} (h : a.spot = none) (n : Nat) : a.add n = ⟨a.block, a.off + n, none⟩ := by
 unfold Addr.add
 split
 · rename_i h0
   subst h0
   cases a
   simp only at h
   subst h
   rfl
 · rfl
def qgk (i : Int) (kv : List (List UInt8 × Int)) : Nat := (kv.map fun p => if p.2 = i then 1 else 0).sum
def qdu (i : Int) (l : List Nod) : Nat := (l.map fun p => qgk i p.ino.ents).sum
theorem qed (i : Int) (p : List UInt8 × Int) (kv) : qgk i (p :: kv) = (if p.2 = i then 1 else 0) + qgk i kv := by
 unfold qgk
 rw [List.map_cons, List.sum_cons]
theorem qbt (i : Int) (p : Nod) (l) : qdu i (p :: l) = qgk i p.ino.ents + qdu i l := by
 unfold qdu
 rw [List.map_cons, List.sum_cons]
theorem qmp (i : Int) {a : List UInt8} (v : Int) : ∀ {kv : List (List UInt8 × Int)}, lkS a kv = none → qgk i (qat a v kv) = qgk i kv + if v = i then 1 else 0
 | [], _ => by
  unfold qat
  rw [qed]
  unfold qgk
  simp
 | p :: kv, h => by
  unfold lkS at h
  unfold qat
  by_cases hc : a = p.1
  · rw [if_pos hc] at h; cases h
  · rw [if_neg hc] at h
    rw [if_neg hc, qed, qed, qmp i v h]
    omega
theorem qnl (i : Int) {a : List UInt8} {v : Int} : ∀ {kv : List (List UInt8 × Int)}, lkS a kv = some v → qgk i kv = qgk i (qa7 a kv) + if v = i then 1 else 0
 | [], h => by cases h
 | p :: kv, h => by
  unfold lkS at h
  unfold qa7
  by_cases hc : a = p.1
  · rw [if_pos hc] at h
    cases h
    rw [if_pos hc, qed]
    omega
  · rw [if_neg hc] at h
    rw [if_neg hc, qed, qed, qnl i h]
    omega
theorem qmo {i : Int} : ∀ {kv : List (List UInt8 × Int)} {e : List UInt8 × Int}, e ∈ kv → e.2 = i → 1 ≤ qgk i kv
 | p :: kv, e, h, he => by
  rw [qed]
  rcases List.mem_cons.1 h with rfl | h
  · rw [if_pos he]; omega
  · have := qmo h he
    omega
theorem cntS_mem {i : Int} : ∀ {kv : List (List UInt8 × Int)}, 1 ≤ qgk i kv → ∃ e ∈ kv, e.2 = i
 | [], h => by unfold qgk at h; simp at h
 | p :: kv, h => by
  rw [qed] at h
  by_cases hp : p.2 = i
  · exact ⟨p, List.mem_cons_self .., hp⟩
  · rw [if_neg hp, Nat.zero_add] at h
    obtain ⟨e, h1, h2⟩ := cntS_mem (kv := kv) h
    exact ⟨e, List.mem_cons_of_mem _ h1, h2⟩
theorem qjh {a : List UInt8} {v : Int} : ∀ {kv : List (List UInt8 × Int)}, lkS a kv = some v → (a, v) ∈ kv
 | p :: kv, h => by
  unfold lkS at h
  by_cases hc : a = p.1
  · rw [if_pos hc] at h
    cases h
    rw [hc]; exact List.mem_cons_self ..
  · rw [if_neg hc] at h
    exact List.mem_cons_of_mem _ (qjh h)
theorem qgf {a : List UInt8} {v : Int} : ∀ {kv : List (List UInt8 × Int)} {e : List UInt8 × Int}, e ∈ qat a v kv → e = (a, v) ∨ e ∈ kv
 | [], e, h => by
  unfold qat at h
  exact .inl (List.mem_singleton.1 h)
 | p :: kv, e, h => by
  unfold qat at h
  by_cases hc : a = p.1
  · rw [if_pos hc] at h
    rcases List.mem_cons.1 h with h | h
    · exact .inl h
    · exact .inr (List.mem_cons_of_mem _ h)
  · rw [if_neg hc] at h
    rcases List.mem_cons.1 h with h | h
    · exact .inr (h ▸ List.mem_cons_self ..)
    · rcases qgf h with h | h
      · exact .inl h
      · exact .inr (List.mem_cons_of_mem _ h)
theorem qe3 {a : List UInt8} : ∀ {kv : List (List UInt8 × Int)} {e : List UInt8 × Int}, e ∈ qa7 a kv → e ∈ kv
 | p :: kv, e, h => by
  unfold qa7 at h
  by_cases hc : a = p.1
  · rw [if_pos hc] at h; exact List.mem_cons_of_mem _ h
  · rw [if_neg hc] at h
    rcases List.mem_cons.1 h with h | h
    · exact h ▸ List.mem_cons_self ..
    · exact List.mem_cons_of_mem _ (qe3 h)
theorem qij {a : List UInt8} {v : Int} : ∀ {kv : List (List UInt8 × Int)}, lkS a kv = none → (kv.map (·.1)).Nodup → ((qat a v kv).map (·.1)).Nodup
 | [], _, _ => by unfold qat; simp
 | p :: kv, h, hn => by
  unfold lkS at h
  unfold qat
  by_cases hc : a = p.1
  · rw [if_pos hc] at h; cases h
  · rw [if_neg hc] at h
    rw [List.map_cons, List.nodup_cons] at hn
    rw [if_neg hc, List.map_cons, List.nodup_cons]
    refine ⟨fun hm => ?_, qij h hn.2⟩
    obtain ⟨e, he, he2⟩ := List.mem_map.1 hm
    rcases qgf he with rfl | he
    · exact hc he2
    · exact hn.1 (List.mem_map.2 ⟨e, he, he2⟩)
theorem qf6 {a : List UInt8} : ∀ {kv : List (List UInt8 × Int)}, (kv.map (·.1)).Nodup → ((qa7 a kv).map (·.1)).Nodup
 | [], h => h
 | p :: kv, h => by
  rw [List.map_cons, List.nodup_cons] at h
  unfold qa7
  by_cases hc : a = p.1
  · rw [if_pos hc]; exact h.2
  · rw [if_neg hc, List.map_cons, List.nodup_cons]
    refine ⟨fun hm => ?_, qf6 h.2⟩
    obtain ⟨e, he, he2⟩ := List.mem_map.1 hm
    exact h.1 (List.mem_map.2 ⟨e, qe3 he, he2⟩)
theorem qk4 (i : Int) {d : Int} (f : Ino → Ino) : ∀ {l : List Nod} {p : Nod}, (l.map (·.no)).Nodup → qfk d l = some p → qdu i (qbs d f l) + qgk i p.ino.ents = qdu i l + qgk i (f p.ino).ents
 | [], p, _, h => by cases h
 | q :: l, p, hn, h => by
  rw [List.map_cons, List.nodup_cons] at hn
  unfold qfk at h
  show qdu i ((if q.no = d then ({ q with ino := f q.ino } : Nod) else q) :: qbs d f l) + _ = _
  by_cases hc : d = q.no
  · rw [if_pos hc] at h
    cases h
    have hrest : qbs d f l = l := by
     unfold qbs
     conv => rhs; rw [← List.map_id l]
     refine List.map_congr_left fun x hx => ?_
     rw [if_neg (fun e => hn.1 (List.mem_map.2 ⟨x, hx, by rw [e, hc]⟩))]
     rfl
    rw [if_pos hc.symm, hrest, qbt, qbt]
    show qgk i (f q.ino).ents + qdu i l + qgk i q.ino.ents = qgk i q.ino.ents + qdu i l + qgk i (f q.ino).ents
    omega
  · rw [if_neg hc] at h
    rw [if_neg (fun e => hc e.symm), qbt, qbt]
    have := qk4 i f hn.2 h
    omega
theorem qk3 (i : Int) {d : Int} {f : Ino → Ino} (hf : ∀ n, (f n).ents = n.ents) : ∀ l : List Nod, qdu i (qbs d f l) = qdu i l
 | [] => rfl
 | q :: l => by
  show qdu i ((if q.no = d then ({ q with ino := f q.ino } : Nod) else q) :: qbs d f l) = _
  rw [qbt, qbt, qk3 i hf l]
  split
  · show qgk i (f q.ino).ents + _ = _
    rw [hf]
  · rfl
theorem cntT_del (j : Int) {i : Int} : ∀ {l : List Nod} {p : Nod}, qfk i l = some p → qdu j l = qdu j (delN i l) + qgk j p.ino.ents
 | [], p, h => by cases h
 | q :: l, p, h => by
  unfold qfk at h
  unfold delN
  by_cases hc : i = q.no
  · rw [if_pos hc] at h
    cases h
    rw [if_pos hc, qbt]; omega
  · rw [if_neg hc] at h
    rw [if_neg hc, qbt, qbt, cntT_del j h]; omega
theorem cntT_add (i : Int) (p : Nod) : ∀ l : List Nod, qdu i (l ++ [p]) = qdu i l + qgk i p.ino.ents
 | [] => by rw [List.nil_append, qbt]; unfold qdu; simp
 | q :: l => by rw [List.cons_append, qbt, qbt, cntT_add i p l]; omega
theorem cntT_le {i : Int} : ∀ {l : List Nod} {p : Nod}, p ∈ l → qgk i p.ino.ents ≤ qdu i l
 | q :: l, p, h => by
  rw [qbt]
  rcases List.mem_cons.1 h with rfl | h
  · omega
  · have := cntT_le (i := i) h
    omega
theorem qk2 {i : Int} : ∀ {l : List Nod}, 1 ≤ qdu i l → ∃ p ∈ l, ∃ e ∈ p.ino.ents, e.2 = i
 | [], h => by unfold qdu at h; simp at h
 | q :: l, h => by
  rw [qbt] at h
  by_cases hq : 1 ≤ qgk i q.ino.ents
  · obtain ⟨e, h1, h2⟩ := cntS_mem hq
    exact ⟨q, List.mem_cons_self .., e, h1, h2⟩
  · obtain ⟨p, h1, h2⟩ := qk2 (l := l) (i := i) (show 1 ≤ qdu i l by omega)
    exact ⟨p, List.mem_cons_of_mem _ h1, h2⟩
end Go.Proofs.Ytbihlgcdnhoknaa.W
