/-
  WHAT THE FUNCTIONS COME TO: each is read by the evaluator, printed, and told as a function of data, part 5 of 11 (no condition).
-/
import Derived.Test.YtbihlgcdnhoknaaW4
namespace Go.Proofs.Ytbihlgcdnhoknaa.W
open Go.Proofs.Ytbihlgcdnhoknaa.Ev
def atS (U S : St) : St := { U with on := false, log := S.log }
section
variable {S U : St}
theorem qfp (ho : S.on = false) (l : List LE) (ls : List (List LE)) : qbf S (U.lg l) ls = atS U S := by
 unfold qbf
 rw [ho]; rfl
theorem qdq (ho : S.on = false) (ls : List (List LE)) : qbf S (onS U) ls = atS U S := qfp ho [] ls
theorem qcm {W : Nat → Prop} (g : Grew W S U) (ho : S.on = false) : Grew W S (atS U S) := ⟨g.next, ho.symm, g.keep⟩
theorem Bx6.ldL (ho : S.on = false) {x e : Nat} {l : List V} (h : Bx S x e l) (hl : l.length < big) {i : Nat} {v : V} (hv : l[i]? = some v) : ld1 (.ptr x i) (onS S) = some (v, S.lg [⟨x, i, i + 1, false⟩]) := by
 obtain ⟨hi, he⟩ := List.getElem?_eq_some_iff.1 hv
 rw [h.ld1On ho i hi hl, he]; rfl
theorem Cap.ldL {x e : Nat} {v : V} (h : Cap S x e v) (ho : S.on = false) : ld1 (.ptr x 0) (onS S) = some (v, S.lg [⟨x, 0, 1, false⟩]) := Bx6.ldL ho h.bx big1 rfl
variable {b r : Nat} {T : Tab}
theorem TabAt.ldL (h : TabAt S b r T) {i : Nat} {v : V} (hv : (T.cells r)[i]? = some v) : ld1 (.ptr b i) (onS S) = some (v, S.lg [⟨b, i, i + 1, false⟩]) := Bx6.ldL h.on h.tb big6 hv
theorem TabAt.ndL (h : TabAt S b r T) {i : Int} {p : Nod} (hp : T.get i = some p) {k : Nat} {v : V} (hv : p.ino.cells[k]? = some v) : ld1 (.ptr p.box k) (onS S) = some (v, S.lg [⟨p.box, k, k + 1, false⟩]) := Bx6.ldL h.on (h.nd p (qan hp).1) big6 hv
theorem qgd (h : TabAt S b r T) (i : Int) : qae E0 66 (.map r) (.int .i64 i) false (onS S) = some (qkw (T.get i), S.lg [⟨r, 0, big, false⟩]) := look_tab h i (some [])
theorem oneP (x : Nat) (o : Nat) : OneV (.ptr x o) := ⟨rfl, rfl, rfl, rfl⟩
theorem oneF (f : Fn) (x y : List V) : OneV (.fn f x y) := ⟨rfl, rfl, rfl, rfl⟩
theorem box1_run (ho : S.on = false) (e : Nat) {v : V} (hv : OneV v) : ∃ U, (∀ m (k : V × St → Rs), (qd7 e v (stt S m)).bind k = k (.ptr S.next 0, stt U (m.map fun l => ⟨S.next, 0, big, true⟩ :: l))) ∧ Cap U S.next e v ∧ Grew (fun _ => False) S U ∧ U.next = S.next + 1 := by
 obtain ⟨U, h1, h2, h3, h4⟩ := ql7 ho e hv
 exact ⟨U, fun m k => by rw [h1 m, oB], ⟨h2, by omega⟩, h3, h4⟩
theorem qoa (n : Nat) (ho : S.on = false) (a : List UInt8) : ∃ U, (∀ m, (ev E0 KD (n + 1)).f 29 [sv a] (stt S m) = some (.ret (.fn (.func 58) [] [.ptr S.next 0]), stt U (m.map fun l => ⟨S.next, 0, big, true⟩ :: l))) ∧ Cap U S.next 9 (sv a) ∧ Grew (fun _ => False) S U ∧ U.next = S.next + 1 := by
 obtain ⟨U, h1, h2, h3, h4⟩ := box1_run ho 9 (qgv a)
 refine ⟨U, fun m => rd29 ?_, h2, h3, h4⟩
 show F29 (ev E0 KD n) qa4 (sv a) (stt S m) = _
 rw [F29_eq, h1]
theorem box2_run (ho : S.on = false) (e e2 : Nat) {v v2 : V} (hv : OneV v) (hv2 : OneV v2) : ∃ U, (∀ m (k : V × St → V × St → Rs), ((qd7 e v (stt S m)).bind fun p0 => (qd7 e2 v2 p0.2).bind fun p1 => k p0 p1) = k (.ptr S.next 0, stt (qac S e v.size [v.cells]) (m.map fun l => ⟨S.next, 0, big, true⟩ :: l)) (.ptr (S.next + 1) 0, stt U (m.map fun l => ⟨S.next + 1, 0, big, true⟩ :: ⟨S.next, 0, big, true⟩ :: l))) ∧ Cap U S.next e v ∧ Cap U (S.next + 1) e2 v2 ∧ Grew (fun _ => False) S U ∧ U.next = S.next + 2 := by
 obtain ⟨U1, h1, h2, h3, h4⟩ := ql7 ho e hv
 have hU1 : U1 = qac S e v.size [v.cells] := by
  have := h1 none
  unfold qd7 at this
  simp only [hv.tup, cond_false] at this
  have h := congrArg (fun o : Option (V × St) => o.map Prod.snd) this
  exact (Option.some.inj h).symm
 obtain ⟨U2, k1, k2, k3, k4⟩ := ql7 (h3.on.trans ho) e2 hv2
 have c1 : Cap U1 S.next e v := ⟨h2, by omega⟩
 rw [h4] at k1 k2
 refine ⟨U2, fun m k => ?_, c1.grew k3, ⟨k2, by omega⟩, h3.trans k3, by omega⟩
 rw [h1 m, oB]
 dsimp only
 rw [k1, oB, qer, hU1]
theorem box3_run (ho : S.on = false) (e e2 e3 : Nat) {v v2 v3 : V} (hv : OneV v) (hv2 : OneV v2) (hv3 : OneV v3) : ∃ U, (∀ m (k : V → V → V × St → Rs), ((qd7 e v (stt S m)).bind fun p0 => (qd7 e2 v2 p0.2).bind fun p1 => (qd7 e3 v3 p1.2).bind fun p2 => k p0.1 p1.1 p2) = k (.ptr S.next 0) (.ptr (S.next + 1) 0) (.ptr (S.next + 2) 0, stt U (m.map fun l => ⟨S.next + 2, 0, big, true⟩ :: ⟨S.next + 1, 0, big, true⟩ :: ⟨S.next, 0, big, true⟩ :: l))) ∧ Cap U S.next e v ∧ Cap U (S.next + 1) e2 v2 ∧ Cap U (S.next + 2) e3 v3 ∧ Grew (fun _ => False) S U ∧ U.next = S.next + 3 := by
 obtain ⟨U1, h1, h2, h3, h4⟩ := ql7 ho e hv
 obtain ⟨U2, k1, k2, k3, k4⟩ := ql7 (h3.on.trans ho) e2 hv2
 obtain ⟨U3, l1, l2, l3, l4⟩ := ql7 (k3.on.trans (h3.on.trans ho)) e3 hv3
 have c1 : Cap U1 S.next e v := ⟨h2, by omega⟩
 rw [h4] at k1 k2 k4
 rw [k4] at l1 l2
 have c2 : Cap U2 (S.next + 1) e2 v2 := ⟨k2, by omega⟩
 refine ⟨U3, fun m k => ?_, (c1.grew k3).grew l3, c2.grew l3, ⟨l2, by omega⟩, (h3.trans k3).trans l3, by omega⟩
 rw [h1 m, oB]
 dsimp only
 rw [k1, oB]
 dsimp only
 rw [l1, oB, qer, qer]
theorem ql9 (n : Nat) (ho : S.on = false) (b : Nat) (d : Int) : ∃ U, (∀ m, (ev E0 KD (n + 1)).f 28 [.ptr b 0, .int .i64 d] (stt S m) = some (.ret (.fn (.func 57) [] [.ptr S.next 0, .ptr (S.next + 1) 0]), stt U (m.map fun l => ⟨S.next + 1, 0, big, true⟩ :: ⟨S.next, 0, big, true⟩ :: l))) ∧ Cap U S.next 23 (.ptr b 0) ∧ Cap U (S.next + 1) 3 (.int .i64 d) ∧ Grew (fun _ => False) S U ∧ U.next = S.next + 2 := by
 obtain ⟨U, h1, h2, h3, h4, h5⟩ := box2_run ho 23 3 (oneP b 0) (qb5 .i64 d)
 refine ⟨U, fun m => rd28 ?_, h2, h3, h4, h5⟩
 show F28 (ev E0 KD n) qa4 (.ptr b 0) (.int .i64 d) (stt S m) = _
 rw [F28_eq, h1]
theorem file_run (n : Nat) (ho : S.on = false) (b : Nat) (d : Int) : ∃ U, (∀ m, (ev E0 KD (n + 1)).f 33 [.ptr b 0, .int .i64 d] (stt S m) = some (.ret (.fn (.func 62) [] [.ptr S.next 0, .ptr (S.next + 1) 0]), stt U (m.map fun l => ⟨S.next + 1, 0, big, true⟩ :: ⟨S.next, 0, big, true⟩ :: l))) ∧ Cap U S.next 23 (.ptr b 0) ∧ Cap U (S.next + 1) 3 (.int .i64 d) ∧ Grew (fun _ => False) S U ∧ U.next = S.next + 2 := by
 obtain ⟨U, h1, h2, h3, h4, h5⟩ := box2_run ho 23 3 (oneP b 0) (qb5 .i64 d)
 refine ⟨U, fun m => rd33 ?_, h2, h3, h4, h5⟩
 show F33 (ev E0 KD n) qa4 (.ptr b 0) (.int .i64 d) (stt S m) = _
 rw [F33_eq, h1]
theorem free_run (n : Nat) (ho : S.on = false) (b : Nat) (d : Int) (a : List UInt8) : ∃ U, (∀ m, (ev E0 KD (n + 1)).f 30 [.ptr b 0, .int .i64 d, sv a] (stt S m) = some (.ret (.fn (.func 60) [] [.ptr S.next 0, .ptr (S.next + 1) 0, .ptr (S.next + 2) 0]), stt U (m.map fun l => ⟨S.next + 2, 0, big, true⟩ :: ⟨S.next + 1, 0, big, true⟩ :: ⟨S.next, 0, big, true⟩ :: l))) ∧ Cap U S.next 23 (.ptr b 0) ∧ Cap U (S.next + 1) 3 (.int .i64 d) ∧ Cap U (S.next + 2) 9 (sv a) ∧ Grew (fun _ => False) S U ∧ U.next = S.next + 3 := by
 obtain ⟨U, h1, h2, h3, h4, h5, h6⟩ := box3_run ho 23 3 9 (oneP b 0) (qb5 .i64 d) (qgv a)
 refine ⟨U, fun m => rd30 ?_, h2, h3, h4, h5, h6⟩
 show F30 (ev E0 KD n) qa4 (.ptr b 0) (.int .i64 d) (sv a) (stt S m) = _
 rw [F30_eq]
 exact h1 m fun x y z => some (.ret (.fn (.func 60) [] [x, y, z.1]), z.2)
theorem qnv (n : Nat) (ho : S.on = false) (b : Nat) (d : Int) (a : List UInt8) : ∃ U, (∀ m, (ev E0 KD (n + 1)).f 37 [.ptr b 0, .int .i64 d, sv a] (stt S m) = some (.ret (.fn (.func 63) [] [.ptr S.next 0, .ptr (S.next + 1) 0, .ptr (S.next + 2) 0]), stt U (m.map fun l => ⟨S.next + 2, 0, big, true⟩ :: ⟨S.next + 1, 0, big, true⟩ :: ⟨S.next, 0, big, true⟩ :: l))) ∧ Cap U S.next 23 (.ptr b 0) ∧ Cap U (S.next + 1) 3 (.int .i64 d) ∧ Cap U (S.next + 2) 9 (sv a) ∧ Grew (fun _ => False) S U ∧ U.next = S.next + 3 := by
 obtain ⟨U, h1, h2, h3, h4, h5, h6⟩ := box3_run ho 23 3 9 (oneP b 0) (qb5 .i64 d) (qgv a)
 refine ⟨U, fun m => rd37 ?_, h2, h3, h4, h5, h6⟩
 show F37 (ev E0 KD n) qa4 (.ptr b 0) (.int .i64 d) (sv a) (stt S m) = _
 rw [F37_eq]
 exact h1 m fun x y z => some (.ret (.fn (.func 63) [] [x, y, z.1]), z.2)
theorem room_run (n : Nat) (ho : S.on = false) (b : Nat) (i k : Int) : ∃ U, (∀ m, (ev E0 KD (n + 1)).f 32 [.ptr b 0, .int .i64 i, .int .i64 k] (stt S m) = some (.ret (.fn (.func 61) [] [.ptr S.next 0, .ptr (S.next + 1) 0, .ptr (S.next + 2) 0]), stt U (m.map fun l => ⟨S.next + 2, 0, big, true⟩ :: ⟨S.next + 1, 0, big, true⟩ :: ⟨S.next, 0, big, true⟩ :: l))) ∧ Cap U S.next 23 (.ptr b 0) ∧ Cap U (S.next + 1) 3 (.int .i64 i) ∧ Cap U (S.next + 2) 3 (.int .i64 k) ∧ Grew (fun _ => False) S U ∧ U.next = S.next + 3 := by
 obtain ⟨U, h1, h2, h3, h4, h5, h6⟩ := box3_run ho 23 3 3 (oneP b 0) (qb5 .i64 i) (qb5 .i64 k)
 refine ⟨U, fun m => rd32 ?_, h2, h3, h4, h5, h6⟩
 show F32 (ev E0 KD n) qa4 (.ptr b 0) (.int .i64 i) (.int .i64 k) (stt S m) = _
 rw [F32_eq]
 exact h1 m fun x y z => some (.ret (.fn (.func 61) [] [x, y, z.1]), z.2)
def qau : Int := 4611686018427387904
structure Fits (T : Tab) : Prop where
 ui : -qau < T.ui ∧ T.ui < qau
 ub : -qau < T.ub ∧ T.ub < qau
def qmg (T : Tab) (n k : Int) : Int := if T.ui + n ≤ T.qi ∧ T.ub + k ≤ T.qb then 0 else 10
theorem addI (t : TypeId) (c d : Bool) (x y : Int) (hx : -qau < x ∧ x < qau) (hy : -qau < y ∧ y < qau) : qab E0 .add t c d (.int .i64 x) (.int .i64 y) = some (.int .i64 (x + y)) := by
 unfold qau at hx hy
 rw [binV_ii, intsV_add, qes (by omega) (by omega)]
theorem subI (t : TypeId) (c d : Bool) (x y : Int) (hx : -qau < x ∧ x < qau) (hy : -qau < y ∧ y < qau) : qab E0 .sub t c d (.int .i64 x) (.int .i64 y) = some (.int .i64 (x - y)) := by
 unfold qau at hx hy
 rw [binV_ii, intsV_sub, qes (by omega) (by omega)]
theorem leqI (t : TypeId) (c d : Bool) (x y : Int) : qab E0 .leq t c d (.int .i64 x) (.int .i64 y) = some (.bool (decide (x ≤ y))) := by rw [binV_ii, intsV_leq]
theorem room1_asks (h : TabAt S b r T) (hT : Fits T) (m : Nat) {x y z : Nat} {n k : Int} (hn : -qau < n ∧ n < qau) (hk : -qau < k ∧ k < qau) (hx : Cap S x 23 (.ptr b 0)) (hy : Cap S y 3 (.int .i64 n)) (hz : Cap S z 3 (.int .i64 k)) : Asks S (m + 2) (.fn (.func 61) [] [.ptr x 0, .ptr y 0, .ptr z 0]) (qmg T n k) := fun U g => by
 have h1 := h.grewF g
 obtain ⟨lx, hlx⟩ : ∃ l', (ev E0 KD (m + 1)).f 25 [.bool (decide (T.ui + n ≤ T.qi) && decide (T.ub + k ≤ T.qb)), .int .i64 10] (onS U) = some (.ret (.int .i64 (if (decide (T.ui + n ≤ T.qi) && decide (T.ub + k ≤ T.qb)) = true then 0 else 10)), U.lg l') := Lg.ev_onS lgD (qci m _ 10 U)
 have hr : qmg T n k = if (decide (T.ui + n ≤ T.qi) && decide (T.ub + k ≤ T.qb)) = true then 0 else 10 := by
  unfold qmg
  simp only [Bool.and_eq_true, decide_eq_true_eq]
 refine ⟨U, ?_, Grew.refl _ _⟩
 rw [qd8 (qcu (by decide)) (by kernel_rfl)]
 refine rd61 ?_
 show F61 (ev E0 KD (m + 1)) qa4 (.ptr x 0) (.ptr y 0) (.ptr z 0) U = _
 rw [F61_eq, (hx.grew g).ldL h1.on, oB]
 dsimp only
 rw [qek, oB, qcy, oB, qcy, oB, qa1, Nat.zero_add, h1.ldL (i := 2 + 0) (v := .int .i64 T.ui) rfl, oB]
 dsimp only
 rw [qa1, (hy.grew g).ldL h1.on, oB]
 dsimp only
 rw [addI 3 false false _ _ hT.ui hn, oB, qa1, (hx.grew g).ldL h1.on, oB]
 dsimp only
 rw [qek, oB, qcy, oB, qcy, oB, qa1, Nat.zero_add, h1.ldL (i := 0 + 0) (v := .int .i64 T.qi) rfl, oB]
 dsimp only
 rw [leqI, oB, qa1, hr]
 cases hc : decide (T.ui + n ≤ T.qi) with
 | false =>
  rw [hc] at hlx
  simp only [gTF, oB, cond_false, pickV_bool, qe4]
  simp only [Bool.false_and] at hlx
  rw [hlx, qak, qc6 (by rfl), qa1, qcq h1.on]
  rfl
 | true =>
  rw [hc] at hlx
  simp only [gTT, oB, cond_true, pickV_bool]
  rw [(hx.grew g).ldL h1.on, oB]
  dsimp only
  simp only [qek, oB, qcy, qa1, Nat.zero_add]
  rw [h1.ldL (i := 2 + 1) (v := .int .i64 T.ub) rfl, oB]
  dsimp only
  rw [qa1, (hz.grew g).ldL h1.on, oB]
  dsimp only
  rw [addI 3 false false _ _ hT.ub hk, oB, qa1, (hx.grew g).ldL h1.on, oB]
  dsimp only
  simp only [qek, oB, qcy, qa1, Nat.zero_add]
  rw [h1.ldL (i := 1) (v := .int .i64 T.qb) rfl, oB]
  dsimp only
  rw [leqI, oB, qa1]
  simp only [Bool.true_and] at hlx ⊢
  rw [hlx, qak, qc6 (by rfl), qa1, qcq h1.on]
end
section
variable {S U : St} {b r : Nat} {T : Tab}
theorem make2_asks (h : TabAt S b r T) (hT : Fits T) (m : Nat) {x z : Nat} {data : List UInt8} (hd : data.length < 4611686018427387904) (hx : Cap S x 23 (.ptr b 0)) (hz : Cap S z 9 (sv data)) : Asks S (m + 3) (.fn (.func 31) [] [.ptr x 0, .ptr z 0]) (qmg T 1 (data.length : Int)) := fun U g => by
 have h1 := h.grewF g
 obtain ⟨U1, q1, q2, q3, q4, q5, q6⟩ := room_run (m + 1) h1.on b 1 (data.length : Int)
 have h2 := h1.grewF q5
 obtain ⟨U2, p1, p2⟩ := room1_asks h2 hT m (n := 1) (k := (data.length : Int)) (by unfold qau; omega) (by unfold qau; omega) q2 q3 q4 U1 (Grew.refl _ _)
 refine ⟨U2, ?_, q5.trans p2⟩
 rw [qd8 (qcu (by decide)) (by kernel_rfl)]
 refine rd31 ?_
 show F31 (ev E0 KD (m + 2)) qa4 (.ptr x 0) (.ptr z 0) U = _
 rw [F31_eq, (hx.grew g).ld h1.on, oB]
 dsimp only
 rw [(hz.grew g).ld h1.on, oB]
 dsimp only
 rw [lnStr_sv, oB]
 dsimp only
 rw [show (ev E0 KD (m + 2)).f 32 [.ptr b 0, .int .i64 1, .int .i64 (data.length : Int)] U = some (.ret (.fn (.func 61) [] [.ptr U.next 0, .ptr (U.next + 1) 0, .ptr (U.next + 2) 0]), U1) from q1 none, callP_ret]
 rw [p1, callP_ret]
theorem qpf (h : TabAt S b r T) (hT : Fits T) (m : Nat) {x y z : Nat} {i : Int} {data : List UInt8} {p : Nod} (hp : T.get i = some p) (hd : data.length < 1000000) (hd2 : p.ino.data.length < 1000000) (hx : Cap S x 23 (.ptr b 0)) (hy : Cap S y 9 (sv data)) (hz : Cap S z 3 (.int .i64 i)) :
 Asks S (m + 3) (.fn (.func 34) [] [.ptr x 0, .ptr y 0, .ptr z 0]) (qmg T 0 ((data.length : Int) - (p.ino.data.length : Int))) := fun U g => by
 have h1 := h.grewF g
 obtain ⟨U1, q1, q2, q3, q4, q5, q6⟩ := room_run (m + 1) h1.on b 0 ((data.length : Int) - (p.ino.data.length : Int))
 have h2 := h1.grewF q5
 obtain ⟨U2, p1, p2⟩ := room1_asks h2 hT m (n := 0) (k := (data.length : Int) - (p.ino.data.length : Int)) (by unfold qau; omega) (by unfold qau; omega) q2 q3 q4 U1 (Grew.refl _ _)
 obtain ⟨l2, p3⟩ : ∃ l', qjb E0 (ev E0 KD (m + 2)) (.fn (.func 61) [] [.ptr U.next 0, .ptr (U.next + 1) 0, .ptr (U.next + 2) 0]) [] (onS U1) = some (.ret (.int .i64 (qmg T 0 ((data.length : Int) - (p.ino.data.length : Int)))), U2.lg l') := Lg.callK_lg lgD (qcu (f := 61) (by decide)) p1 []
 refine ⟨atS U2 U, ?_, qcm (q5.trans p2) h1.on⟩
 rw [qd8 (qcu (by decide)) (by kernel_rfl)]
 refine rd34 ?_
 show F34 (ev E0 KD (m + 2)) qa4 (.ptr x 0) (.ptr y 0) (.ptr z 0) U = _
 rw [F34_eq, (hx.grew g).ldL h1.on, oB]
 dsimp only
 rw [qa1, (hy.grew g).ldL h1.on, oB]
 dsimp only
 rw [lnStr_sv, oB]
 dsimp only
 rw [qe4, qa1, (hx.grew g).ldL h1.on, oB]
 dsimp only
 rw [qek, oB, qcy, oB, qa1, Nat.zero_add, h1.ldL (v := .map r) rfl, oB]
 dsimp only
 rw [qa1, (hz.grew g).ldL h1.on, oB]
 dsimp only
 rw [qa1, qgd h1, oB, hp]
 unfold qkw
 dsimp only
 rw [qek, oB, qcy, oB, qcy, oB, qa1, Nat.zero_add, h1.ndL hp (i := i) (k := 0 + 2) (v := sv p.ino.data) rfl, oB]
 dsimp only
 rw [lnStr_sv, oB]
 dsimp only
 rw [subI 3 false false _ _ (by unfold qau; omega) (by unfold qau; omega), oB, qe4, qa1]
 rw [show (ev E0 KD (m + 2)).f 32 [.ptr b 0, .int .i64 0, .int .i64 ((data.length : Int) - (p.ino.data.length : Int))] (onS U) = _ from q1 (some []), qak]
 show qd1 _ _ _ _ (qjb E0 (ev E0 KD (m + 2)) _ [] (onS (U1.lg _))) _ = _
 rw [qa1, p3, qak, qc6 (by rfl), qa1, qdq h1.on]
def qga (data : List UInt8) : Bool := !(data == []) && decide (data.length ≤ 255) && decide (ixB data 0 < 0)
def likes (kind : Int) (data : List UInt8) : Bool := if kind = 1 then true else if kind = 2 then data == [] else if kind = 3 then qga data else false
def eLike (kind mode : Int) (data : List UInt8) : Int := if likes kind data && decide (0 ≤ mode) && decide (mode ≤ 511) then 0 else 2
theorem eqStr (c d : Bool) (a e : List UInt8) : qab E0 .eql 9 c d (sv a) (sv e) = some (.bool (a == e)) := by rw [binV_ss, strOp_eql]
theorem like_map (ho : S.on = false) (c1 c2 : Bool) : ∃ U, (∀ (k : V → V × St → Rs), ((qbz E0 70 none S).bind fun p14 => (vu (qag E0 70 p14.1 (.int .i64 1) (.bool true) p14.2)).bind fun p15 => k p14.1 p15) = k (.map S.next) (.tuple [], (nw S (.map [] 0)).put S.next (.map [{ k := .int .i64 1, v := .bool true, born := 0 }] 1))) ∧ U = (nw S (.map [] 0)).put S.next (.map [{ k := .int .i64 1, v := .bool true, born := 0 }] 1) ∧ Grew (fun _ => False) S U ∧ MapAt U S.next (kvI [(1, .bool true)]) ∧ U.on = false := by
 have g1 := qce ho (fun _ => False) (.map [] 0)
 have hm : MapAt (nw S (.map [] 0)) S.next (kvI []) := ⟨[], 0, by rw [qf8, if_pos rfl], MapOk.new⟩
 have on1 : (nw S (.map [] 0)).on = false := qoe ho _
 refine ⟨_, fun k => ?_, rfl, g1.own (Nat.le_refl _) (qb6 _ _), ⟨[{ k := .int .i64 1, v := .bool true, born := 0 }], 1, by rw [qbr, if_pos rfl], rfl, rfl, Nat.le_refl _⟩, on1⟩
 show ((some (V.map S.next, nw S (.map [] 0))).bind _) = _
 rw [oB]
 have hu : qag E0 70 (.map S.next) (.int .i64 1) (.bool true) (nw S (.map [] 0)) = some ((nw S (.map [] 0)).put S.next (.map [{ k := .int .i64 1, v := .bool true, born := 0 }] 1)) := by
  unfold qag
  rw [und70, oB]
  simp only
  rw [und3, oB]
  simp only [qgb, cond_true]
  rw [qmt on1 (show (nw S (.map [] 0)).heap.get S.next = some (.map [] 0) by rw [qf8, if_pos rfl]), oB]
  simp only
  rw [show qff (.int .i64 1) [] 0 = some none from rfl, oB]
  simp only
  rw [setO_off on1]; rfl
 dsimp only
 rw [hu]; rfl
theorem grew_map {r : Nat} {es : List ME} {c : Nat} (g : Grew (fun _ => False) S U) (hr : S.next ≤ r) : Grew (fun _ => False) S (U.put r (.map es c)) := g.own hr (qb6 _ _)
theorem make1_asks (ho : S.on = false) (m : Nat) {x y z : Nat} {data : List UInt8} {kind mode : Int} (hx : Cap S x 9 (sv data)) (hy : Cap S y 3 (.int .i64 kind)) (hz : Cap S z 3 (.int .i64 mode)) : Asks S (m + 2) (.fn (.func 23) [] [.ptr x 0, .ptr y 0, .ptr z 0]) (eLike kind mode data) := fun U g => by
 have on1 := g.on.trans ho
 have hix : (ev E0 KD (m + 1)).f 24 [sv data, .int .u8 0] U = some (.ret (.int .i64 (ixB data 0)), U) := by
  rw [qgp (show KD 24 = some kfIndexByte from rfl)]
  exact qhr data 0 U
 obtain ⟨W1, hw1, hW1, gw1, mw1, onw1⟩ := like_map on1 true true
 obtain ⟨es2, c2, e2, u2⟩ := qp8 onw1 und70 mw1 2 (.bool (data == []))
 have mw2 := qge (S := W1) U.next (c := c2) e2
 have onw2 : (W1.put U.next (.map es2 c2)).on = false := onw1
 obtain ⟨es3, c3, e3, u3⟩ := qp8 onw2 und70 mw2 3 (.bool (qga data))
 have mw3 := qge (S := W1.put U.next (.map es2 c2)) U.next (c := c3) e3
 have gw2 := grew_map (es := es2) (c := c2) gw1 (Nat.le_refl _)
 have gw3 := grew_map (es := es3) (c := c3) gw2 (Nat.le_refl _)
 have u2' : qag E0 70 (.map U.next) (.int .i64 2) (.bool (data == [])) W1 = some (W1.put U.next (.map es2 c2)) := u2 none
 have u3' : qag E0 70 (.map U.next) (.int .i64 3) (.bool (qga data)) (W1.put U.next (.map es2 c2)) = some ((W1.put U.next (.map es2 c2)).put U.next (.map es3 c3)) := u3 none
 have onw3 : ((W1.put U.next (.map es2 c2)).put U.next (.map es3 c3)).on = false := onw1
 have hlook := look_int onw3 und70 zero4 mw3 kind none
 generalize hW3 : (W1.put U.next (.map es2 c2)).put U.next (.map es3 c3) = W3 at u3' hlook gw3 onw3
 have hlk : (lkI kind (qmk 3 (V.bool (qga data)) (qmk 2 (V.bool (data == [])) [(1, V.bool true)]))).getD (V.bool false) = V.bool (likes kind data) := by
  show (if kind = 1 then some (V.bool true) else if kind = 2 then some (V.bool (data == [])) else if kind = 3 then some (V.bool (qga data)) else none).getD (V.bool false) = _
  unfold likes
  by_cases k1 : kind = 1
  · rw [if_pos k1, if_pos k1]; rfl
  · rw [if_neg k1, if_neg k1]
    by_cases k2 : kind = 2
    · rw [if_pos k2, if_pos k2]; rfl
    · rw [if_neg k2, if_neg k2]
      by_cases k3 : kind = 3
      · rw [if_pos k3, if_pos k3]; rfl
      · rw [if_neg k3, if_neg k3]; rfl
 rw [hlk] at hlook
 have hlook' : qae E0 70 (.map U.next) (.int .i64 kind) false W3 = some (.bool (likes kind data), W3) := hlook
 refine ⟨W3, ?_, gw3⟩
 rw [qd8 (qcu (by decide)) (by kernel_rfl)]
 refine rd23 ?_
 show F23 (ev E0 KD (m + 1)) qa4 (.ptr x 0) (.ptr y 0) (.ptr z 0) U = _
 have hldx := (hx.grew g).ld on1
 have tail : ((qbz E0 70 none U).bind fun p14 =>
  (vu (qag E0 70 p14.1 (.int .i64 1) (.bool true) p14.2)).bind fun p15 =>
  (ld1 (.ptr x 0) p15.2).bind fun p16 =>
  (qab E0 .eql 9 false true p16.1 (sv [])).bind fun t17 =>
  (vu (qag E0 70 p14.1 (.int .i64 2) t17 p16.2)).bind fun p18 =>
  (vu (qag E0 70 p14.1 (.int .i64 3) (.bool (qga data)) p18.2)).bind fun p20 =>
  (ld1 (.ptr y 0) p20.2).bind fun p22 =>
  (qae E0 70 p14.1 p22.1 false p22.2).bind fun p23 =>
  (qa2 true p23.1).bind fun g27 => (bif g27 then ld1 (.ptr z 0) p23.2 else some (.tuple [], p23.2)).bind fun p27 =>
  (qa2 true p23.1).bind fun g28 => (bif g28 then qab E0 .geq 3 false true p27.1 (.int .i64 0) else some (.tuple [])).bind fun t28 =>
  (qbg p23.1 (some t28) (some (.bool false))).bind fun t29 =>
  (qa2 true t29).bind fun g31 => (bif g31 then ld1 (.ptr z 0) p27.2 else some (.tuple [], p27.2)).bind fun p31 =>
  (qa2 true t29).bind fun g32 => (bif g32 then qab E0 .leq 3 false true p31.1 (.int .i64 511) else some (.tuple [])).bind fun t32 =>
  (qbg t29 (some t32) (some (.bool false))).bind fun t33 =>
  qaj ((ev E0 KD (m + 1)).f 25 [t33, (.int .i64 2)] p31.2) fun t34 S34 =>
  some (.ret t34, S34)) = some (.ret (.int .i64 (eLike kind mode data)), W3) := by
  rw [hw1 fun v p15 => (ld1 (.ptr x 0) p15.2).bind fun p16 =>
   (qab E0 .eql 9 false true p16.1 (sv [])).bind fun t17 =>
   (vu (qag E0 70 v (.int .i64 2) t17 p16.2)).bind fun p18 =>
   (vu (qag E0 70 v (.int .i64 3) (.bool (qga data)) p18.2)).bind fun p20 =>
   (ld1 (.ptr y 0) p20.2).bind fun p22 =>
   (qae E0 70 v p22.1 false p22.2).bind fun p23 =>
   (qa2 true p23.1).bind fun g27 => (bif g27 then ld1 (.ptr z 0) p23.2 else some (.tuple [], p23.2)).bind fun p27 =>
   (qa2 true p23.1).bind fun g28 => (bif g28 then qab E0 .geq 3 false true p27.1 (.int .i64 0) else some (.tuple [])).bind fun t28 =>
   (qbg p23.1 (some t28) (some (.bool false))).bind fun t29 =>
   (qa2 true t29).bind fun g31 => (bif g31 then ld1 (.ptr z 0) p27.2 else some (.tuple [], p27.2)).bind fun p31 =>
   (qa2 true t29).bind fun g32 => (bif g32 then qab E0 .leq 3 false true p31.1 (.int .i64 511) else some (.tuple [])).bind fun t32 =>
   (qbg t29 (some t32) (some (.bool false))).bind fun t33 =>
   qaj ((ev E0 KD (m + 1)).f 25 [t33, (.int .i64 2)] p31.2) fun t34 S34 =>
   some (.ret t34, S34), ← hW1]
  dsimp only
  rw [((hx.grew g).grew gw1).ld onw1, oB]
  dsimp only
  rw [eqStr, oB, u2']
  show ((some (V.tuple [], W1.put U.next (.map es2 c2))).bind _) = _
  rw [oB]
  dsimp only
  rw [u3']
  show ((some (V.tuple [], W3)).bind _) = _
  rw [oB]
  dsimp only
  rw [((hy.grew g).grew gw3).ld onw3, oB]
  dsimp only
  rw [hlook', oB]
  dsimp only
  have hldz := ((hz.grew g).grew gw3).ld onw3
  unfold eLike
  cases hl : likes kind data with
  | false =>
   simp only [gTF, oB, cond_false, pickV_bool, Bool.false_and, qci, callP_ret]
  | true =>
   simp only [gTT, oB, cond_true, hldz, binV_ii, intsV_geq, pickV_bool, Bool.true_and]
   cases h0 : decide (0 ≤ mode) with
   | false =>
    simp only [gTF, oB, cond_false, pickV_bool, Bool.false_and, qci, callP_ret]
   | true =>
    simp only [gTT, oB, cond_true, hldz, binV_ii, intsV_leq, pickV_bool, Bool.true_and, qci, callP_ret]
 rw [F23_eq, hldx, oB]
 dsimp only
 rw [strEq, oB]
 cases hd0 : (data == []) with
 | true =>
  have hl : qga data = false := by unfold qga; rw [hd0]; rfl
  rw [hl] at tail
  simp only [Bool.not_true, gTF, oB, cond_false, pickV_bool, callP_ret]
  exact tail
 | false =>
  simp only [Bool.not_false, gTT, oB, cond_true, hldx, lnStr_sv, binV_ii, intsV_leq, pickV_bool]
  cases hd1 : decide ((data.length : Int) ≤ 255) with
  | false =>
   have hl : qga data = false := by
    unfold qga
    rw [show decide (data.length ≤ 255) = false by rw [decide_eq_false_iff_not] at hd1 ⊢; omega]
    simp
   rw [hl] at tail
   simp only [gTF, oB, cond_false, pickV_bool, callP_ret]
   exact tail
  | true =>
   have hl : qga data = decide (ixB data 0 < 0) := by
    unfold qga
    rw [hd0, show decide (data.length ≤ 255) = true by rw [decide_eq_true_eq] at hd1 ⊢; omega]
    simp
   rw [hl] at tail
   simp only [gTT, oB, cond_true, hldx, hix, callP_ret, binV_ii, intsV_lss, pickV_bool]
   exact tail
end
def Own (b r : Nat) (T : Tab) (x : Nat) : Prop := x = b ∨ x = r ∨ ∃ p ∈ T.nodes, x = p.box ∨ p.ino.map = some x
def qg5 : List Int → Int
 | [] => 0
 | e :: l => if e = 0 then qg5 l else e
section
variable {S U : St} {b r : Nat} {T : Tab}
theorem qfj {n : Nat} : AsksAll S n [] (qg5 []) := rfl
theorem qad {n : Nat} {f : V} {e : Int} {fs : List V} {es : List Int} (h : Asks S n f e) (h2 : AsksAll S n fs (qg5 es)) : AsksAll S n (f :: fs) (qg5 (e :: es)) := by
 refine ⟨e, h, ?_⟩
 unfold qg5
 by_cases h0 : e = 0
 · rw [if_pos h0]; exact .inr ⟨h0, h2⟩
 · rw [if_neg h0]; exact .inl ⟨h0, rfl⟩
theorem qnc {n : Nat} {f : V} {e : Int} {fs : List V} {es : List Int} (h : Asks S n f e) (h0 : e ≠ 0) : AsksAll S n (f :: fs) (qg5 (e :: es)) := by
 refine ⟨e, h, ?_⟩
 unfold qg5
 rw [if_neg h0]; exact .inl ⟨h0, rfl⟩
theorem qcd (m : Nat) (b : Nat) : Asks S (m + 2) (.fn (.func 27) [.ptr b 0] []) 0 := fun U g => by
 refine ⟨U, ?_, Grew.refl _ _⟩
 rw [qd8 (qcu (by decide)) (by kernel_rfl)]
 exact there_run m U b
theorem qev : ∀ {l : List Int}, qg5 l = 0 → ∀ e ∈ l, e = 0
 | [], _, e, h => by cases h
 | x :: l, hc, e, h => by
  unfold qg5 at hc
  by_cases h0 : x = 0
  · rw [if_pos h0] at hc
    rcases List.mem_cons.1 h with rfl | h
    · exact h0
    · exact qev hc e h
  · rw [if_neg h0] at hc; exact absurd hc h0
theorem asked (ho : S.on = false) (n : Nat) (vs : List V) (hv : ∀ v ∈ vs, OneV v) (hl : vs.length < 1000000) {e : Int} (ha : AsksAll S n vs e) : ∃ R U, (∀ m, bsP 72 1 vs.length (Go.Proofs.Ytbihlgcdnhoknaa.Ev.one .nilfn) (numb 0 vs) (stt S m) = some (.slice S.next 0 vs.length vs.length, stt R (m.map fun l => ⟨S.next, 0, big, true⟩ :: l))) ∧
 (ev E0 KD (n + 1)).f 26 [.slice S.next 0 vs.length vs.length] R = some (.ret (.int .i64 e), U) ∧ Grew (fun _ => False) S U ∧ R.on = false := by
 obtain ⟨R, h1, h2, h3, h4⟩ := bsP_ones ho 72 (Go.Proofs.Ytbihlgcdnhoknaa.Ev.one .nilfn) vs hv (by unfold big; omega)
 have on1 := h3.on.trans ho
 obtain ⟨U, q1, q2⟩ := first_run (n := n) on1 (x := S.next) (by omega) h2 hl (ha.mono h3)
 exact ⟨R, U, h1, q1, h3.trans q2, on1⟩
theorem qdy (n : Nat) {vs : List V} {R U : St} {e : Int} (h : (ev E0 KD (n + 1)).f 26 [.slice S.next 0 vs.length vs.length] R = some (.ret (.int .i64 e), U)) : ∃ l, (ev E0 KD (n + 1)).f 26 [.slice S.next 0 vs.length vs.length] (onS R) = some (.ret (.int .i64 e), U.lg l) := Lg.ev_onS lgD h
theorem TabAt.setName (h : TabAt S b r T) {d : Int} {p : Nod} (hp : T.get d = some p) {m : Nat} (hm : p.ino.map = some m) (a : List UInt8) (i : Int) : ∃ U, (∀ l, qag E0 63 (.map m) (sv a) (.int .i64 i) (stt S l) = some (stt U (l.map fun l => ⟨m, 0, big, true⟩ :: ⟨m, 0, big, false⟩ :: l))) ∧ TabAt U b r (T.upd d (qb2 (qat a i p.ino.ents))) ∧ Grew (fun x => x = m) S U ∧ U.next = S.next := by
 obtain ⟨es, c, h1, h2⟩ := upd_str h.on (h.em p (qan hp).1 m hm) a i
 exact ⟨_, h2, h.putE hp hm h1, qb6 _ _, rfl⟩
def addL (k : Int) (n : Ino) : Ino := { n with links := n.links + k }
theorem ino_set3 (n : Ino) (v : Int) : n.cells.length = 6 ∧ (Tr.ofListFrom .nil n.cells 0).set (.int .i64 v) 3 = Tr.ofListFrom .nil { n with links := v }.cells 0 := ⟨rfl, set6_3 ..⟩
theorem TabAt.setLinks (h : TabAt S b r T) {i : Int} {p : Nod} (hp : T.get i = some p) (k : Int) : ∃ U, stP 1 (.ptr p.box 3) (.int .i64 (p.ino.links + k)) S = some (.tuple [], U) ∧ TabAt U b r (T.upd i (addL k)) ∧ Grew (fun x => x = p.box) S U ∧ U.next = S.next := by
 have hb := h.nd p (qan hp).1
 refine ⟨_, bx_st6 h.on hb rfl (m := (addL k p.ino).cells) rfl (i := 3) (by decide) (ino_set3 p.ino _).2 rfl rfl rfl, h.putN hp (addL k) rfl rfl, qb6 _ _, rfl⟩
theorem own_box {i : Int} {p : Nod} (hp : T.get i = some p) : Own b r T p.box := .inr (.inr ⟨p, (qan hp).1, .inl rfl⟩)
theorem qol {i : Int} {p : Nod} (hp : T.get i = some p) {m : Nat} (hm : p.ino.map = some m) : Own b r T m := .inr (.inr ⟨p, (qan hp).1, .inr hm⟩)
def eLink (T : Tab) (d : Int) (a : List UInt8) (i : Int) : Int := qg5 [0, qmf T d, eNamed a, eFile T i, eFree T d a]
theorem Cap.mono {x e : Nat} {v : V} (h : Cap S x e v) {U : St} (g : Grew (fun _ => False) S U) : Cap U x e v := h.grew g
theorem link_asked (h : TabAt S b r T) (m : Nat) (d i : Int) (a : List UInt8) (ha : a.length < 9223372036854775808) :
 ∃ U, Grew (fun _ => False) S U ∧ F9 (ev E0 KD (m + 4)) qa4 (.ptr b 0) (.int .i64 d) (sv a) (.int .i64 i) S =
  if eLink T d a i = 0 then (qa3 (.ptr b 0)).bind fun t23 =>
   (faP 4 false 1 t23).bind fun t24 =>
   (ld1 t24 U).bind fun p25 =>
   (qae E0 66 p25.1 (.int .i64 d) false p25.2).bind fun p27 =>
   (qa3 p27.1).bind fun t28 =>
   (faP 5 false 1 t28).bind fun t29 =>
   (ld1 t29 p27.2).bind fun p30 =>
   (vu (qag E0 63 p30.1 (sv a) (.int .i64 i) p30.2)).bind fun p33 =>
   (qa3 (.ptr b 0)).bind fun t35 =>
   (faP 4 false 1 t35).bind fun t36 =>
   (ld1 t36 p33.2).bind fun p37 =>
   (qae E0 66 p37.1 (.int .i64 i) false p37.2).bind fun p39 =>
   (qa3 p39.1).bind fun t40 =>
   (faP 0 true 4 t40).bind fun t41 =>
   (faP 3 false 1 t41).bind fun t42 =>
   (ld1 t42 p39.2).bind fun p43 =>
   (qab E0 .add 3 false true p43.1 (.int .i64 1)).bind fun t44 =>
   (qa3 p39.1).bind fun t45 =>
   (faP 0 true 4 t45).bind fun t46 =>
   (faP 3 false 1 t46).bind fun t47 =>
   (stP 1 t47 t44 p43.2).bind fun p48 =>
   some (.ret (.int .i64 0), p48.2) else some (.ret (.int .i64 (eLink T d a i)), U) := by
 obtain ⟨S1, a1, a2, a3, a4, a5⟩ := ql9 (m + 3) h.on b d
 have h1 := h.grewF a4
 obtain ⟨S2, b1, b2, b3, b4⟩ := qoa (m + 3) h1.on a
 have h2 := h1.grewF b3
 obtain ⟨S3, c1, c2, c3, c4, c5⟩ := file_run (m + 3) h2.on b i
 have h3 := h2.grewF c4
 obtain ⟨S4, d1, d2, d3, d4, d5, d6⟩ := free_run (m + 3) h3.on b d a
 have h4 := h3.grewF d5
 have g23 := b3.trans c4
 have g24 := g23.trans d5
 have g34 := c4.trans d5
 have all : AsksAll S4 (m + 3) [.fn (.func 27) [.ptr b 0] [], .fn (.func 57) [] [.ptr S.next 0, .ptr (S.next + 1) 0], .fn (.func 58) [] [.ptr S1.next 0], .fn (.func 62) [] [.ptr S2.next 0, .ptr (S2.next + 1) 0], .fn (.func 60) [] [.ptr S3.next 0, .ptr (S3.next + 1) 0, .ptr (S3.next + 2) 0]] (eLink T d a i) :=
  qad (qcd (m + 1) b) (qad (qee h4 (m + 1) (a2.grew g24) (a3.grew g24)) (qad (qji (m + 1) h4.on (b2.grew g34) ha) (qad (qif h4 (m + 1) (c2.grew d5) (c3.grew d5)) (qad (qlc h4 m d2 d3 d4) qfj))))
 obtain ⟨R, U, q1, q2, q3, q4⟩ := asked h4.on (m + 3) _ (fun v hv => by
  simp only [List.mem_cons, List.not_mem_nil, or_false] at hv
  rcases hv with rfl | rfl | rfl | rfl | rfl <;> exact oneF _ _ _) (by show 5 < 1000000; decide) all
 refine ⟨U, ((a4.trans b3).trans (c4.trans d5)).trans q3, ?_⟩
 rw [F9_eq, show (ev E0 KD (m + 4)).f 28 [.ptr b 0, .int .i64 d] S = _ from a1 none, callP_ret]
 rw [show (ev E0 KD (m + 4)).f 29 [sv a] (stt S1 (Option.map _ none)) = _ from b1 none, callP_ret]
 rw [show (ev E0 KD (m + 4)).f 33 [.ptr b 0, .int .i64 i] (stt S2 (Option.map _ none)) = _ from c1 none, callP_ret]
 rw [show (ev E0 KD (m + 4)).f 30 [.ptr b 0, .int .i64 d, sv a] (stt S3 (Option.map _ none)) = _ from d1 none, callP_ret]
 rw [show bsP 72 1 5 (Go.Proofs.Ytbihlgcdnhoknaa.Ev.one .nilfn) [(0, (.fn (.func 27) [.ptr b 0] [])), (1, (.fn (.func 57) [] [.ptr S.next 0, .ptr (S.next + 1) 0])), (2, (.fn (.func 58) [] [.ptr S1.next 0])), (3, .fn (.func 62) [] [.ptr S2.next 0, .ptr (S2.next + 1) 0]), (4, .fn (.func 60) [] [.ptr S3.next 0, .ptr (S3.next + 1) 0, .ptr (S3.next + 2) 0])] (stt S4 (Option.map _ none)) = _ from q1 none, oB]
 dsimp only
 rw [show (ev E0 KD (m + 4)).f 26 _ (stt R (Option.map _ none)) = _ from q2, callP_ret, qob, oB, ifK_bool]
 by_cases h0 : eLink T d a i = 0
 · rw [if_pos h0, h0]; rfl
 · rw [if_neg h0, beq_false_of_ne h0]; rfl
theorem link_err (h : TabAt S b r T) (m : Nat) (d i : Int) (a : List UInt8) (ha : a.length < 9223372036854775808) (he : eLink T d a i ≠ 0) : ∃ U, (ev E0 KD (m + 5)).f 9 [.ptr b 0, .int .i64 d, sv a, .int .i64 i] S = some (.ret (.int .i64 (eLink T d a i)), U) ∧ TabAt U b r T ∧ Grew (Own b r T) S U := by
 obtain ⟨U, h1, h2⟩ := link_asked h m d i a ha
 rw [if_neg he] at h2
 exact ⟨U, rd9 h2, h.grewF h1, h1.mono fun _ _ h => h.elim⟩
theorem link_ok (h : TabAt S b r T) (m : Nat) (d i : Int) (a : List UInt8) (ha : a.length < 9223372036854775808) (he : eLink T d a i = 0) {p q : Nod} (hp : T.get d = some p) {mp : Nat} (hm : p.ino.map = some mp) (hq : T.get i = some q) (hdi : d ≠ i) (hl : -qau < q.ino.links ∧ q.ino.links < qau) :
 ∃ U, (ev E0 KD (m + 5)).f 9 [.ptr b 0, .int .i64 d, sv a, .int .i64 i] S = some (.ret (.int .i64 0), U) ∧ TabAt U b r ((T.upd d (qb2 (qat a i p.ino.ents))).upd i (addL 1)) ∧ Grew (Own b r T) S U := by
 obtain ⟨U, h1, h2⟩ := link_asked h m d i a ha
 rw [if_pos he] at h2
 have hU := h.grewF h1
 obtain ⟨U1, s1, s2, s3, s4⟩ := hU.setName hp hm a i
 have hq' : (T.upd d (qb2 (qat a i p.ino.ents))).get i = some q := by rw [qar (Ne.symm hdi)]; exact hq
 obtain ⟨U2, t1, t2, t3, t4⟩ := s2.setLinks hq' 1
 refine ⟨U2, rd9 (h2.trans ?_), t2, ?_⟩
 · rw [qek, oB, qcy, oB, Nat.zero_add, hU.ld (v := .map r) rfl, oB]
   dsimp only
   rw [qeg hU d, oB, hp]
   unfold qkw
   dsimp only
   rw [qek, oB, qcy, oB, Nat.zero_add, hU.nd1 hp (v := mapV p.ino.map) rfl, oB]
   dsimp only
   rw [hm]
   unfold mapV
   dsimp only
   rw [show qag E0 63 (.map mp) (sv a) (.int .i64 i) U = _ from s1 none]
   show ((some (V.tuple [], U1)).bind _) = _
   simp only [qek, qcy, oB, Nat.zero_add]
   rw [s2.ld (v := .map r) rfl, oB]
   dsimp only
   rw [qeg s2 i, oB, hq']
   simp only [qkw, qek, qcy, oB, Nat.zero_add]
   rw [s2.nd1 hq' (v := .int .i64 q.ino.links) rfl, oB]
   dsimp only
   rw [addI 3 false true _ _ hl (by unfold qau; omega)]
   simp only [oB]
   rw [t1, oB]
 · have g1 : Grew (Own b r T) S U := h1.mono fun _ _ h => h.elim
   exact (g1.trans (s3.mono fun x _ hx => hx ▸ qol hp hm)).trans (t3.mono fun x _ hx => hx ▸ own_box hq)
end
def LowRd (N : Nat) : List LE → Prop
 | [] => True
 | e :: l => (e.w = false ∧ e.b < N) ∧ LowRd N l
def High (N : Nat) : List LE → Prop
 | [] => True
 | e :: l => N ≤ e.b ∧ High N l
theorem LowRd.mem {N : Nat} : ∀ {l : List LE}, LowRd N l → ∀ e ∈ l, e.w = false ∧ e.b < N
 | [], _, e, he => by cases he
 | x :: l, h, e, he => by
  rcases List.mem_cons.1 he with rfl | he
  · exact h.1
  · exact LowRd.mem h.2 e he
theorem High.mem {N : Nat} : ∀ {l : List LE}, High N l → ∀ e ∈ l, N ≤ e.b
 | [], _, e, he => by cases he
 | x :: l, h, e, he => by
  rcases List.mem_cons.1 he with rfl | he
  · exact h.1
  · exact High.mem h.2 e he
theorem meet_ne {e f : LE} (h : e.b ≠ f.b) : meet e f = false := by
 unfold meet
 rw [beq_false.2 h]; rfl
theorem clash1_ne {e : LE} : ∀ {l : List LE}, (∀ f ∈ l, e.b ≠ f.b) → qhh e l = false
 | [], _ => rfl
 | f :: l, h => by
  unfold qhh
  rw [meet_ne (h f (List.mem_cons_self ..))]
  exact clash1_ne fun g hg => h g (List.mem_cons_of_mem _ hg)
theorem clash_ne : ∀ {a b : List LE}, (∀ e ∈ a, ∀ f ∈ b, e.b ≠ f.b) → qir a b = false
 | [], _, _ => rfl
 | e :: a, b, h => by
  unfold qir
  rw [clash1_ne (h e (List.mem_cons_self ..))]
  exact clash_ne fun g hg => h g (List.mem_cons_of_mem _ hg)
def AllAt (P : List LE → Prop) (logs : List (List LE)) : List Nat → Prop
 | [] => True
 | i :: l => P (qe2 i logs) ∧ AllAt P logs l
theorem AllAt.mem {P : List LE → Prop} {logs : List (List LE)} : ∀ {l : List Nat}, AllAt P logs l → ∀ i ∈ l, P (qe2 i logs)
 | [], _, i, hi => by cases hi
 | x :: l, h, i, hi => by
  rcases List.mem_cons.1 hi with rfl | hi
  · exact h.1
  · exact AllAt.mem h.2 i hi
def memb (i : Nat) : List Nat → Bool
 | [] => false
 | x :: l => Nat.beq i x || memb i l
theorem qgu {i : Nat} : ∀ {l : List Nat}, memb i l = true → i ∈ l
 | [], h => by cases h
 | x :: l, h => by
  unfold memb at h
  rw [Bool.or_eq_true] at h
  rcases h with h | h
  · rw [Ev.beq_true] at h; subst h; exact List.mem_cons_self ..
  · exact List.mem_cons_of_mem _ (qgu h)
def askOk (lows highs : List Nat) (prs : List (Nat × List Nat)) : Bool := prs.all fun p => p.2.all fun j => (memb p.1 lows && (memb j lows || memb j highs)) || (memb p.1 highs && memb j lows)
theorem qik {logs : List (List LE)} : ∀ {prs : List (Nat × List Nat)}, (∀ p ∈ prs, ∀ j ∈ p.2, qir (qe2 p.1 logs) (qe2 j logs) = false) → qb4 logs prs = true
 | [], _ => rfl
 | (i, js) :: l, h => by
  have key : ∀ js : List Nat, (∀ j ∈ js, qir (qe2 i logs) (qe2 j logs) = false) → qep (qe2 i logs) logs js = false := fun js => by
   induction js with
   | nil => intro _; rfl
   | cons j js ih =>
    intro hj
    unfold qep
    rw [hj j (List.mem_cons_self ..)]
    exact ih fun x hx => hj x (List.mem_cons_of_mem _ hx)
  unfold qb4
  rw [key js fun j hj => h (i, js) (List.mem_cons_self ..) j hj]
  exact qik fun p hp => h p (List.mem_cons_of_mem _ hp)
theorem qew {prs : List (Nat × List Nat)} {s0 s : St} {logs : List (List LE)} {k : St → Rs} (N : Nat) (lows highs : List Nat) (hp : askOk lows highs prs = true) (hl : AllAt (LowRd N) logs lows) (hh : AllAt (High N) logs highs) : qid prs s0 logs s k = k (qbf s0 s logs) := by
 refine qlb (qik fun p hpm j hj => ?_)
 have h := List.all_eq_true.1 (List.all_eq_true.1 hp p hpm) j hj
 rw [Bool.or_eq_true, Bool.and_eq_true, Bool.and_eq_true, Bool.or_eq_true] at h
 rcases h with ⟨h1, h2 | h2⟩ | ⟨h1, h2⟩
 · exact clash_rd _ _ (fun f hf => ((hl.mem p.1 (qgu h1)).mem f hf).1) fun f hf => ((hl.mem j (qgu h2)).mem f hf).1
 · exact clash_ne fun e he f hf => by have := ((hl.mem p.1 (qgu h1)).mem e he).2; have := (hh.mem j (qgu h2)).mem f hf; omega
 · exact clash_ne fun e he f hf => by have := (hh.mem p.1 (qgu h1)).mem e he; have := ((hl.mem j (qgu h2)).mem f hf).2; omega
section
variable {S U : St} {b r : Nat} {T : Tab}
theorem qg3 (ho : S.on = false) (e e2 e3 : Nat) {v v2 v3 : V} (hv : OneV v) (hv2 : OneV v2) (hv3 : OneV v3) : ∃ U1 U2 U, qd7 e v S = some (.ptr S.next 0, U1) ∧ qd7 e2 v2 U1 = some (.ptr (S.next + 1) 0, U2) ∧ qd7 e3 v3 U2 = some (.ptr (S.next + 2) 0, U) ∧ Cap U S.next e v ∧ Cap U (S.next + 1) e2 v2 ∧ Cap U (S.next + 2) e3 v3 ∧ Grew (fun _ => False) S U ∧ U.next = S.next + 3 := by
 obtain ⟨U1, h1, h2, h3, h4⟩ := qhf ho e hv
 obtain ⟨U2, k1, k2, k3, k4⟩ := qhf (h3.on.trans ho) e2 hv2
 obtain ⟨U3, l1, l2, l3, l4⟩ := qhf (k3.on.trans (h3.on.trans ho)) e3 hv3
 have c1 : Cap U1 S.next e v := ⟨h2, by omega⟩
 rw [h4] at k1 k2 k4
 rw [k4] at l1 l2
 have c2 : Cap U2 (S.next + 1) e2 v2 := ⟨k2, by omega⟩
 exact ⟨U1, U2, U3, h1, k1, l1, (c1.grew k3).grew l3, c2.grew l3, ⟨l2, by omega⟩, (h3.trans k3).trans l3, by omega⟩
theorem TabAt.setT (h : TabAt S b r T) {T' : Tab} (hn : T'.nodes = T.nodes) (i : Nat) (hi : i < 6) {v : V} (hv : OneV v) (hs : (Tr.ofListFrom .nil (T.cells r) 0).set v i = Tr.ofListFrom .nil (T'.cells r) 0) : ∃ U, stP 1 (.ptr b i) v S = some (.tuple [], U) ∧ TabAt U b r T' ∧ Grew (fun x => x = b) S U ∧ U.next = S.next :=
 ⟨_, bx_st6 h.on h.tb rfl (m := T'.cells r) rfl hi hs hv.size hv.cells hv.tup, h.putT hn, qb6 _ _, rfl⟩
theorem ino_set2 (n : Ino) (d : List UInt8) : (Tr.ofListFrom .nil n.cells 0).set (sv d) 2 = Tr.ofListFrom .nil { n with data := d }.cells 0 := set6_2 ..
theorem TabAt.setData (h : TabAt S b r T) {i : Int} {p : Nod} (hp : T.get i = some p) (data : List UInt8) : ∃ U, stP 1 (.ptr p.box 2) (sv data) S = some (.tuple [], U) ∧ TabAt U b r (T.upd i fun n => { n with data := data }) ∧ Grew (fun x => x = p.box) S U ∧ U.next = S.next := by
 have hb := h.nd p (qan hp).1
 exact ⟨_, bx_st6 h.on hb rfl (m := { p.ino with data := data }.cells) rfl (i := 2) (by decide) (ino_set2 _ _) rfl rfl rfl, h.putN hp (fun n => { n with data := data }) rfl rfl, qb6 _ _, rfl⟩
def qhk (T : Tab) (i : Int) (data : List UInt8) : Int := match T.get i with
 | none => 5
 | some p => qg5 [0, eFile T i, qmg T 0 ((data.length : Int) - (p.ino.data.length : Int))]
theorem write_ok (h : TabAt S b r T) (hT : Fits T) (m : Nat) (i : Int) (data : List UInt8) {p : Nod} (hp : T.get i = some p) (hd : data.length < 1000000) (hd2 : p.ino.data.length < 1000000) (hub : -4611686018426387904 < T.ub ∧ T.ub < 4611686018426387904) (he : qhk T i data = 0) :
 ∃ U, (ev E0 KD (m + 5)).f 10 [.ptr b 0, .int .i64 i, sv data] S = some (.ret (.int .i64 0), U) ∧ TabAt U b r ({ T with ub := T.ub + ((data.length : Int) - (p.ino.data.length : Int)) }.upd i fun n => { n with data := data }) ∧ Grew (Own b r T) S U := by
 obtain ⟨S1, S2, S3, s1, s2, s3, c1, c2, c3, g3, n3⟩ := qg3 h.on 23 3 9 (oneP b 0) (qb5 .i64 i) (qgv data)
 have h3 := h.grewF g3
 obtain ⟨S4, a1, a2, a3, a4, a5⟩ := file_run (m + 3) h3.on b i
 have h4 := h3.grewF a4
 have all : AsksAll S4 (m + 3) [.fn (.func 27) [.ptr b 0] [], .fn (.func 62) [] [.ptr S3.next 0, .ptr (S3.next + 1) 0], .fn (.func 34) [] [.ptr S.next 0, .ptr (S.next + 2) 0, .ptr (S.next + 1) 0]] (qhk T i data) := by
  unfold qhk
  rw [hp]
  exact qad (qcd (m + 1) b) (qad (qif h4 (m + 1) a2 a3) (qad (qpf h4 hT m hp hd hd2 (c1.grew a4) (c3.grew a4) (c2.grew a4)) qfj))
 rw [he] at all
 obtain ⟨R, U, q1, q2, q3, q4⟩ := asked h4.on (m + 3) _ (fun v hv => by
  simp only [List.mem_cons, List.not_mem_nil, or_false] at hv
  rcases hv with rfl | rfl | rfl <;> exact oneF _ _ _) (by show 3 < 1000000; decide) all
 obtain ⟨l2, q2'⟩ := qdy (m + 3) q2
 have gU := a4.trans q3
 have hU := (h3.grewF gU).same (U := atS U S3) rfl rfl rfl
 have gA := qcm gU h3.on
 have d1 := c1.grew gA
 have d2 := c2.grew gA
 have d3 := c3.grew gA
 have hgU : Grew (Own b r T) S (atS U S3) := (g3.trans gA).mono fun _ _ h => h.elim
 generalize hA : atS U S3 = A at hU gA d1 d2 d3 hgU
 obtain ⟨B, t1, t2, t3, t4⟩ := hU.setT (T' := { T with ub := T.ub + ((data.length : Int) - (p.ino.data.length : Int)) }) rfl 3 (by decide) (qb5 .i64 (T.ub + ((data.length : Int) - (p.ino.data.length : Int)))) (set6_3 ..)
 obtain ⟨lB, t1'⟩ := stP_lg hU.on t1
 have ht2 := t2.same (U := atS B A) rfl rfl rfl
 have gB := qcm t3 hU.on
 have e3 : Cap (atS B A) (S.next + 2) 9 (sv data) := by
  have hb := h.hb
  exact ⟨d3.bx.grew d3.lt (fun e => by omega) gB, Nat.lt_of_lt_of_le d3.lt gB.next⟩
 have hp' : ({ T with ub := T.ub + ((data.length : Int) - (p.ino.data.length : Int)) } : Tab).get i = some p := hp
 obtain ⟨D, u1, u2, u3, u4⟩ := ht2.setData hp' data
 refine ⟨D, rd10 ?_, u2, ?_⟩
 · show F10 (ev E0 KD (m + 4)) qa4 (.ptr b 0) (.int .i64 i) (sv data) S = _
   rw [F10_eq, s1, oB]
   dsimp only
   rw [s2, oB]
   dsimp only
   rw [s3, oB]
   dsimp only
   rw [c1.ldL h3.on, oB]
   dsimp only
   rw [qa1, c1.ldL h3.on, oB]
   dsimp only
   rw [qa1, c2.ldL h3.on, oB]
   dsimp only
   rw [qa1, show (ev E0 KD (m + 4)).f 33 [.ptr b 0, .int .i64 i] (onS S3) = _ from a1 (some []), qak]
   rw [show bsP 72 1 3 (Go.Proofs.Ytbihlgcdnhoknaa.Ev.one .nilfn) [(0, (.fn (.func 27) [.ptr b 0] [])), (1, .fn (.func 62) [] [.ptr S3.next 0, .ptr (S3.next + 1) 0]), (2, .fn (.func 34) [] [.ptr S.next 0, .ptr (S.next + 2) 0, .ptr (S.next + 1) 0])] (onS (stt S4 (Option.map _ (some [])))) = _ from q1 (some []), oB]
   dsimp only
   rw [show (ev E0 KD (m + 4)).f 26 _ (onS (stt R (Option.map _ (some [])))) = _ from q2', qak]
   rw [qew (S.next + 3) [0, 2, 3] [4]]
   rotate_left
   · rfl
   · exact ⟨⟨⟨rfl, by show S.next < S.next + 3; omega⟩, trivial⟩, ⟨⟨rfl, by show S.next < S.next + 3; omega⟩, trivial⟩, ⟨⟨rfl, by show S.next + 1 < S.next + 3; omega⟩, trivial⟩, trivial⟩
   · exact ⟨⟨by show S.next + 3 ≤ S3.next + 1; omega, by show S.next + 3 ≤ S3.next; omega, trivial⟩, trivial⟩
   rw [qa1, qdq h3.on, hA, qob, oB, ifK_bool]
   simp only [beq_self_eq_true, Bool.not_true, cond_false]
   rw [d1.ldL hU.on, oB]
   dsimp only
   rw [qek, oB, qcy, oB, qa1, Nat.zero_add, hU.ldL (v := .map r) rfl, oB]
   dsimp only
   rw [qa1, d2.ldL hU.on, oB]
   dsimp only
   rw [qa1, qgd hU, oB, hp]
   simp only [qkw]
   rw [qc6 (by rfl), qa1, qcq hU.on, d1.ldL hU.on, oB]
   dsimp only
   simp only [qek, qcy, oB, Nat.zero_add, qa1]
   rw [hU.ldL (i := 2 + 1) (v := .int .i64 T.ub) rfl, oB]
   dsimp only
   rw [qa1, d3.ldL hU.on, oB]
   dsimp only
   rw [lnStr_sv, oB]
   dsimp only
   rw [qe4, qa1, hU.ndL hp (i := i) (k := 2) (v := sv p.ino.data) rfl, oB]
   dsimp only
   rw [lnStr_sv, oB]
   dsimp only
   rw [subI 3 false false _ _ (by unfold qau; omega) (by unfold qau; omega), oB, addI 3 false false _ _ (by unfold qau; omega) (by unfold qau; omega), oB, qe4, qa1]
   rw [show stP 1 (.ptr b (2 + 1)) (.int .i64 (T.ub + ((data.length : Int) - (p.ino.data.length : Int)))) (onS A) = _ from t1', oB]
   dsimp only
   rw [qc6 (by rfl), qfp hU.on, e3.ld ht2.on, oB]
   dsimp only
   rw [u1, oB]
 · exact (hgU.trans (gB.mono fun x _ hx => .inl hx)).trans (u3.mono fun x _ hx => hx ▸ own_box hp)
end
section
variable {S U : St} {b r : Nat} {T : Tab}
theorem TabAt.delName (h : TabAt S b r T) {d : Int} {p : Nod} (hp : T.get d = some p) {m : Nat} (hm : p.ino.map = some m) {a : List UInt8} {i : Int} (hl : lkS a p.ino.ents = some i) : ∃ U, (∀ l, qbm E0 63 (.map m) (sv a) (stt S l) = some (stt U (l.map fun l => ⟨m, 0, big, true⟩ :: ⟨m, 0, big, false⟩ :: l))) ∧ TabAt U b r (T.upd d (qb2 (qa7 a p.ino.ents))) ∧ Grew (fun x => x = m) S U ∧ U.next = S.next := by
 obtain ⟨es, c, h1, h2⟩ := del_str h.on (h.em p (qan hp).1 m hm) a hl
 exact ⟨_, h2, h.putE hp hm h1, qb6 _ _, rfl⟩
theorem TabAt.delNode (h : TabAt S b r T) {i : Int} {p : Nod} (hp : T.get i = some p) : ∃ U, qbm E0 66 (.map r) (.int .i64 i) S = some U ∧ TabAt U b r (T.del i) ∧ Grew (fun x => x = r) S U ∧ U.next = S.next := by
 obtain ⟨es, c, h1, h2⟩ := del_int h.on und66 h.nm i (w := .ptr p.box 0) (by rw [lkI_kvN, show qfk i T.nodes = some p from hp]; rfl)
 exact ⟨_, h2 none, h.putD i h1, qb6 _ _, rfl⟩
def qfw (T : Tab) (d : Int) (a : List UInt8) : Int := if qmf T d = 0 then (match T.find d a with
 | none => 5
 | some i => match T.get i with
  | none => 0
  | some q => if q.ino.ents = [] then 0 else 20) else qmf T d
theorem qp6 (h : TabAt S b r T) (m : Nat) (d : Int) (a : List UInt8) {p q : Nod} {i : Int} {mp : Nat} (hd : qmf T d = 0) (hp : T.get d = some p) (hm : p.ino.map = some mp) (hf : lkS a p.ino.ents = some i) (hq : T.get i = some q) (hqe : q.ino.ents = []) (hl : -qau < q.ino.links ∧ q.ino.links < qau) :
 ∃ U x0, Cap U x0 23 (.ptr b 0) ∧ TabAt U b r ((T.upd d (qb2 (qa7 a p.ino.ents))).upd i (addL (-1))) ∧ Grew (Own b r T) S U ∧ ¬ Own b r T x0 ∧ S.next ≤ x0 ∧ F14 (ev E0 KD (m + 4)) qa4 (.ptr b 0) (.int .i64 d) (sv a) S =
  ifK (.bool (decide (q.ino.links + -1 = 0))) (
(ld1 (.ptr x0 0) U).bind fun p68 =>
(qa3 p68.1).bind fun t69 =>
(faP 4 false 1 t69).bind fun t70 =>
(ld1 t70 p68.2).bind fun p71 =>
(vu (qbm E0 66 p71.1 (.int .i64 i) p71.2)).bind fun p73 =>
(ld1 (.ptr x0 0) p73.2).bind fun p74 =>
(qa3 p74.1).bind fun t75 =>
(faP 2 true 2 t75).bind fun t76 =>
(faP 0 false 1 t76).bind fun t77 =>
(ld1 t77 p74.2).bind fun p78 =>
(qab E0 .sub 3 false true p78.1 (.int .i64 1)).bind fun t79 =>
(qa3 p74.1).bind fun t80 =>
(faP 2 true 2 t80).bind fun t81 =>
(faP 0 false 1 t81).bind fun t82 =>
(stP 1 t82 t79 p78.2).bind fun p83 =>
(ld1 (.ptr x0 0) (onS p83.2)).bind fun p84 =>
(qa3 p84.1).bind fun t85 =>
(faP 2 true 2 t85).bind fun t86 =>
(faP 1 false 1 t86).bind fun t87 =>
(ld1 t87 (onS p84.2)).bind fun p88 =>
(qa3 (.ptr q.box 0)).bind fun t90 =>
(faP 0 true 4 t90).bind fun t91 =>
(faP 2 false 1 t91).bind fun t92 =>
(ld1 t92 (onS p88.2)).bind fun p93 =>
(qha p93.1 (onS p93.2)).bind fun p94 =>
(qab E0 .sub 3 false false p88.1 p94.1).bind fun t95 =>
(qa3 p84.1).bind fun t96 =>
(faP 2 true 2 t96).bind fun t97 =>
(faP 1 false 1 t97).bind fun t98 =>
(stP 1 t98 t95 (onS p94.2)).bind fun p99 =>
qid [(0, [9, 10]), (4, [9, 10])] p83.2 [p84.2.log, [], [], [], p88.2.log, [], [], [], [], p93.2.log, p94.2.log, [], [], [], [], p99.2.log] p99.2 fun S100 =>
some (.ret (.int .i64 0), S100)) (some (.ret (.int .i64 0), U)) := by
 have hfind : T.find d a = some i := by unfold Tab.find; rw [hp]; exact hf
 have hid : i ≠ d := fun e => by
  rw [e, hp] at hq
  simp only [oS] at hq
  rw [hq, hqe] at hf
  cases hf
 obtain ⟨S1, S2, S3, s1, s2, s3, c1, c2, c3, g3, n3⟩ := qg3 h.on 23 3 9 (oneP b 0) (qb5 .i64 d) (qgv a)
 have h3 := h.grewF g3
 obtain ⟨S4, a1, a2, a3, a4, a5⟩ := ql9 (m + 3) h3.on b d
 have h4 := h3.grewF a4
 obtain ⟨S5, b1, b2, b3, b4, b5, b6⟩ := qnv (m + 3) h4.on b d a
 have h5 := h4.grewF b5
 have g45 := a4.trans b5
 have he0 : qg6 T d a = 0 := by unfold qg6; rw [hfind]; rfl
 have hqe' : (if q.ino.ents = [] then (0 : Int) else 20) = 0 := if_pos hqe
 have all : AsksAll S5 (m + 3) [.fn (.func 27) [.ptr b 0] [], .fn (.func 57) [] [.ptr S3.next 0, .ptr (S3.next + 1) 0], .fn (.func 63) [] [.ptr S4.next 0, .ptr (S4.next + 1) 0, .ptr (S4.next + 2) 0], .fn (.func 36) [] [.ptr S.next 0, .ptr (S.next + 1) 0, .ptr (S.next + 2) 0]] (qg5 [0, qmf T d, qg6 T d a, if q.ino.ents = [] then (0 : Int) else 20]) :=
  qad (qcd (m + 1) b) (qad (qee h5 (m + 1) (a2.grew b5) (a3.grew b5)) (qad (qgo h5 m b2 b3 b4) (qad (qnt h5 m hfind hq (by rw [hqe]; decide) (c1.grew g45) (c2.grew g45) (c3.grew g45)) qfj)))
 rw [hd, he0, hqe', show qg5 [0, 0, 0, 0] = 0 from rfl] at all
 obtain ⟨R, U, q1, q2, q3, q4⟩ := asked h5.on (m + 3) _ (fun v hv => by
  simp only [List.mem_cons, List.not_mem_nil, or_false] at hv
  rcases hv with rfl | rfl | rfl | rfl <;> exact oneF _ _ _) (by show 4 < 1000000; decide) all
 obtain ⟨l2, q2'⟩ := qdy (m + 3) q2
 have gU := g45.trans q3
 have hU := (h3.grewF gU).same (U := atS U S3) rfl rfl rfl
 have gA := qcm gU h3.on
 have d1 := c1.grew gA
 have d2 := c2.grew gA
 have d3 := c3.grew gA
 have hgU : Grew (Own b r T) S (atS U S3) := (g3.trans gA).mono fun _ _ h => h.elim
 generalize hA : atS U S3 = A at hU gA d1 d2 d3 hgU
 obtain ⟨B, t1, t2, t3, t4⟩ := hU.delName hp hm hf
 have ht2 := t2.same (U := atS B A) rfl rfl rfl
 have gB := qcm t3 hU.on
 have hmp := h.hm p (qan hp).1 mp hm
 have f1 : Cap (atS B A) S.next 23 (.ptr b 0) := ⟨d1.bx.grew d1.lt (fun e => by omega) gB, Nat.lt_of_lt_of_le d1.lt gB.next⟩
 have hq' : (T.upd d (qb2 (qa7 a p.ino.ents))).get i = some q := by rw [qar hid]; exact hq
 generalize hC : atS B A = C at ht2 gB f1
 obtain ⟨D, u1, u2, u3, u4⟩ := ht2.setLinks hq' (-1)
 have hbx := h.hn q (qan hq).1
 have k1 : Cap D S.next 23 (.ptr b 0) := ⟨f1.bx.grew f1.lt (fun e => by omega) u3, Nat.lt_of_lt_of_le f1.lt u3.next⟩
 have hq2 := qbu (f := addL (-1)) hq'
 refine ⟨D, S.next, k1, u2, (hgU.trans (gB.mono fun x _ hx => hx ▸ qol hp hm)).trans (u3.mono fun x _ hx => hx ▸ own_box hq), ?_, Nat.le_refl _, ?_⟩
 · rintro (e | e | ⟨x, hx, e | e⟩)
   · have := h.hb; omega
   · have := h.hr; omega
   · have := h.hn x hx; omega
   · have := h.hm x hx _ e; omega
 · rw [F14_eq, s1, oB]
   dsimp only
   rw [s2, oB]
   dsimp only
   rw [s3, oB]
   dsimp only
   rw [c1.ldL h3.on, oB]
   dsimp only
   rw [qa1, c1.ldL h3.on, oB]
   dsimp only
   rw [qa1, c2.ldL h3.on, oB]
   dsimp only
   rw [qa1, show (ev E0 KD (m + 4)).f 28 [.ptr b 0, .int .i64 d] (onS S3) = _ from a1 (some []), qak]
   rw [show onS (stt S4 (Option.map _ (some []))) = onS S4 from rfl, (c1.grew a4).ldL h4.on, oB]
   dsimp only
   rw [qa1, (c2.grew a4).ldL h4.on, oB]
   dsimp only
   rw [qa1, (c3.grew a4).ldL h4.on, oB]
   dsimp only
   rw [qa1, show (ev E0 KD (m + 4)).f 37 [.ptr b 0, .int .i64 d, sv a] (onS S4) = _ from b1 (some []), qak]
   rw [show bsP 72 1 4 (Go.Proofs.Ytbihlgcdnhoknaa.Ev.one .nilfn) [(0, (.fn (.func 27) [.ptr b 0] [])), (1, .fn (.func 57) [] [.ptr S3.next 0, .ptr (S3.next + 1) 0]), (2, .fn (.func 63) [] [.ptr S4.next 0, .ptr (S4.next + 1) 0, .ptr (S4.next + 2) 0]), (3, .fn (.func 36) [] [.ptr S.next 0, .ptr (S.next + 1) 0, .ptr (S.next + 2) 0])] (onS (stt S5 (Option.map _ (some [])))) = _ from q1 (some []), oB]
   dsimp only
   rw [show (ev E0 KD (m + 4)).f 26 _ (onS (stt R (Option.map _ (some [])))) = _ from q2', qak]
   rw [qew (S.next + 3) [0, 2, 3, 5, 6, 7] [4, 8]]
   rotate_left
   · rfl
   · exact ⟨⟨⟨rfl, by show S.next < S.next + 3; omega⟩, trivial⟩, ⟨⟨rfl, by show S.next < S.next + 3; omega⟩, trivial⟩, ⟨⟨rfl, by show S.next + 1 < S.next + 3; omega⟩, trivial⟩, ⟨⟨rfl, by show S.next < S.next + 3; omega⟩, trivial⟩, ⟨⟨rfl, by show S.next + 1 < S.next + 3; omega⟩, trivial⟩, ⟨⟨rfl, by show S.next + 2 < S.next + 3; omega⟩, trivial⟩, trivial⟩
   · exact ⟨⟨by show S.next + 3 ≤ S3.next + 1; omega, by show S.next + 3 ≤ S3.next; omega, trivial⟩, ⟨by show S.next + 3 ≤ S4.next + 2; omega, by show S.next + 3 ≤ S4.next + 1; omega, by show S.next + 3 ≤ S4.next; omega, trivial⟩, trivial⟩
   rw [qa1, qdq h3.on, hA, qob, oB, ifK_bool]
   simp only [beq_self_eq_true, Bool.not_true, cond_false]
   rw [d1.ld hU.on, oB]
   dsimp only
   rw [d2.ld hU.on, oB]
   dsimp only
   rw [d3.ld hU.on, oB]
   dsimp only
   rw [show ev E0 KD (m + 4) = ev E0 KD (m + 2 + 2) from rfl, qig hU (m + 2) d a, callP_ret, qk8, oB, qk9, oB, hfind]
   rw [d1.ldL hU.on, oB]
   dsimp only
   rw [qek, oB, qcy, oB, qa1, Nat.zero_add, hU.ldL (v := .map r) rfl, oB]
   dsimp only
   rw [qa1, d2.ldL hU.on, oB]
   dsimp only
   rw [qa1, qgd hU, oB, hp]
   simp only [qkw, qek, qcy, oB, Nat.zero_add, qa1]
   rw [hU.ndL hp (i := d) (k := 5) (v := mapV p.ino.map) rfl, oB]
   dsimp only
   rw [qa1, d3.ldL hU.on, oB]
   dsimp only
   rw [qa1, hm]
   unfold mapV
   dsimp only
   rw [show qbm E0 63 (.map mp) (sv a) (onS A) = _ from t1 (some [])]
   show ((some (V.tuple [], B.lg _)).bind _) = _
   rw [oB]
   dsimp only
   rw [qc6 (by rfl), qfp hU.on, hC, f1.ld ht2.on, oB]
   dsimp only
   simp only [qek, qcy, oB, Nat.zero_add]
   rw [ht2.ld (i := 4) (v := .map r) rfl, oB]
   dsimp only
   rw [show (V.int .i64 ((some i).getD 0)) = .int .i64 i from rfl, qeg ht2 i, oB, hq']
   simp only [qkw, qek, qcy, oB, Nat.zero_add]
   rw [ht2.nd1 hq' (k := 3) (v := .int .i64 q.ino.links) rfl, oB]
   dsimp only
   rw [subI 3 false true _ _ hl (by unfold qau; omega), oB, show q.ino.links - 1 = q.ino.links + -1 from rfl, u1, oB]
   dsimp only
   rw [u2.nd1 hq2 (k := 3) (v := .int .i64 (q.ino.links + -1)) rfl, oB]
   dsimp only
   rw [qhl, oB]
theorem unlink_more (h : TabAt S b r T) (m : Nat) (d : Int) (a : List UInt8) {p q : Nod} {i : Int} {mp : Nat} (hd : qmf T d = 0) (hp : T.get d = some p) (hm : p.ino.map = some mp) (hf : lkS a p.ino.ents = some i) (hq : T.get i = some q) (hqe : q.ino.ents = []) (hl : -qau < q.ino.links ∧ q.ino.links < qau) (h1 : q.ino.links ≠ 1) :
 ∃ U, (ev E0 KD (m + 5)).f 14 [.ptr b 0, .int .i64 d, sv a] S = some (.ret (.int .i64 0), U) ∧ TabAt U b r ((T.upd d (qb2 (qa7 a p.ino.ents))).upd i (addL (-1))) ∧ Grew (Own b r T) S U := by
 obtain ⟨U, x0, _, k2, k3, _, _, k4⟩ := qp6 h m d a hd hp hm hf hq hqe hl
 refine ⟨U, rd14 ?_, k2, k3⟩
 rw [show decide (q.ino.links + -1 = 0) = false from decide_eq_false (by omega), ifK_bool] at k4
 exact k4
theorem unlink_last (h : TabAt S b r T) (m : Nat) (d : Int) (a : List UInt8) {p q : Nod} {i : Int} {mp : Nat} (hd : qmf T d = 0) (hp : T.get d = some p) (hm : p.ino.map = some mp) (hf : lkS a p.ino.ents = some i) (hq : T.get i = some q) (hqe : q.ino.ents = []) (h1 : q.ino.links = 1)
 (hT : Fits T) (hd2 : q.ino.data.length < 1000000) :
 ∃ U, (ev E0 KD (m + 5)).f 14 [.ptr b 0, .int .i64 d, sv a] S = some (.ret (.int .i64 0), U) ∧ TabAt U b r { ((T.upd d (qb2 (qa7 a p.ino.ents))).upd i (addL (-1))).del i with ui := T.ui - 1, ub := T.ub - (q.ino.data.length : Int) } ∧ Grew (Own b r T) S U := by
 obtain ⟨U, x0, k1, k2, k3, kO, kN, k4⟩ := qp6 h m d a hd hp hm hf hq hqe (by rw [h1]; unfold qau; omega)
 rw [show decide (q.ino.links + -1 = 0) = true from decide_eq_true (by omega), ifK_bool] at k4
 simp only [cond_true] at k4
 have hid : i ≠ d := fun e => by
  rw [e, hp] at hq
  simp only [oS] at hq
  rw [hq, hqe] at hf
  cases hf
 have hq' : ((T.upd d (qb2 (qa7 a p.ino.ents))).upd i (addL (-1))).get i = some { q with ino := addL (-1) q.ino } := qbu (by rw [qar hid]; exact hq)
 obtain ⟨V1, v1, v2, v3, v4⟩ := k2.delNode hq'
 obtain ⟨W, w1, w2, w3, w4⟩ := v2.setT (T' := { ((T.upd d (qb2 (qa7 a p.ino.ents))).upd i (addL (-1))).del i with ui := T.ui - 1 }) rfl 2 (by decide) (qb5 .i64 (T.ui - 1)) (set6_2 ..)
 obtain ⟨Y, y1, y2, y3, y4⟩ := w2.setT (T' := { ((T.upd d (qb2 (qa7 a p.ino.ents))).upd i (addL (-1))).del i with ui := T.ui - 1, ub := T.ub - (q.ino.data.length : Int) }) rfl 3 (by decide) (qb5 .i64 (T.ub - (q.ino.data.length : Int))) (set6_3 ..)
 obtain ⟨lY, y1'⟩ := stP_lg w2.on y1
 have hx : x0 ≠ b ∧ x0 ≠ r := ⟨fun e => kO (.inl e), fun e => kO (.inr (.inl e))⟩
 have c2 : Cap V1 x0 23 (.ptr b 0) := ⟨k1.bx.grew k1.lt (fun e => hx.2 e) v3, Nat.lt_of_lt_of_le k1.lt v3.next⟩
 have c3 : Cap W x0 23 (.ptr b 0) := ⟨c2.bx.grew c2.lt (fun e => hx.1 e) w3, Nat.lt_of_lt_of_le c2.lt w3.next⟩
 have hqb : Bx U q.box 65 (addL (-1) q.ino).cells := k2.nd _ (qan hq').1
 have hqn := k2.hn _ (qan hq').1
 have hqo := k2.nb _ (qan hq').1
 have hqb2 : Bx W q.box 65 (addL (-1) q.ino).cells := (hqb.grew hqn (fun e => hqo.2 e) v3).grew (Nat.lt_of_lt_of_le hqn v3.next) (fun e => hqo.1 e) w3
 have hqd : ld1 (.ptr q.box 2) (onS W) = some (sv q.ino.data, W.lg [⟨q.box, 2, 3, false⟩]) := Bx6.ldL w2.on hqb2 big6 rfl
 refine ⟨atS Y W, rd14 (k4.trans ?_), y2.same rfl rfl rfl, ((k3.trans (v3.mono fun x _ hx => .inr (.inl hx))).trans (w3.mono fun x _ hx => .inl hx)).trans ((qcm y3 w2.on).mono fun x _ hx => .inl hx)⟩
 rw [k1.ld k2.on, oB]
 dsimp only
 rw [qek, oB, qcy, oB, Nat.zero_add, k2.ld (v := .map r) rfl, oB]
 dsimp only
 rw [v1]
 show ((some (V.tuple [], V1)).bind _) = _
 rw [oB]
 dsimp only
 rw [c2.ld v2.on, oB]
 dsimp only
 simp only [qek, qcy, oB, Nat.zero_add, Nat.add_zero]
 rw [v2.ld (i := 2) (v := .int .i64 T.ui) rfl, oB]
 dsimp only
 rw [subI 3 false true _ _ hT.ui (by unfold qau; omega), oB, w1, oB]
 dsimp only
 rw [c3.ldL w2.on, oB]
 dsimp only
 simp only [qek, qcy, oB, Nat.zero_add, qa1]
 rw [w2.ldL (i := 2 + 1) (v := .int .i64 T.ub) rfl, oB]
 dsimp only
 rw [qa1, hqd, oB]
 dsimp only
 rw [lnStr_sv, oB]
 dsimp only
 rw [subI 3 false false _ _ hT.ub (by unfold qau; omega), oB, qe4, qa1]
 rw [show stP 1 (.ptr b (2 + 1)) (.int .i64 (T.ub - (q.ino.data.length : Int))) (onS W) = _ from y1', oB]
 dsimp only
 rw [qc6 (by rfl), qfp w2.on]
end
end Go.Proofs.Ytbihlgcdnhoknaa.W
