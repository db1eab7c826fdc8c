/-
  WHAT THE FUNCTIONS COME TO: each is read by the evaluator, printed, and told as a function of data, part 8 of 11 (no condition).
-/
import Derived.Test.YtbihlgcdnhoknaaW7
namespace Go.Proofs.Ytbihlgcdnhoknaa.W
open Go.Proofs.Ytbihlgcdnhoknaa.Ev Go.RowKit
set_option maxRecDepth 100000
noncomputable def mv2 (b0 b1 b2 x1 x2 x4 : V) (S : St) : Rs :=
(ld1 b0 S).bind fun p59 =>
(qa3 p59.1).bind fun t60 =>
(faP 4 false 1 t60).bind fun t61 =>
(ld1 t61 p59.2).bind fun p62 =>
(qae E0 66 p62.1 x1 false p62.2).bind fun p64 =>
(qa3 p64.1).bind fun t65 =>
(faP 5 false 1 t65).bind fun t66 =>
(ld1 t66 p64.2).bind fun p67 =>
(vu (qbm E0 63 p67.1 x2 p67.2)).bind fun p69 =>
(ld1 b0 (onS p69.2)).bind fun p70 =>
(qa3 p70.1).bind fun t71 =>
(faP 4 false 1 t71).bind fun t72 =>
(ld1 t72 (onS p70.2)).bind fun p73 =>
(ld1 b1 (onS p73.2)).bind fun p74 =>
(qae E0 66 p73.1 p74.1 false (onS p74.2)).bind fun p75 =>
(qa3 p75.1).bind fun t76 =>
(faP 5 false 1 t76).bind fun t77 =>
(ld1 t77 (onS p75.2)).bind fun p78 =>
(ld1 b2 (onS p78.2)).bind fun p80 =>
(vu (qag E0 63 p78.1 x4 p80.1 (onS p80.2))).bind fun p81 =>
qid [(0, [4, 10]), (3, [4, 10]), (4, [10]), (5, [10]), (8, [10])] p69.2 [p70.2.log, [], [], p73.2.log, p74.2.log, p75.2.log, [], [], p78.2.log, [], p80.2.log, p81.2.log] p81.2 fun S82 =>
(ld1 b0 (onS S82)).bind fun p83 =>
(qa3 p83.1).bind fun t84 =>
(faP 4 false 1 t84).bind fun t85 =>
(ld1 t85 (onS p83.2)).bind fun p86 =>
(ld1 b2 (onS p86.2)).bind fun p87 =>
(qae E0 66 p86.1 p87.1 false (onS p87.2)).bind fun p88 =>
qid [(0, [4]), (3, [4])] S82 [p83.2.log, [], [], p86.2.log, p87.2.log, p88.2.log, []] (onS p88.2) fun S90 =>
(qa3 p88.1).bind fun t92 =>
(faP 0 true 4 t92).bind fun t93 =>
(faP 0 false 1 t93).bind fun t94 =>
(ld1 t94 S90).bind fun p95 =>
(qab E0 .eql 3 false true p95.1 (.int .i64 2)).bind fun t96 =>
ifK t96 (
(ld1 b1 p95.2).bind fun p98 =>
(qa3 p88.1).bind fun t99 =>
(faP 4 false 1 t99).bind fun t100 =>
(stP 1 t100 p98.1 p98.2).bind fun p101 =>
some (.ret (.int .i64 0), p101.2)) (
some (.ret (.int .i64 0), p95.2))
noncomputable def mv1 (self : EV) (b0 b1 x1 x2 x4 : V) (S : St) : Rs :=
(ld1 b0 S).bind fun p35 =>
qaj (self.f 13 [p35.1, x1, x2] p35.2) fun t38 S38 =>
(qa6 t38 0).bind fun t40 =>
(qa6 t38 1).bind fun t41 =>
(some (nwP 3 1 (Go.Proofs.Ytbihlgcdnhoknaa.Ev.one (.int .i64 0)) S38)).bind fun p42 =>
(stP 1 p42.1 t40 p42.2).bind fun p43 =>
(ld1 b0 p43.2).bind fun p47 =>
(ld1 b1 p47.2).bind fun p48 =>
qaj (self.f 30 [p47.1, p48.1, x4] p48.2) fun t50 S50 =>
(bsP 72 1 2 (Go.Proofs.Ytbihlgcdnhoknaa.Ev.one .nilfn) [(0, t50), (1, (.fn (.func 40) [] [b1, b0, p42.1]))] S50).bind fun p52 =>
qaj (self.f 26 [p52.1] p52.2) fun t53 S53 =>
(qab E0 .neq 27 false true t53 (.int .i64 0)).bind fun t56 =>
ifK t56 (
some (.ret t53, S53)) (
mv2 b0 b1 p42.1 x1 x2 x4 S53)
theorem F19_cut (self : EV) (N : Nat) (x0 x1 x2 x3 x4 : V) (S : St) : F19 self N x0 x1 x2 x3 x4 S =
(qd7 23 x0 S).bind fun p0 =>
(qd7 3 x3 p0.2).bind fun p1 =>
(ld1 p0.1 (onS p1.2)).bind fun p3 =>
(ld1 p0.1 (onS p3.2)).bind fun p5 =>
qd1 (qah E0 (B19.r.l).ops) p1.2 4 [p3.2.log, [], p5.2.log, []] (self.f 28 [p5.1, x1] (onS p5.2)) fun t7 S7 =>
(ld1 p0.1 (onS S7)).bind fun p8 =>
(ld1 p1.1 (onS p8.2)).bind fun p9 =>
qd1 (qah E0 (B19.r.l).ops) p1.2 7 [p3.2.log, [], p5.2.log, [], S7.log, p8.2.log, p9.2.log] (self.f 28 [p8.1, p9.1] (onS p9.2)) fun t10 S10 =>
qd1 (qah E0 (B19.r.l).ops) p1.2 9 [p3.2.log, [], p5.2.log, [], S7.log, p8.2.log, p9.2.log, S10.log, []] (self.f 29 [x4] (onS S10)) fun t12 S12 =>
(ld1 p0.1 (onS S12)).bind fun p13 =>
qd1 (qah E0 (B19.r.l).ops) p1.2 13 [p3.2.log, [], p5.2.log, [], S7.log, p8.2.log, p9.2.log, S10.log, [], S12.log, p13.2.log, [], []] (self.f 37 [p13.1, x1, x2] (onS p13.2)) fun t16 S16 =>
(bsP 72 1 5 (Go.Proofs.Ytbihlgcdnhoknaa.Ev.one .nilfn) [(0, (.fn (.func 27) [p3.1] [])), (1, t7), (2, t10), (3, t12), (4, t16)] (onS S16)).bind fun p17 =>
qd1 (qah E0 (B19.r.l).ops) p1.2 15 [p3.2.log, [], p5.2.log, [], S7.log, p8.2.log, p9.2.log, S10.log, [], S12.log, p13.2.log, [], [], S16.log, p17.2.log] (self.f 26 [p17.1] (onS p17.2)) fun t18 S18 =>
qid [(0, [2, 4, 5, 6, 7, 9, 10, 13]), (2, [5, 6, 10]), (4, [5, 6, 10]), (5, [6, 10]), (6, [10]), (7, [10]), (9, [10])] p1.2 [p3.2.log, [], p5.2.log, [], S7.log, p8.2.log, p9.2.log, S10.log, [], S12.log, p13.2.log, [], [], S16.log, p17.2.log, S18.log, []] (onS S18) fun S20 =>
(qab E0 .neq 27 false true t18 (.int .i64 0)).bind fun t22 =>
(qa2 false t22).bind fun g24 => (bif g24 then some x1 else some (.tuple [])).bind fun t24 =>
(qa2 false t22).bind fun g25 => (bif g25 then ld1 p1.1 S20 else some (.tuple [], S20)).bind fun p25 =>
(qa2 false t22).bind fun g26 => (bif g26 then qab E0 .eql 3 false false t24 p25.1 else some (.tuple [])).bind fun t26 =>
(qa2 false t22).bind fun g27 => (bif g27 then some t26 else some (.tuple [])).bind fun t27 =>
(qa2 true t27).bind fun g28 => (bif g28 then some x2 else some (.tuple [])).bind fun t28 =>
(qa2 true t27).bind fun g29 => (bif g29 then some x4 else some (.tuple [])).bind fun t29 =>
(qa2 true t27).bind fun g30 => (bif g30 then qab E0 .eql 9 false false t28 t29 else some (.tuple [])).bind fun t30 =>
(qa2 false t22).bind fun g31 => (bif g31 then qbg t27 (some t30) (some (.bool false)) else some (.tuple [])).bind fun t31 =>
(qbg t22 (some (.bool true)) (some t31)).bind fun t32 =>
ifK t32 (
some (.ret t18, p25.2)) (
mv1 self p0.1 p1.1 x1 x2 x4 p25.2) := F19_eq self N x0 x1 x2 x3 x4 S
theorem rd19 {n : Nat} {args : List V} {s : St} {r : En × St} (e : qc0 E0 (ev E0 KD n) qa4 Try.f19 B19 args s = some r) : (ev E0 KD (n + 1)).f 19 args s = some r := qao (c := C19) (d := B19) (by kernel_rfl) (by kernel_rfl) (qa5 C19 _ (by kernel_rfl)) rfl e
theorem rd40 {n : Nat} {args : List V} {s : St} {r : En × St} (e : qc0 E0 (ev E0 KD n) qa4 Try.f40 B40 args s = some r) : (ev E0 KD (n + 1)).f 40 args s = some r := qao (c := C40) (d := B40) (by kernel_rfl) (by kernel_rfl) (qa5 C40 _ (by kernel_rfl)) rfl e
section
variable {T : Tab} {B : Nat}
inductive Met (T : Tab) (i : Int) : Int → Nat → Prop where
 | here : i ≠ 1 → Met T i i 0
 | step {j : Int} {n : Nat} {q : Nod} : j ≠ i → T.get j = some q → j ≠ 1 → Met T i q.ino.up n → Met T i j (n + 1)
theorem Up.uniq : ∀ {i : Int} {n m : Nat}, Up T i n → Up T i m → n = m
 | _, _, _, .root, .root => rfl
 | _, _, _, .root, .step _ _ h _ => absurd rfl h
 | _, _, _, .step _ _ h _, .root => absurd rfl h
 | _, _, _, .step h1 _ _ h4, .step k1 _ _ k4 => by
  rw [h1] at k1
  cases k1
  rw [Up.uniq h4 k4]
theorem UpA.up {i : Int} : ∀ {j : Int} {n : Nat}, UpA T i j n → Up T j n
 | _, _, .root => .root
 | _, _, .step _ h2 h3 h4 h5 => .step h2 h3 h4 h5.up
theorem Up.or (i : Int) : ∀ {j : Int} {n : Nat}, Up T j n → UpA T i j n ∨ ∃ m, m ≤ n ∧ Met T i j m
 | _, _, .root => .inl .root
 | j, _, .step (n := n) h1 h2 h3 h4 => by
  by_cases hj : j = i
  · subst hj
    exact .inr ⟨0, Nat.zero_le _, .here h3⟩
  · rcases Up.or i h4 with h | ⟨m, hm, h⟩
    · exact .inl (.step hj h1 h2 h3 h)
    · exact .inr ⟨m + 1, by omega, .step hj h1 h3 h⟩
theorem Met.not {i : Int} : ∀ {j : Int} {m n : Nat}, Met T i j m → UpA T i j n → False
 | _, _, _, .here h, k => by
  cases k with
  | root => exact h rfl
  | step h1 _ _ _ _ => exact h1 rfl
 | _, _, _, .step _ _ h _, .root => h rfl
 | _, _, _, .step h1 h2 h3 h4, .step k1 k2 _ _ k5 => by
  rw [h2] at k2
  cases k2
  exact h4.not k5
open Classical in
noncomputable def qiy (T : Tab) (t i : Int) : Int := if ∃ n, UpA T i t n then 0 else 2
theorem neq3 (t : TypeId) (c d : Bool) (x y : Int) : qab E0 .neq t c d (.int .i64 x) (.int .i64 y) = some (.bool (!(x == y))) := by
 rw [binV_ii, intsV_neq]
 by_cases h : x = y <;> simp [h]
section
variable {U : St} {b r : Nat}
theorem L40_up (h : TabAt U b r T) {x1 x2 : Nat} {i : Int} (c1 : Cap U x1 23 (.ptr b 0)) (c2 : Cap U x2 3 (.int .i64 i)) (self : EV) (N : Nat) (nk : Ac → St → Rs) (ek : Nat → Ac → St → Rs) :
 ∀ {at_ : Int} {n : Nat} (k : Nat), UpA T i at_ n → n < k → L40_5 self N nk ek k (.ptr x1 0) (.ptr x2 0) (.int .i64 at_) U = ek 0 (fr 20 []) U
 | _, _, 0, _, hk => by omega
 | _, _, k + 1, .root, _ => by
  rw [qml, neq3, oB, ifK_bool]; rfl
 | at_, _, k + 1, .step (n := n) (q := q) h1 h2 h3 h4 h5, hk => by
  rw [qml, neq3, oB, ifK_bool, beq_false_of_ne h4, Bool.not_false, cond_true, c2.ld h.on, oB]
  dsimp only
  rw [qhl, oB, ifK_bool, decide_eq_false h1, cond_false, c1.ld h.on, oB]
  dsimp only
  rw [qek, oB, qcy, oB, Nat.zero_add, h.ld (v := .map r) rfl, oB]
  dsimp only
  rw [qeg h at_, oB, h2]
  simp only [qkw, qek, qcy, oB, Nat.zero_add]
  rw [h.nd1 h2 (v := .int .i64 q.ino.up) rfl, oB]
  exact L40_up h c1 c2 self N nk ek k h5 (by omega)
theorem L40_met (h : TabAt U b r T) {x1 x2 : Nat} {i : Int} (c1 : Cap U x1 23 (.ptr b 0)) (c2 : Cap U x2 3 (.int .i64 i)) (self : EV) (N : Nat) (nk : Ac → St → Rs) (ek : Nat → Ac → St → Rs) :
 ∀ {at_ : Int} {n : Nat} (k : Nat), Met T i at_ n → n < k → L40_5 self N nk ek k (.ptr x1 0) (.ptr x2 0) (.int .i64 at_) U = some (.ret (.int .i64 2), U)
 | _, _, 0, _, hk => by omega
 | _, _, k + 1, .here h1, _ => by
  rw [qml, neq3, oB, ifK_bool, beq_false_of_ne h1, Bool.not_false, cond_true, c2.ld h.on, oB]
  dsimp only
  rw [qhl, oB, ifK_bool, decide_eq_true rfl, cond_true]
 | at_, _, k + 1, .step (n := n) (q := q) h1 h2 h4 h5, hk => by
  rw [qml, neq3, oB, ifK_bool, beq_false_of_ne h4, Bool.not_false, cond_true, c2.ld h.on, oB]
  dsimp only
  rw [qhl, oB, ifK_bool, decide_eq_false h1, cond_false, c1.ld h.on, oB]
  dsimp only
  rw [qek, oB, qcy, oB, Nat.zero_add, h.ld (v := .map r) rfl, oB]
  dsimp only
  rw [qeg h at_, oB, h2]
  simp only [qkw, qek, qcy, oB, Nat.zero_add]
  rw [h.nd1 h2 (v := .int .i64 q.ino.up) rfl, oB]
  exact L40_met h c1 c2 self N nk ek k h5 (by omega)
variable {S : St}
theorem apart_asks (h : TabAt S b r T) (m : Nat) {y x z : Nat} {t i : Int} {n : Nat} (hu : Up T t n) (hn : n < qa4) (hy : Cap S y 3 (.int .i64 t)) (hx : Cap S x 23 (.ptr b 0)) (hz : Cap S z 3 (.int .i64 i)) : Asks S (m + 1) (.fn (.func 40) [] [.ptr y 0, .ptr x 0, .ptr z 0]) (qiy T t i) := fun U g => by
 have h1 := h.grewF g
 refine ⟨U, ?_, Grew.refl _ _⟩
 rw [qd8 (qcu (by decide)) (by kernel_rfl)]
 refine rd40 ?_
 show F40 (ev E0 KD m) qa4 (.ptr y 0) (.ptr x 0) (.ptr z 0) U = _
 rw [F40_eq, (hy.grew g).ld h1.on, oB]
 dsimp only
 unfold qiy
 rcases hu.or i with ha | ⟨k, hk, hm⟩
 · rw [if_pos ⟨_, ha⟩, L40_up h1 (hx.grew g) (hz.grew g) _ _ _ _ qa4 ha hn, exB_same, R40_1_eq]
 · rw [if_neg fun ⟨n', e⟩ => hm.not e]
   exact L40_met h1 (hx.grew g) (hz.grew g) _ _ _ _ qa4 hm (by omega)
end
end
section
variable {S U : St} {b r : Nat} {T : Tab}
theorem Cap.keep {W : Nat → Prop} {x e : Nat} {v : V} (h : Cap S x e v) (hw : ¬ W x) (g : Grew W S U) : Cap U x e v := ⟨h.bx.grew h.lt hw g, Nat.lt_of_lt_of_le h.lt g.next⟩
theorem box2_steps (ho : S.on = false) (e e2 : Nat) {v v2 : V} (hv : OneV v) (hv2 : OneV v2) : ∃ U1 U, qd7 e v S = some (.ptr S.next 0, U1) ∧ qd7 e2 v2 U1 = some (.ptr (S.next + 1) 0, U) ∧ Cap U S.next e v ∧ Cap U (S.next + 1) e2 v2 ∧ Grew (fun _ => False) S U ∧ U.next = S.next + 2 := by
 obtain ⟨U1, h1, h2, h3, h4⟩ := qhf ho e hv
 obtain ⟨U2, k1, k2, k3, k4⟩ := qhf (h3.on.trans ho) e2 hv2
 have c1 : Cap U1 S.next e v := ⟨h2, by omega⟩
 rw [h4] at k1 k2 k4
 exact ⟨U1, U2, h1, k1, c1.grew k3, ⟨k2, by omega⟩, h3.trans k3, by omega⟩
def eMove (T : Tab) (f : Int) (a : List UInt8) (t : Int) (c : List UInt8) : Int := qg5 [0, qmf T f, qmf T t, eNamed c, qg6 T f a]
theorem gTu : qa2 true (.tuple []) = some false := rfl
theorem mv_head (h : TabAt S b r T) (m : Nat) (f t : Int) (a c : List UInt8) (hc : c.length < 9223372036854775808) :
 ∃ U, Grew (fun _ => False) S U ∧ Cap U S.next 23 (.ptr b 0) ∧ Cap U (S.next + 1) 3 (.int .i64 t) ∧ F19 (ev E0 KD (m + 4)) qa4 (.ptr b 0) (.int .i64 f) (sv a) (.int .i64 t) (sv c) S =
  if eMove T f a t c = 0 ∧ ¬ (f = t ∧ a = c) then mv1 (ev E0 KD (m + 4)) (.ptr S.next 0) (.ptr (S.next + 1) 0) (.int .i64 f) (sv a) (sv c) U else some (.ret (.int .i64 (eMove T f a t c)), U) := by
 obtain ⟨S1, S2, s1, s2, c1, c2, g2, n2⟩ := box2_steps h.on 23 3 (oneP b 0) (qb5 .i64 t)
 have h2 := h.grewF g2
 obtain ⟨S3, a1, a2, a3, a4, a5⟩ := ql9 (m + 3) h2.on b f
 have h3 := h2.grewF a4
 obtain ⟨S4, b1, b2, b3, b4, b5⟩ := ql9 (m + 3) h3.on b t
 have h4 := h3.grewF b4
 obtain ⟨S5, d1, d2, d3, d4⟩ := qoa (m + 3) h4.on c
 have h5 := h4.grewF d3
 obtain ⟨S6, e1, e2, e3, e4, e5, e6⟩ := qnv (m + 3) h5.on b f a
 have h6 := h5.grewF e5
 have g56 := d3.trans e5
 have g46 := b4.trans g56
 have g36 := a4.trans g46
 have all : AsksAll S6 (m + 3) [.fn (.func 27) [.ptr b 0] [], .fn (.func 57) [] [.ptr S2.next 0, .ptr (S2.next + 1) 0], .fn (.func 57) [] [.ptr S3.next 0, .ptr (S3.next + 1) 0], .fn (.func 58) [] [.ptr S4.next 0], .fn (.func 63) [] [.ptr S5.next 0, .ptr (S5.next + 1) 0, .ptr (S5.next + 2) 0]] (eMove T f a t c) :=
  qad (qcd (m + 1) b) (qad (qee h6 (m + 1) (a2.grew g46) (a3.grew g46)) (qad (qee h6 (m + 1) (b2.grew g56) (b3.grew g56)) (qad (qji (m + 1) h6.on (d2.grew e5) hc) (qad (qgo h6 m e2 e3 e4) qfj))))
 obtain ⟨R, U, q1, q2, q3, q4⟩ := asked h6.on (m + 3) _ (fun v hv => by
  simp only [List.mem_cons, List.not_mem_nil, or_false] at hv
  rcases hv with rfl | rfl | rfl | rfl | rfl <;> exact oneF _ _ _) (by show 5 < 1000000; decide) all
 obtain ⟨l2, q2'⟩ := qdy (m + 3) q2
 have gU := g36.trans q3
 have gA := qcm gU h2.on
 have onA : (atS U S2).on = false := rfl
 have k1 := c1.grew gA
 have k2 := c2.grew gA
 refine ⟨atS U S2, g2.trans gA, k1, k2, ?_⟩
 generalize hA : atS U S2 = A at onA gA k1 k2
 rw [F19_cut, s1, oB]
 dsimp only
 rw [s2, oB]
 dsimp only
 rw [c1.ldL h2.on, oB]
 dsimp only
 rw [qa1, c1.ldL h2.on, oB]
 dsimp only
 rw [qa1, show (ev E0 KD (m + 4)).f 28 [.ptr b 0, .int .i64 f] (onS S2) = _ from a1 (some []), qak]
 rw [show onS (stt S3 (Option.map _ (some []))) = onS S3 from rfl, (c1.grew a4).ldL h3.on, oB]
 dsimp only
 rw [qa1, (c2.grew a4).ldL h3.on, oB]
 dsimp only
 rw [qa1, show (ev E0 KD (m + 4)).f 28 [.ptr b 0, .int .i64 t] (onS S3) = _ from b1 (some []), qak]
 rw [show onS (stt S4 (Option.map _ (some []))) = onS S4 from rfl, show (ev E0 KD (m + 4)).f 29 [sv c] (onS S4) = _ from d1 (some []), qak]
 rw [show onS (stt S5 (Option.map _ (some []))) = onS S5 from rfl, ((c1.grew (a4.trans b4)).grew d3).ldL h5.on, oB]
 dsimp only
 rw [qa1, show (ev E0 KD (m + 4)).f 37 [.ptr b 0, .int .i64 f, sv a] (onS S5) = _ from e1 (some []), qak]
 rw [show bsP 72 1 5 (Go.Proofs.Ytbihlgcdnhoknaa.Ev.one .nilfn) [(0, (.fn (.func 27) [.ptr b 0] [])), (1, .fn (.func 57) [] [.ptr S2.next 0, .ptr (S2.next + 1) 0]), (2, .fn (.func 57) [] [.ptr S3.next 0, .ptr (S3.next + 1) 0]), (3, .fn (.func 58) [] [.ptr S4.next 0]), (4, .fn (.func 63) [] [.ptr S5.next 0, .ptr (S5.next + 1) 0, .ptr (S5.next + 2) 0])] (onS (stt S6 (Option.map _ (some [])))) = _ from q1 (some []), oB]
 dsimp only
 rw [show (ev E0 KD (m + 4)).f 26 _ (onS (stt R (Option.map _ (some [])))) = _ from q2', qak]
 rw [qew (S.next + 2) [0, 2, 5, 6, 10] [4, 7, 9, 13]]
 rotate_left
 · rfl
 · exact ⟨⟨⟨rfl, by show S.next < S.next + 2; omega⟩, trivial⟩, ⟨⟨rfl, by show S.next < S.next + 2; omega⟩, trivial⟩, ⟨⟨rfl, by show S.next < S.next + 2; omega⟩, trivial⟩, ⟨⟨rfl, by show S.next + 1 < S.next + 2; omega⟩, trivial⟩, ⟨⟨rfl, by show S.next < S.next + 2; omega⟩, trivial⟩, trivial⟩
 · exact ⟨⟨by show S.next + 2 ≤ S2.next + 1; omega, by show S.next + 2 ≤ S2.next; omega, trivial⟩, ⟨by show S.next + 2 ≤ S3.next + 1; omega, by show S.next + 2 ≤ S3.next; omega, trivial⟩, ⟨by show S.next + 2 ≤ S4.next; omega, trivial⟩, ⟨by show S.next + 2 ≤ S5.next + 2; omega, by show S.next + 2 ≤ S5.next + 1; omega, by show S.next + 2 ≤ S5.next; omega, trivial⟩, trivial⟩
 rw [qa1, qdq h2.on, hA, qob, oB]
 generalize eMove T f a t c = e
 by_cases h0 : e = 0
 · subst h0
   simp only [beq_self_eq_true, Bool.not_true, gFF, oB, cond_true]
   rw [k2.ld onA, oB]
   dsimp only
   rw [qhl, oB]
   by_cases hft : f = t
   · rw [decide_eq_true hft]
     simp only [gTT, oB, cond_true, eqStr, pickV_bool, cond_false, ifK_bool]
     by_cases hac : a = c
     · rw [show (a == c) = true by simp [hac], cond_true, if_neg fun h => h.2 ⟨hft, hac⟩]
     · rw [show (a == c) = false from beq_false_of_ne hac, cond_false, if_pos ⟨trivial, fun h => hac h.2⟩]
   · rw [decide_eq_false hft]
     simp only [gTF, oB, cond_false, pickV_bool, ifK_bool]
     rw [if_pos ⟨trivial, fun h => hft h.1⟩]
 · rw [beq_false_of_ne h0]
   simp only [Bool.not_false, gFT, oB, cond_false, gTu, pickV_bool, cond_true, ifK_bool]
   rw [if_neg fun h => h0 h.1]
end
section
variable {S U : St} {b r : Nat} {T : Tab}
theorem var_one (ho : S.on = false) (e : Nat) (z : Tr V) {v : V} (hv : OneV v) : ∃ t, stP 1 (.ptr S.next 0) v (nwP e 1 z S).2 = some (.tuple [], t) ∧ Bx t S.next e [v] ∧ Grew (fun _ => False) S t ∧ t.next = S.next + 1 := by
 obtain ⟨t, h1, h2, h3, h4⟩ := qjt ho e 1 z [v] rfl (by omega) big1
 refine ⟨t, ?_, h2, h3, h4⟩
 rw [← h1]
 show vu (bif Nat.beq v.size 1 && !qai v then stK _ _ _ 1 v.cells else none) = _
 rw [hv.size, hv.tup, hv.cells]; rfl
def eMove2 (T : Tab) (t : Int) (c : List UInt8) (e : Int) : Int := qg5 [eFree T t c, e]
theorem mv1_run (h : TabAt S b r T) (m : Nat) {x0 x3 : Nat} {f t i : Int} {a c : List UInt8} {n : Nat} (c0 : Cap S x0 23 (.ptr b 0)) (c3 : Cap S x3 3 (.int .i64 t)) (hf : T.find f a = some i) (hu : Up T t n) (hn : n < qa4) :
 ∃ U z, Grew (fun _ => False) S U ∧ Cap U z 3 (.int .i64 i) ∧ S.next ≤ z ∧ mv1 (ev E0 KD (m + 4)) (.ptr x0 0) (.ptr x3 0) (.int .i64 f) (sv a) (sv c) S =
  if eMove2 T t c (qiy T t i) = 0 then mv2 (.ptr x0 0) (.ptr x3 0) (.ptr z 0) (.int .i64 f) (sv a) (sv c) U else some (.ret (.int .i64 (eMove2 T t c (qiy T t i))), U) := by
 obtain ⟨S1, s1, s2, s3, s4⟩ := var_one h.on 3 (Go.Proofs.Ytbihlgcdnhoknaa.Ev.one (.int .i64 0)) (qb5 .i64 i)
 have h1 := h.grewF s3
 have cz : Cap S1 S.next 3 (.int .i64 i) := ⟨s2, by omega⟩
 obtain ⟨S2, a1, a2, a3, a4, a5, a6⟩ := free_run (m + 3) h1.on b t c
 have h2 := h1.grewF a5
 have k0 := (c0.grew s3).grew a5
 have k3 := (c3.grew s3).grew a5
 have kz := cz.grew a5
 have all : AsksAll S2 (m + 3) [.fn (.func 60) [] [.ptr S1.next 0, .ptr (S1.next + 1) 0, .ptr (S1.next + 2) 0], .fn (.func 40) [] [.ptr x3 0, .ptr x0 0, .ptr S.next 0]] (eMove2 T t c (qiy T t i)) :=
  qad (qlc h2 m a2 a3 a4) (qad (apart_asks h2 (m + 2) hu hn k3 k0 kz) qfj)
 obtain ⟨R, U, q1, q2, q3, q4⟩ := asked h2.on (m + 3) _ (fun v hv => by
  simp only [List.mem_cons, List.not_mem_nil, or_false] at hv
  rcases hv with rfl | rfl <;> exact oneF _ _ _) (by show 2 < 1000000; decide) all
 refine ⟨U, S.next, (s3.trans a5).trans q3, kz.grew q3, Nat.le_refl _, ?_⟩
 unfold mv1
 rw [c0.ld h.on, oB]
 dsimp only
 rw [show ev E0 KD (m + 4) = ev E0 KD (m + 2 + 2) from rfl, qig h (m + 2) f a, callP_ret, qk8, oB, qk9, oB, hf, show (some i).getD 0 = i from rfl, oB]
 rw [qdc, s1, oB]
 dsimp only
 rw [(c0.grew s3).ld h1.on, oB]
 dsimp only
 rw [(c3.grew s3).ld h1.on, oB]
 dsimp only
 rw [show (ev E0 KD (m + 2 + 2)).f 30 [.ptr b 0, .int .i64 t, sv c] S1 = _ from a1 none, callP_ret]
 rw [show bsP 72 1 2 (Go.Proofs.Ytbihlgcdnhoknaa.Ev.one .nilfn) [(0, .fn (.func 60) [] [.ptr S1.next 0, .ptr (S1.next + 1) 0, .ptr (S1.next + 2) 0]), (1, .fn (.func 40) [] [.ptr x3 0, .ptr x0 0, .ptr S.next 0])] (stt S2 (Option.map _ none)) = _ from q1 none, oB]
 dsimp only
 rw [show (ev E0 KD (m + 2 + 2)).f 26 _ (stt R (Option.map _ none)) = _ from q2, callP_ret, qob, oB, ifK_bool]
 by_cases h0 : eMove2 T t c (qiy T t i) = 0
 · rw [if_pos h0, h0]; rfl
 · rw [if_neg h0, beq_false_of_ne h0]; rfl
theorem own_lt (h : TabAt S b r T) {y : Nat} (hy : Own b r T y) : y < S.next := by
 rcases hy with rfl | rfl | ⟨p, hp, rfl | e⟩
 · exact h.hb
 · exact h.hr
 · exact h.hn p hp
 · exact h.hm p hp _ e
theorem ino_set4 (n : Ino) (d : Int) : (Tr.ofListFrom .nil n.cells 0).set (.int .i64 d) 4 = Tr.ofListFrom .nil (setU d n).cells 0 := set6_4 ..
theorem TabAt.setUp (h : TabAt S b r T) {i : Int} {p : Nod} (hp : T.get i = some p) (d : Int) : ∃ U, stP 1 (.ptr p.box 4) (.int .i64 d) S = some (.tuple [], U) ∧ TabAt U b r (T.upd i (setU d)) ∧ Grew (fun x => x = p.box) S U ∧ U.next = S.next := by
 have hb := h.nd p (qan hp).1
 exact ⟨_, bx_st6 h.on hb rfl (m := (setU d p.ino).cells) rfl (i := 4) (by decide) (ino_set4 _ _) rfl rfl rfl, h.putN hp (setU d) rfl rfl, qb6 _ _, rfl⟩
theorem mv2_run (h : TabAt S b r T) {x0 x3 z : Nat} {f t i : Int} {a c : List UInt8} {p pt q : Nod} {mf mt : Nat} (o0 : ¬ Own b r T x0) (o3 : ¬ Own b r T x3) (oz : ¬ Own b r T z)
 (c0 : Cap S x0 23 (.ptr b 0)) (c3 : Cap S x3 3 (.int .i64 t)) (cz : Cap S z 3 (.int .i64 i)) (hp : T.get f = some p) (hm : p.ino.map = some mf) (ha : lkS a p.ino.ents = some i) (hpt : (T.upd f (qb2 (qa7 a p.ino.ents))).get t = some pt) (hmt : pt.ino.map = some mt) (hq : T.get i = some q) :
 ∃ U, mv2 (.ptr x0 0) (.ptr x3 0) (.ptr z 0) (.int .i64 f) (sv a) (sv c) S = some (.ret (.int .i64 0), U) ∧ TabAt U b r (qko T f a t c i p.ino.ents pt.ino.ents q.ino.kind) ∧ Grew (Own b r T) S U := by
 have ownf : Own b r T mf := qol hp hm
 have ownt : Own b r T mt := by
  rw [qbd, Option.map_eq_some_iff] at hpt
  obtain ⟨x, hx, hxx⟩ := hpt
  refine qol hx ?_
  rw [← hmt, ← hxx]; split <;> rfl
 have ownq : Own b r T q.box := own_box hq
 obtain ⟨S1, a1, a2, a3, a4⟩ := h.delName hp hm ha
 have d0 := c0.keep (fun e : x0 = mf => o0 (e ▸ ownf)) a3
 have d3 := c3.keep (fun e : x3 = mf => o3 (e ▸ ownf)) a3
 have dz := cz.keep (fun e : z = mf => oz (e ▸ ownf)) a3
 obtain ⟨S2, b1, b2, b3, b4⟩ := a2.setName hpt hmt c i
 have ht2 := b2.same (U := atS S2 S1) rfl rfl rfl
 have gB := qcm b3 a2.on
 have e0 := d0.keep (fun e : x0 = mt => o0 (e ▸ ownt)) gB
 have e3 := d3.keep (fun e : x3 = mt => o3 (e ▸ ownt)) gB
 have ez := dz.keep (fun e : z = mt => oz (e ▸ ownt)) gB
 have hgB : Grew (Own b r T) S (atS S2 S1) := (a3.mono fun x _ hx => hx ▸ ownf).trans (gB.mono fun x _ hx => hx ▸ ownt)
 have hq2 : ∃ q2, ((T.upd f (qb2 (qa7 a p.ino.ents))).upd t (qb2 (qat c i pt.ino.ents))).get i = some q2 ∧ q2.box = q.box ∧ q2.ino.kind = q.ino.kind := by
  rw [qbd, qbd, hq, Option.map_some, Option.map_some]
  refine ⟨_, rfl, ?_, ?_⟩
  · split <;> split <;> rfl
  · split <;> split <;> rfl
 obtain ⟨q2, hq2, hbox, hkind⟩ := hq2
 generalize hA : atS S2 S1 = A at ht2 gB e0 e3 ez hgB
 have head : mv2 (.ptr x0 0) (.ptr x3 0) (.ptr z 0) (.int .i64 f) (sv a) (sv c) S = ifK (.bool (decide (q.ino.kind = 2))) ((stP 1 (.ptr q.box 4) (.int .i64 t) A).bind fun p101 => some (.ret (.int .i64 0), p101.2)) (some (.ret (.int .i64 0), A)) := by
  unfold mv2
  rw [c0.ld h.on, oB]
  dsimp only
  rw [qek, oB, qcy, oB, Nat.zero_add, h.ld (v := .map r) rfl, oB]
  dsimp only
  rw [qeg h f, oB, hp]
  simp only [qkw, qek, qcy, oB, Nat.zero_add]
  rw [h.nd1 hp (v := mapV p.ino.map) rfl, oB]
  dsimp only
  rw [hm]
  simp only [mapV]
  rw [show qbm E0 63 (.map mf) (sv a) S = _ from a1 none]
  show ((some (V.tuple [], S1)).bind _) = _
  rw [oB]
  dsimp only
  rw [d0.ldL a2.on, oB]
  dsimp only
  rw [qek, oB, qcy, oB, qa1, Nat.zero_add, a2.ldL (v := .map r) rfl, oB]
  dsimp only
  rw [qa1, d3.ldL a2.on, oB]
  dsimp only
  rw [qa1, qgd a2, oB, hpt]
  simp only [qkw, qek, qcy, oB, Nat.zero_add, qa1]
  rw [a2.ndL hpt (k := 5) (v := mapV pt.ino.map) rfl, oB]
  dsimp only
  rw [qa1, dz.ldL a2.on, oB]
  dsimp only
  rw [qa1, hmt]
  simp only [mapV]
  rw [show qag E0 63 (.map mt) (sv c) (.int .i64 i) (onS S1) = _ from b1 (some [])]
  show ((some (V.tuple [], S2.lg _)).bind _) = _
  rw [oB]
  dsimp only
  rw [qc6 (by rfl), qfp a2.on, hA, e0.ldL ht2.on, oB]
  dsimp only
  rw [qek, oB, qcy, oB, qa1, Nat.zero_add, ht2.ldL (v := .map r) rfl, oB]
  dsimp only
  rw [qa1, ez.ldL ht2.on, oB]
  dsimp only
  rw [qa1, qgd ht2, oB, hq2]
  simp only [qkw]
  rw [qc6 (by rfl), qa1, qcq ht2.on]
  simp only [qek, qcy, oB, Nat.zero_add]
  rw [ht2.nd1 hq2 (k := 0) (v := .int .i64 q2.ino.kind) rfl, oB]
  dsimp only
  rw [qhl, oB, hkind, e3.ld ht2.on, hbox]
  rfl
 rw [ifK_bool] at head
 by_cases hk : q.ino.kind = 2
 · obtain ⟨U, u1, u2, u3, u4⟩ := ht2.setUp hq2 t
   rw [hbox] at u1 u3
   rw [decide_eq_true hk, cond_true, u1] at head
   refine ⟨U, head, ?_, hgB.trans (u3.mono fun x _ hx => hx ▸ ownq)⟩
   unfold qko
   rw [if_pos hk]; exact u2
 · rw [decide_eq_false hk, cond_false] at head
   refine ⟨A, head, ?_, hgB⟩
   unfold qko
   rw [if_neg hk]; exact ht2
end
section
variable {S U : St} {b r : Nat} {T : Tab} {B : Nat}
noncomputable def eMv (T : Tab) (f : Int) (a : List UInt8) (t : Int) (c : List UInt8) : Int :=
 if eMove T f a t c = 0 ∧ ¬ (f = t ∧ a = c) then eMove2 T t c (qiy T t ((T.find f a).getD 0)) else eMove T f a t c
inductive Moves (T : Tab) (f : Int) (a : List UInt8) (t : Int) (c : List UInt8) : Tab → Prop where
 | same : f = t → a = c → Moves T f a t c T
 | go {i : Int} {p pt q : Nod} : ¬ (f = t ∧ a = c) → T.get f = some p → lkS a p.ino.ents = some i → (T.upd f (qb2 (qa7 a p.ino.ents))).get t = some pt → pt.ino.kind = 2 → lkS c pt.ino.ents = none → T.get i = some q → (q.ino.kind = 2 → ∃ n, UpA T i t n) →
  Moves T f a t c (qko T f a t c i p.ino.ents pt.ino.ents q.ino.kind)
theorem qhj {T : Tab} {d : Int} (h : qmf T d = 0) : ∃ p, T.get d = some p ∧ p.ino.kind = 2 := by
 unfold qmf at h
 cases hg : T.get d with
 | none => rw [hg] at h; cases h
 | some p =>
  rw [hg] at h
  refine ⟨p, rfl, ?_⟩
  by_cases hk : p.ino.kind = 2
  · exact hk
  · simp [hk] at h
theorem eEntry_zero {T : Tab} {d : Int} {a : List UInt8} (h : qg6 T d a = 0) : ∃ p i, T.get d = some p ∧ lkS a p.ino.ents = some i ∧ T.find d a = some i := by
 unfold qg6 at h
 cases hf : T.find d a with
 | none => rw [hf] at h; cases h
 | some i =>
  have hf' := hf
  unfold Tab.find at hf
  rw [oI] at hf
  obtain ⟨p, h1, h2⟩ := hf
  exact ⟨p, i, h1, h2, rfl⟩
theorem qla {T : Tab} {d : Int} {a : List UInt8} (h : eFree T d a = 0) {p : Nod} (hp : T.get d = some p) : lkS a p.ino.ents = none := by
 unfold eFree Tab.find at h
 rw [hp, oB] at h
 cases hl : lkS a p.ino.ents with
 | none => rfl
 | some i => rw [hl] at h; cases h
theorem qki {a b : List UInt8} : ∀ {kv : List (List UInt8 × Int)}, lkS b kv = none → lkS b (qa7 a kv) = none
 | [], h => h
 | p :: kv, h => by
  unfold lkS at h
  by_cases hb : b = p.1
  · rw [if_pos hb] at h; cases h
  · rw [if_neg hb] at h
    unfold qa7
    by_cases ha : a = p.1
    · rw [if_pos ha]; exact h
    · rw [if_neg ha]
      unfold lkS
      rw [if_neg hb]
      exact qki h
theorem qno (hs : Sd T B) {d : Int} {p : Nod} (hp : T.get d = some p) (hk : p.ino.kind = 2) : ∃ m, p.ino.map = some m := by
 have := hs.dir d p hp hk
 cases hm : p.ino.map with
 | none => rw [hm] at this; cases this
 | some m => exact ⟨m, rfl⟩
theorem move_run (h : TabAt S b r T) (hs : Sd T B) (hB : B < qa4) (m : Nat) (f t : Int) (a c : List UInt8) (hc : c.length < 9223372036854775808) :
 ∃ U, (ev E0 KD (m + 5)).f 19 [.ptr b 0, .int .i64 f, sv a, .int .i64 t, sv c] S = some (.ret (.int .i64 (eMv T f a t c)), U) ∧ Grew (Own b r T) S U ∧ ∃ T', TabAt U b r T' ∧ (eMv T f a t c ≠ 0 → T' = T) ∧ (eMv T f a t c = 0 → Moves T f a t c T') := by
 have hlb := h.hb
 obtain ⟨U, g, c0, c3, hF⟩ := mv_head h m f t a c hc
 have hU := h.grewF g
 have gO : Grew (Own b r T) S U := g.mono fun _ _ h => h.elim
 unfold eMv
 by_cases hgo : eMove T f a t c = 0 ∧ ¬ (f = t ∧ a = c)
 · rw [if_pos hgo] at hF ⊢
   have z := qev hgo.1
   have z1 := z (qmf T f) (by simp)
   have z2 := z (qmf T t) (by simp)
   have z3 := z (qg6 T f a) (by simp)
   obtain ⟨p, i, hp, hl, hf⟩ := eEntry_zero z3
   obtain ⟨p', hp', hpk⟩ := qhj z1
   rw [hp] at hp'; cases hp'
   obtain ⟨mf, hm⟩ := qno hs hp hpk
   obtain ⟨xt, hxt, hxk⟩ := qhj z2
   obtain ⟨mt, hmt⟩ := qno hs hxt hxk
   obtain ⟨hi1, q, hq, hqu⟩ := hs.ent f p hp _ (qjh hl)
   obtain ⟨n, hn, hup⟩ := hs.chn t xt hxt hxk
   rw [hf]
   rw [show (some i).getD 0 = i from rfl]
   obtain ⟨U2, z, g2, cz, hz, hF2⟩ := mv1_run hU m (x0 := S.next) (x3 := S.next + 1) (a := a) (c := c) c0 c3 hf hup (Nat.lt_of_le_of_lt hn hB)
   have hU2 := hU.grewF g2
   rw [hF2] at hF
   by_cases he : eMove2 T t c (qiy T t i) = 0
   · rw [if_pos he] at hF
     have y := qev he
     have y1 := y (eFree T t c) (by simp)
     have y2 := y (qiy T t i) (by simp)
     have hlc := qla y1 hxt
     have hno : ∀ x, S.next ≤ x → ¬ Own b r T x := fun x hx ho => by
      have := own_lt h ho
      omega
     have hn1 : S.next ≤ U.next := g.next
     have hpt : (T.upd f (qb2 (qa7 a p.ino.ents))).get t = some (if t = f then { xt with ino := qb2 (qa7 a p.ino.ents) xt.ino } else xt) := by rw [qbd, hxt]; rfl
     have hpk2 : (if t = f then ({ xt with ino := qb2 (qa7 a p.ino.ents) xt.ino } : Nod) else xt).ino.kind = 2 := by split <;> exact hxk
     have hpm2 : (if t = f then ({ xt with ino := qb2 (qa7 a p.ino.ents) xt.ino } : Nod) else xt).ino.map = some mt := by split <;> exact hmt
     have hpe2 : lkS c (if t = f then ({ xt with ino := qb2 (qa7 a p.ino.ents) xt.ino } : Nod) else xt).ino.ents = none := by
      by_cases htf : t = f
      · rw [if_pos htf]
        rw [htf, hp] at hxt; cases hxt
        exact qki hlc
      · rw [if_neg htf]; exact hlc
     generalize (if t = f then ({ xt with ino := qb2 (qa7 a p.ino.ents) xt.ino } : Nod) else xt) = pt at hpt hpk2 hpm2 hpe2
     obtain ⟨U3, hF3, hT3, g3⟩ := mv2_run hU2 (x0 := S.next) (x3 := S.next + 1) (z := z) (a := a) (c := c) (hno _ (Nat.le_refl _)) (hno _ (by omega)) (hno _ (by omega)) (c0.grew g2) (c3.grew g2) cz hp hm hl hpt hpm2 hq (mf := mf) (mt := mt)
     rw [hF3] at hF
     refine ⟨U3, ?_, (gO.trans (g2.mono fun _ _ h => h.elim)).trans g3, _, hT3, fun e => absurd he e, fun _ => .go hgo.2 hp hl hpt hpk2 hpe2 hq fun hk => ?_⟩
     · rw [he]; exact rd19 hF
     · unfold qiy at y2
       by_cases hx : ∃ n, UpA T i t n
       · exact hx
       · rw [if_neg hx] at y2; cases y2
   · rw [if_neg he] at hF
     exact ⟨U2, rd19 hF, gO.trans (g2.mono fun _ _ h => h.elim), T, hU2, fun _ => rfl, fun e => absurd e he⟩
 · rw [if_neg hgo] at hF ⊢
   refine ⟨U, rd19 hF, gO, T, hU, fun _ => rfl, fun e => ?_⟩
   have : f = t ∧ a = c := by
    by_cases hft : f = t ∧ a = c
    · exact hft
    · exact absurd ⟨e, hft⟩ hgo
   exact .same this.1 this.2
theorem Moves.sd {T' : Tab} {f t : Int} {a c : List UInt8} (h : Moves T f a t c T') (hs : Sd T B) : Sd T' (2 * B + 1) := by
 cases h with
 | same _ _ => exact hs.mono (by omega)
 | go h1 h2 h3 h4 h5 h6 h7 h8 =>
  refine hs.move h2 h4 h5 h3 h7 h6 fun hk => ?_
  obtain ⟨n, hn⟩ := h8 hk
  rw [qbd, Option.map_eq_some_iff] at h4
  obtain ⟨x, hx, hxx⟩ := h4
  have hxk : x.ino.kind = 2 := by
   rw [← h5, ← hxx]; split <;> rfl
  obtain ⟨n', hn', hup⟩ := hs.chn t x hx hxk
  exact ⟨n, by rw [hn.up.uniq hup]; exact hn', hn⟩
end
section
variable {S U : St} {b r : Nat} {T : Tab} {B : Nat}
theorem unlink_stop (h : TabAt S b r T) (m : Nat) (d : Int) (a : List UInt8) {e : Int} (he : e ≠ 0)
 (all : ∀ {S3 S4 S5 : St}, TabAt S5 b r T → Cap S5 S3.next 23 (.ptr b 0) → Cap S5 (S3.next + 1) 3 (.int .i64 d) → Cap S5 S4.next 23 (.ptr b 0) → Cap S5 (S4.next + 1) 3 (.int .i64 d) → Cap S5 (S4.next + 2) 9 (sv a) → Cap S5 S.next 23 (.ptr b 0) → Cap S5 (S.next + 1) 3 (.int .i64 d) → Cap S5 (S.next + 2) 9 (sv a) →
  AsksAll S5 (m + 3) [.fn (.func 27) [.ptr b 0] [], .fn (.func 57) [] [.ptr S3.next 0, .ptr (S3.next + 1) 0], .fn (.func 63) [] [.ptr S4.next 0, .ptr (S4.next + 1) 0, .ptr (S4.next + 2) 0], .fn (.func 36) [] [.ptr S.next 0, .ptr (S.next + 1) 0, .ptr (S.next + 2) 0]] e) :
 ∃ U, (ev E0 KD (m + 5)).f 14 [.ptr b 0, .int .i64 d, sv a] S = some (.ret (.int .i64 e), U) ∧ TabAt U b r T ∧ Grew (fun _ => False) S U := by
 obtain ⟨S1, S2, S3, s1, s2, s3, c1, c2, c3, g3, n3⟩ := qg3 h.on 23 3 9 (oneP b 0) (qb5 .i64 d) (qgv a)
 have h3 := h.grewF g3
 obtain ⟨S4, a1, a2, a3, a4, a5⟩ := ql9 (m + 3) h3.on b d
 have h4 := h3.grewF a4
 obtain ⟨S5, b1, b2, b3, b4, b5, b6⟩ := qnv (m + 3) h4.on b d a
 have h5 := h4.grewF b5
 have g45 := a4.trans b5
 have all := all h5 (a2.grew b5) (a3.grew b5) b2 b3 b4 (c1.grew g45) (c2.grew g45) (c3.grew g45)
 obtain ⟨R, U, q1, q2, q3, q4⟩ := asked h5.on (m + 3) _ (fun v hv => by
  simp only [List.mem_cons, List.not_mem_nil, or_false] at hv
  rcases hv with rfl | rfl | rfl | rfl <;> exact oneF _ _ _) (by show 4 < 1000000; decide) all
 obtain ⟨l2, q2'⟩ := qdy (m + 3) q2
 have gU := g45.trans q3
 have hU := (h3.grewF gU).same (U := atS U S3) rfl rfl rfl
 have gA := qcm gU h3.on
 refine ⟨atS U S3, rd14 ?_, hU, g3.trans gA⟩
 show F14 (ev E0 KD (m + 4)) qa4 (.ptr b 0) (.int .i64 d) (sv a) S = _
 rw [F14_eq, s1, oB]
 dsimp only
 rw [s2, oB]
 dsimp only
 rw [s3, oB]
 dsimp only
 rw [c1.ldL h3.on, oB]
 dsimp only
 rw [qa1, c1.ldL h3.on, oB]
 dsimp only
 rw [qa1, c2.ldL h3.on, oB]
 dsimp only
 rw [qa1, show (ev E0 KD (m + 4)).f 28 [.ptr b 0, .int .i64 d] (onS S3) = _ from a1 (some []), qak]
 rw [show onS (stt S4 (Option.map _ (some []))) = onS S4 from rfl, (c1.grew a4).ldL h4.on, oB]
 dsimp only
 rw [qa1, (c2.grew a4).ldL h4.on, oB]
 dsimp only
 rw [qa1, (c3.grew a4).ldL h4.on, oB]
 dsimp only
 rw [qa1, show (ev E0 KD (m + 4)).f 37 [.ptr b 0, .int .i64 d, sv a] (onS S4) = _ from b1 (some []), qak]
 rw [show bsP 72 1 4 (Go.Proofs.Ytbihlgcdnhoknaa.Ev.one .nilfn) [(0, (.fn (.func 27) [.ptr b 0] [])), (1, .fn (.func 57) [] [.ptr S3.next 0, .ptr (S3.next + 1) 0]), (2, .fn (.func 63) [] [.ptr S4.next 0, .ptr (S4.next + 1) 0, .ptr (S4.next + 2) 0]), (3, .fn (.func 36) [] [.ptr S.next 0, .ptr (S.next + 1) 0, .ptr (S.next + 2) 0])] (onS (stt S5 (Option.map _ (some [])))) = _ from q1 (some []), oB]
 dsimp only
 rw [show (ev E0 KD (m + 4)).f 26 _ (onS (stt R (Option.map _ (some [])))) = _ from q2', qak]
 rw [qew (S.next + 3) [0, 2, 3, 5, 6, 7] [4, 8]]
 rotate_left
 · rfl
 · exact ⟨⟨⟨rfl, by show S.next < S.next + 3; omega⟩, trivial⟩, ⟨⟨rfl, by show S.next < S.next + 3; omega⟩, trivial⟩, ⟨⟨rfl, by show S.next + 1 < S.next + 3; omega⟩, trivial⟩, ⟨⟨rfl, by show S.next < S.next + 3; omega⟩, trivial⟩, ⟨⟨rfl, by show S.next + 1 < S.next + 3; omega⟩, trivial⟩, ⟨⟨rfl, by show S.next + 2 < S.next + 3; omega⟩, trivial⟩, trivial⟩
 · exact ⟨⟨by show S.next + 3 ≤ S3.next + 1; omega, by show S.next + 3 ≤ S3.next; omega, trivial⟩, ⟨by show S.next + 3 ≤ S4.next + 2; omega, by show S.next + 3 ≤ S4.next + 1; omega, by show S.next + 3 ≤ S4.next; omega, trivial⟩, trivial⟩
 rw [qa1, qdq h3.on, qob, oB, ifK_bool, beq_false_of_ne he]
 rfl
theorem unlink_err (h : TabAt S b r T) (hs : Sd T B) (hb : ∀ i p, T.get i = some p → p.ino.ents.length < 1000000) (m : Nat) (d : Int) (a : List UInt8) (he : qfw T d a ≠ 0) :
 ∃ U, (ev E0 KD (m + 5)).f 14 [.ptr b 0, .int .i64 d, sv a] S = some (.ret (.int .i64 (qfw T d a)), U) ∧ TabAt U b r T ∧ Grew (fun _ => False) S U := by
 refine unlink_stop h m d a he fun {S3 S4 S5} h5 c1 c2 c3 c4 c5 c6 c7 c8 => ?_
 by_cases hd : qmf T d = 0
 · cases hf : T.find d a with
   | none =>
    have e1 : qfw T d a = 5 := by unfold qfw; rw [if_pos hd, hf]
    have e2 : qg6 T d a = 5 := by unfold qg6; rw [hf]; rfl
    have := qad (qcd (S := S5) (m + 1) b) (qad (qee h5 (m + 1) c1 c2) (qnc (es := []) (fs := [.fn (.func 36) [] [.ptr S.next 0, .ptr (S.next + 1) 0, .ptr (S.next + 2) 0]]) (qgo h5 m c3 c4 c5) (by rw [e2]; decide)))
    rw [hd, e2] at this
    rw [e1]; exact this
   | some i =>
    have hf' := hf
    unfold Tab.find at hf'
    rw [oI] at hf'
    obtain ⟨p, hp, hl⟩ := hf'
    obtain ⟨_, q, hq, _⟩ := hs.ent d p hp _ (qjh hl)
    have e1 : qfw T d a = if q.ino.ents = [] then 0 else 20 := by unfold qfw; rw [if_pos hd, hf]; dsimp only; rw [hq]
    have e2 : qg6 T d a = 0 := by unfold qg6; rw [hf]; rfl
    have := qad (qcd (S := S5) (m + 1) b) (qad (qee h5 (m + 1) c1 c2) (qad (qgo h5 m c3 c4 c5) (qad (qnt h5 m hf hq (hb i q hq) c6 c7 c8) qfj)))
    rw [hd, e2] at this
    rw [e1]
    have e3 : ∀ x : Int, qg5 [0, 0, 0, x] = x := fun x => by
     show (if x = 0 then 0 else x) = x
     split
     · omega
     · rfl
    rw [e3] at this
    exact this
 · have e1 : qfw T d a = qmf T d := by unfold qfw; rw [if_neg hd]
   have := qad (qcd (S := S5) (m + 1) b) (qnc (es := []) (fs := [.fn (.func 63) [] [.ptr S4.next 0, .ptr (S4.next + 1) 0, .ptr (S4.next + 2) 0], .fn (.func 36) [] [.ptr S.next 0, .ptr (S.next + 1) 0, .ptr (S.next + 2) 0]]) (qee h5 (m + 1) c1 c2) hd)
   rw [e1]
   have e3 : qg5 [0, qmf T d] = qmf T d := by
    show (if qmf T d = 0 then 0 else qmf T d) = _
    rw [if_neg hd]
   rw [e3] at this
   exact this
theorem write_err (h : TabAt S b r T) (hT : Fits T) (m : Nat) (i : Int) (data : List UInt8) (hd : data.length < 1000000) (hd2 : ∀ p, T.get i = some p → p.ino.data.length < 1000000) (he : qhk T i data ≠ 0) :
 ∃ U, (ev E0 KD (m + 5)).f 10 [.ptr b 0, .int .i64 i, sv data] S = some (.ret (.int .i64 (qhk T i data)), U) ∧ TabAt U b r T ∧ Grew (fun _ => False) S U := by
 obtain ⟨S1, S2, S3, s1, s2, s3, c1, c2, c3, g3, n3⟩ := qg3 h.on 23 3 9 (oneP b 0) (qb5 .i64 i) (qgv data)
 have h3 := h.grewF g3
 obtain ⟨S4, a1, a2, a3, a4, a5⟩ := file_run (m + 3) h3.on b i
 have h4 := h3.grewF a4
 have all : AsksAll S4 (m + 3) [.fn (.func 27) [.ptr b 0] [], .fn (.func 62) [] [.ptr S3.next 0, .ptr (S3.next + 1) 0], .fn (.func 34) [] [.ptr S.next 0, .ptr (S.next + 2) 0, .ptr (S.next + 1) 0]] (qhk T i data) := by
  cases hp : T.get i with
  | none =>
   have e1 : qhk T i data = 5 := by unfold qhk; rw [hp]
   have e2 : eFile T i = 5 := by unfold eFile; rw [hp]
   have := qad (qcd (S := S4) (m + 1) b) (qnc (es := []) (fs := [.fn (.func 34) [] [.ptr S.next 0, .ptr (S.next + 2) 0, .ptr (S.next + 1) 0]]) (qif h4 (m + 1) a2 a3) (by rw [e2]; decide))
   rw [e2] at this
   rw [e1]; exact this
  | some p =>
   unfold qhk
   rw [hp]
   exact qad (qcd (m + 1) b) (qad (qif h4 (m + 1) a2 a3) (qad (qpf h4 hT m hp hd (hd2 p hp) (c1.grew a4) (c3.grew a4) (c2.grew a4)) qfj))
 obtain ⟨R, U, q1, q2, q3, q4⟩ := asked h4.on (m + 3) _ (fun v hv => by
  simp only [List.mem_cons, List.not_mem_nil, or_false] at hv
  rcases hv with rfl | rfl | rfl <;> exact oneF _ _ _) (by show 3 < 1000000; decide) all
 obtain ⟨l2, q2'⟩ := qdy (m + 3) q2
 have gU := a4.trans q3
 have hU := (h3.grewF gU).same (U := atS U S3) rfl rfl rfl
 have gA := qcm gU h3.on
 refine ⟨atS U S3, rd10 ?_, hU, g3.trans gA⟩
 show F10 (ev E0 KD (m + 4)) qa4 (.ptr b 0) (.int .i64 i) (sv data) S = _
 rw [F10_eq, s1, oB]
 dsimp only
 rw [s2, oB]
 dsimp only
 rw [s3, oB]
 dsimp only
 rw [c1.ldL h3.on, oB]
 dsimp only
 rw [qa1, c1.ldL h3.on, oB]
 dsimp only
 rw [qa1, c2.ldL h3.on, oB]
 dsimp only
 rw [qa1, show (ev E0 KD (m + 4)).f 33 [.ptr b 0, .int .i64 i] (onS S3) = _ from a1 (some []), qak]
 rw [show bsP 72 1 3 (Go.Proofs.Ytbihlgcdnhoknaa.Ev.one .nilfn) [(0, (.fn (.func 27) [.ptr b 0] [])), (1, .fn (.func 62) [] [.ptr S3.next 0, .ptr (S3.next + 1) 0]), (2, .fn (.func 34) [] [.ptr S.next 0, .ptr (S.next + 2) 0, .ptr (S.next + 1) 0])] (onS (stt S4 (Option.map _ (some [])))) = _ from q1 (some []), oB]
 dsimp only
 rw [show (ev E0 KD (m + 4)).f 26 _ (onS (stt R (Option.map _ (some [])))) = _ from q2', qak]
 rw [qew (S.next + 3) [0, 2, 3] [4]]
 rotate_left
 · rfl
 · exact ⟨⟨⟨rfl, by show S.next < S.next + 3; omega⟩, trivial⟩, ⟨⟨rfl, by show S.next < S.next + 3; omega⟩, trivial⟩, ⟨⟨rfl, by show S.next + 1 < S.next + 3; omega⟩, trivial⟩, trivial⟩
 · exact ⟨⟨by show S.next + 3 ≤ S3.next + 1; omega, by show S.next + 3 ≤ S3.next; omega, trivial⟩, trivial⟩
 rw [qa1, qdq h3.on, qob, oB, ifK_bool, beq_false_of_ne he]
 rfl
end
end Go.Proofs.Ytbihlgcdnhoknaa.W
namespace Go.Proofs.Ytbihlgcdnhoknaa.W
open Go.Proofs.Ytbihlgcdnhoknaa.Ev
def qi3 (l : List Nod) : Nat := (l.map fun p => p.ino.data.length).sum
theorem qc3 (p : Nod) (l) : qi3 (p :: l) = p.ino.data.length + qi3 l := by
 unfold qi3
 rw [List.map_cons, List.sum_cons]
theorem qc4 {d : Int} {f : Ino → Ino} (hf : ∀ n, (f n).data = n.data) : ∀ l : List Nod, qi3 (qbs d f l) = qi3 l
 | [] => rfl
 | q :: l => by
  show qi3 ((if q.no = d then ({ q with ino := f q.ino } : Nod) else q) :: qbs d f l) = _
  rw [qc3, qc3, qc4 hf l]
  split
  · show (f q.ino).data.length + _ = _
    rw [hf]
  · rfl
theorem updN_notin {d : Int} {f : Ino → Ino} : ∀ {l : List Nod}, d ∉ l.map (·.no) → qbs d f l = l
 | [], _ => rfl
 | q :: l, h => by
  simp only [List.map_cons, List.mem_cons, not_or] at h
  show ((if q.no = d then ({ q with ino := f q.ino } : Nod) else q) :: qbs d f l) = _
  rw [if_neg (fun e => h.1 e.symm), updN_notin h.2]
theorem sumD_upd {d : Int} (f : Ino → Ino) : ∀ {l : List Nod} {p : Nod}, (l.map (·.no)).Nodup → qfk d l = some p → qi3 (qbs d f l) + p.ino.data.length = qi3 l + (f p.ino).data.length
 | [], p, _, h => by cases h
 | q :: l, p, hn, h => by
  rw [List.map_cons, List.nodup_cons] at hn
  unfold qfk at h
  show qi3 ((if q.no = d then ({ q with ino := f q.ino } : Nod) else q) :: qbs d f l) + _ = _
  by_cases hc : d = q.no
  · rw [if_pos hc] at h
    cases h
    rw [if_pos hc.symm, updN_notin (by rw [hc]; exact hn.1), qc3, qc3]
    show (f q.ino).data.length + qi3 l + q.ino.data.length = q.ino.data.length + qi3 l + (f q.ino).data.length
    omega
  · rw [if_neg hc] at h
    rw [if_neg (fun e => hc e.symm), qc3, qc3]
    have := sumD_upd f hn.2 h
    omega
theorem sumD_del {i : Int} : ∀ {l : List Nod} {p : Nod}, qfk i l = some p → qi3 l = qi3 (delN i l) + p.ino.data.length ∧ l.length = (delN i l).length + 1
 | [], p, h => by cases h
 | q :: l, p, h => by
  unfold qfk at h
  unfold delN
  by_cases hc : i = q.no
  · rw [if_pos hc] at h
    cases h
    rw [if_pos hc, qc3]
    exact ⟨by omega, rfl⟩
  · rw [if_neg hc] at h
    rw [if_neg hc, qc3, qc3]
    obtain ⟨h1, h2⟩ := sumD_del h
    exact ⟨by omega, by simp only [List.length_cons]; omega⟩
theorem sumD_add (p : Nod) : ∀ l : List Nod, qi3 (l ++ [p]) = qi3 l + p.ino.data.length
 | [] => by rw [List.nil_append, qc3]; show p.ino.data.length + 0 = 0 + p.ino.data.length; omega
 | q :: l => by rw [List.cons_append, qc3, qc3, sumD_add p l]; omega
theorem qbi (d : Int) (f : Ino → Ino) (l : List Nod) : (qbs d f l).length = l.length := by unfold qbs; rw [List.length_map]
def Lt (a : List UInt8) : Prop := ∃ c : UInt8, a = [c] ∧ 97 ≤ c.toNat ∧ c.toNat ≤ 100
structure NodeOk (k : Nat) (i : Int) (n : Ino) : Prop where
 l0 : 0 ≤ n.links
 l1 : n.links ≤ 1 + k
 pos : i ≠ 1 → 1 ≤ n.links
 nam : ∀ e ∈ n.ents, Lt e.1
 len : n.ents.length ≤ k
 dat : n.data.length ≤ 19
 ddir : n.kind = 2 → n.data = []
 knd : n.kind = 1 ∨ n.kind = 2 ∨ n.kind = 3
 lnk : n.kind = 3 → n.links = 1
theorem NodeOk.mono {k k' : Nat} {i : Int} {n : Ino} (h : NodeOk k i n) (hk : k ≤ k') : NodeOk k' i n := ⟨h.l0, by have := h.l1; omega, h.pos, h.nam, Nat.le_trans h.len hk, h.dat, h.ddir, h.knd, h.lnk⟩
structure Ok (T : Tab) (k : Nat) : Prop where
 sd : Sd T (2 ^ k - 1)
 nd : ∀ i p, T.get i = some p → NodeOk k i p.ino
 lst : 1 ≤ T.last ∧ T.last ≤ 1 + k
 num : T.ui = T.nodes.length
 byt : T.ub = qi3 T.nodes
 cnt : T.nodes.length ≤ 1 + k
 qi : T.ui ≤ T.qi
 qb : T.ub ≤ T.qb
theorem qgy (k : Nat) : 2 * (2 ^ k - 1) + 1 = 2 ^ (k + 1) - 1 := by
 have := Nat.one_le_two_pow (n := k)
 rw [Nat.pow_succ]; omega
theorem Ok.mono {T : Tab} {k : Nat} (h : Ok T k) : Ok T (k + 1) :=
 ⟨h.sd.mono (by rw [← qgy]; omega), fun i p hp => (h.nd i p hp).mono (by omega), ⟨h.lst.1, by have := h.lst.2; omega⟩, h.num, h.byt, by have := h.cnt; omega, h.qi, h.qb⟩
section
variable {T : Tab} {k : Nat}
theorem qkp {k' : Nat} {d : Int} {f : Ino → Ino} (h : ∀ i p, T.get i = some p → NodeOk k i p.ino) (hk : k ≤ k') (hf : ∀ p, T.get d = some p → NodeOk k' d (f p.ino)) : ∀ i p, (T.upd d f).get i = some p → NodeOk k' i p.ino := fun i p hp => by
 rw [qbd, Option.map_eq_some_iff] at hp
 obtain ⟨x, hx, rfl⟩ := hp
 by_cases hi : i = d
 · rw [if_pos hi]
   subst hi
   exact hf x hx
 · rw [if_neg hi]
   exact (h i x hx).mono hk
theorem sumD_le : ∀ {l : List Nod}, (∀ p ∈ l, p.ino.data.length ≤ 19) → qi3 l ≤ 19 * l.length
 | [], _ => by simp [qi3]
 | p :: l, h => by
  rw [qc3, List.length_cons]
  have := h p (List.mem_cons_self ..)
  have := sumD_le fun q hq => h q (List.mem_cons_of_mem _ hq)
  omega
theorem Ok.ub (h : Ok T k) : 0 ≤ T.ub ∧ T.ub ≤ 19 * (1 + k) := by
 have h1 := h.byt
 have h2 := h.cnt
 have h3 : qi3 T.nodes ≤ 19 * T.nodes.length := sumD_le fun p hp => (h.nd p.no p (qf4 h.sd.key hp)).dat
 omega
theorem Ok.fits (h : Ok T k) (hk : k ≤ 100) : Fits T := by
 have h1 := h.ub
 have h2 := h.num
 have h3 := h.cnt
 exact ⟨by unfold qau; omega, by unfold qau; omega⟩
theorem len_setKS {a : List UInt8} {v : Int} {kv : List (List UInt8 × Int)} (h : lkS a kv = none) : (qat a v kv).length = kv.length + 1 := by rw [qlo a v kv h]; simp
theorem qkh {a : List UInt8} : ∀ {kv : List (List UInt8 × Int)}, (qa7 a kv).length ≤ kv.length
 | [] => Nat.le_refl _
 | p :: kv => by
  unfold qa7
  split
  · simp
  · have := qkh (a := a) (kv := kv)
    simp only [List.length_cons]; omega
theorem qlh {i : Int} {n : Ino} (h : NodeOk k i n) {a : List UInt8} (ha : Lt a) (v : Int) (hl : lkS a n.ents = none) : NodeOk (k + 1) i (qb2 (qat a v n.ents) n) :=
 ⟨h.l0, by have := h.l1; show n.links ≤ _; omega, h.pos, fun e he => by
  rcases qgf (show e ∈ qat a v n.ents from he) with rfl | he
  · exact ha
  · exact h.nam e he, by
  show (qat a v n.ents).length ≤ _
  rw [len_setKS hl]
  have := h.len
  omega, h.dat, h.ddir, h.knd, h.lnk⟩
theorem qjk {i : Int} {n : Ino} (h : NodeOk k i n) (a : List UInt8) : NodeOk k i (qb2 (qa7 a n.ents) n) :=
 ⟨h.l0, h.l1, h.pos, fun e he => h.nam e (qe3 (show e ∈ qa7 a n.ents from he)), Nat.le_trans (show (qa7 a n.ents).length ≤ _ from qkh) h.len, h.dat, h.ddir, h.knd, h.lnk⟩
theorem Ok.link (h : Ok T k) {d i : Int} {p q : Nod} (hp : T.get d = some p) (hpk : p.ino.kind = 2) (hq : T.get i = some q) (hqk : q.ino.kind = 1) {a : List UInt8} (hL : Lt a) (ha : lkS a p.ino.ents = none) : Ok ((T.upd d (qb2 (qat a i p.ino.ents))).upd i (addL 1)) (k + 1) := by
 have hdi : d ≠ i := fun e => by
  subst e
  rw [hp] at hq; cases hq
  omega
 refine ⟨(h.sd.link hp hpk hq (by omega) ha).mono (by rw [← qgy]; omega), ?_, ⟨h.lst.1, by have := h.lst.2; show T.last ≤ _; omega⟩, ?_, ?_, ?_, h.qi, h.qb⟩
 · refine qkp (k := k + 1) (qkp h.nd (by omega) fun x hx => ?_) (Nat.le_refl _) fun x hx => ?_
   · rw [hp] at hx; cases hx
     exact qlh (h.nd d p hp) hL i ha
   · rw [qar hdi.symm, hq] at hx; cases hx
     have := h.nd i q hq
     exact ⟨by have := this.l0; show 0 ≤ q.ino.links + 1; omega, by have := this.l1; show q.ino.links + 1 ≤ _; omega, fun h1 => by have := this.pos h1; show 1 ≤ q.ino.links + 1; omega, this.nam, Nat.le_trans this.len (by omega), this.dat, this.ddir, this.knd, fun e => by
      have : q.ino.kind = 3 := e
      omega⟩
 · show T.ui = ((qbs i _ (qbs d _ T.nodes)).length : Int)
   rw [qbi, qbi]; exact h.num
 · show T.ub = ((qi3 (qbs i (addL 1) (qbs d (qb2 (qat a i p.ino.ents)) T.nodes)) : Nat) : Int)
   rw [qc4 (f := addL 1) (fun _ => rfl), qc4 (f := qb2 (qat a i p.ino.ents)) (fun _ => rfl)]; exact h.byt
 · show (qbs i _ (qbs d _ T.nodes)).length ≤ _
   rw [qbi, qbi]
   have := h.cnt
   omega
theorem Ok.write (h : Ok T k) {i : Int} {p : Nod} (hp : T.get i = some p) (hpk : p.ino.kind = 1) {data : List UInt8} (hd : data.length ≤ 19) (hr : T.ub + ((data.length : Int) - (p.ino.data.length : Int)) ≤ T.qb) : Ok ({ T with ub := T.ub + ((data.length : Int) - (p.ino.data.length : Int)) }.upd i fun n => { n with data := data }) (k + 1) := by
 have s1 : Sd { T with ub := T.ub + ((data.length : Int) - (p.ino.data.length : Int)) } (2 ^ k - 1) := h.sd.nums rfl (Int.le_refl _)
 have hp' : ({ T with ub := T.ub + ((data.length : Int) - (p.ino.data.length : Int)) } : Tab).get i = some p := hp
 refine ⟨(s1.turn hp' (f := fun n => { n with data := data }) (fun _ => rfl) (fun _ => rfl) (fun _ => rfl) (fun _ => rfl) (fun _ => rfl)).mono (by rw [← qgy]; omega), ?_, ⟨h.lst.1, by have := h.lst.2; show T.last ≤ _; omega⟩, ?_, ?_, ?_, h.qi, hr⟩
 · refine qkp (T := { T with ub := T.ub + ((data.length : Int) - (p.ino.data.length : Int)) }) (k := k) h.nd (by omega) fun x hx => ?_
   rw [hp'] at hx; cases hx
   have := h.nd i p hp
   exact ⟨this.l0, by have := this.l1; show p.ino.links ≤ _; omega, this.pos, this.nam, Nat.le_trans this.len (by omega), hd, fun e => by
    have : p.ino.kind = 2 := e
    omega, this.knd, this.lnk⟩
 · show T.ui = ((qbs i (fun n => { n with data := data }) T.nodes).length : Int)
   rw [qbi]; exact h.num
 · show T.ub + ((data.length : Int) - (p.ino.data.length : Int)) = ((qi3 (qbs i (fun n => { n with data := data }) T.nodes) : Nat) : Int)
   have := sumD_upd (fun n => { n with data := data }) h.sd.key hp
   have h2 : qi3 (qbs i (fun n => { n with data := data }) T.nodes) + p.ino.data.length = qi3 T.nodes + data.length := this
   have := h.byt
   omega
 · show (qbs i (fun n => { n with data := data }) T.nodes).length ≤ 1 + (k + 1)
   rw [qbi]
   have := h.cnt
   omega
theorem Ok.less (h : Ok T k) {d i : Int} {p q : Nod} (hp : T.get d = some p) (hq : T.get i = some q) (hqe : q.ino.ents = []) {a : List UInt8} (ha : lkS a p.ino.ents = some i) (h1 : q.ino.links ≠ 1) : Ok ((T.upd d (qb2 (qa7 a p.ino.ents))).upd i (addL (-1))) (k + 1) := by
 have hdi : d ≠ i := fun e => by
  subst e
  rw [hp] at hq; cases hq
  rw [hqe] at ha; cases ha
 have hi1 : i ≠ 1 := (h.sd.ent d p hp _ (qjh ha)).1
 have hqk : q.ino.kind ≠ 2 := fun e => h1 (h.sd.one i q hq e hi1)
 have hq1 := h.nd i q hq
 have hpos := hq1.pos hi1
 have hk1 : q.ino.kind = 1 := by
  rcases hq1.knd with e | e | e
  · exact e
  · exact absurd e hqk
  · exact absurd (hq1.lnk e) h1
 refine ⟨(h.sd.less hp hq hqk ha).mono (by rw [← qgy]; omega), ?_, ⟨h.lst.1, by have := h.lst.2; show T.last ≤ _; omega⟩, ?_, ?_, ?_, h.qi, h.qb⟩
 · refine qkp (k := k + 1) (qkp h.nd (by omega) fun x hx => ?_) (Nat.le_refl _) fun x hx => ?_
   · rw [hp] at hx; cases hx
     exact (qjk (h.nd d p hp) a).mono (by omega)
   · rw [qar hdi.symm, hq] at hx; cases hx
     exact ⟨by show 0 ≤ q.ino.links + -1; omega, by have := hq1.l1; show q.ino.links + -1 ≤ _; omega, fun _ => by show 1 ≤ q.ino.links + -1; omega, hq1.nam, Nat.le_trans hq1.len (by omega), hq1.dat, hq1.ddir, hq1.knd, fun e => by
      have : q.ino.kind = 3 := e
      omega⟩
 · show T.ui = ((qbs i _ (qbs d _ T.nodes)).length : Int)
   rw [qbi, qbi]; exact h.num
 · show T.ub = ((qi3 (qbs i (addL (-1)) (qbs d (qb2 (qa7 a p.ino.ents)) T.nodes)) : Nat) : Int)
   rw [qc4 (f := addL (-1)) (fun _ => rfl), qc4 (f := qb2 (qa7 a p.ino.ents)) (fun _ => rfl)]; exact h.byt
 · show (qbs i _ (qbs d _ T.nodes)).length ≤ _
   rw [qbi, qbi]
   have := h.cnt
   omega
theorem Ok.last (h : Ok T k) {d i : Int} {p q : Nod} (hp : T.get d = some p) (hq : T.get i = some q) (hqe : q.ino.ents = []) {a : List UInt8} (ha : lkS a p.ino.ents = some i) (h1 : q.ino.links = 1) : Ok { ((T.upd d (qb2 (qa7 a p.ino.ents))).upd i (addL (-1))).del i with ui := T.ui - 1, ub := T.ub - (q.ino.data.length : Int) } (k + 1) := by
 have hdi : d ≠ i := fun e => by
  subst e
  rw [hp] at hq; cases hq
  rw [hqe] at ha; cases ha
 have hs := h.sd.last hp hq hqe h1 ha
 have key2 : (((T.upd d (qb2 (qa7 a p.ino.ents))).upd i (addL (-1))).nodes.map (·.no)).Nodup := by
  show ((qbs i (addL (-1)) (qbs d (qb2 (qa7 a p.ino.ents)) T.nodes)).map (·.no)).Nodup
  rw [qcf, qcf]; exact h.sd.key
 have hq2 : qfk i (qbs i (addL (-1)) (qbs d (qb2 (qa7 a p.ino.ents)) T.nodes)) = some { q with ino := addL (-1) q.ino } := qbu (T := T.upd d (qb2 (qa7 a p.ino.ents))) (by rw [qar hdi.symm]; exact hq)
 obtain ⟨n1, n2⟩ := sumD_del hq2
 rw [qc4 (f := addL (-1)) (fun _ => rfl), qc4 (f := qb2 (qa7 a p.ino.ents)) (fun _ => rfl)] at n1
 rw [qbi, qbi] at n2
 have n1' : qi3 T.nodes = qi3 (delN i (qbs i (addL (-1)) (qbs d (qb2 (qa7 a p.ino.ents)) T.nodes))) + q.ino.data.length := n1
 have hs2 : Sd { ((T.upd d (qb2 (qa7 a p.ino.ents))).upd i (addL (-1))).del i with ui := T.ui - 1, ub := T.ub - (q.ino.data.length : Int) } (2 ^ k - 1) := hs.nums rfl (Int.le_refl _)
 refine ⟨hs2.mono (by rw [← qgy]; omega), fun j x hx => ?_, ⟨h.lst.1, by have := h.lst.2; show T.last ≤ _; omega⟩, ?_, ?_, ?_, ?_, ?_⟩
 · have hx' : (((T.upd d (qb2 (qa7 a p.ino.ents))).upd i (addL (-1))).del i).get j = some x := hx
   have hj : j ≠ i := fun e => by
    subst e
    rw [show (((T.upd d (qb2 (qa7 a p.ino.ents))).upd j (addL (-1))).del j).get j = none from qgs key2] at hx'
    cases hx'
   rw [show (((T.upd d (qb2 (qa7 a p.ino.ents))).upd i (addL (-1))).del i).get j = ((T.upd d (qb2 (qa7 a p.ino.ents))).upd i (addL (-1))).get j from qfx hj _, qar hj] at hx'
   exact qkp (k' := k + 1) h.nd (by omega) (fun y hy => by
    rw [hp] at hy; cases hy
    exact (qjk (h.nd d p hp) a).mono (by omega)) j x hx'
 · show T.ui - 1 = ((delN i (qbs i (addL (-1)) (qbs d (qb2 (qa7 a p.ino.ents)) T.nodes))).length : Int)
   have := h.num
   omega
 · show T.ub - _ = ((qi3 (delN i (qbs i (addL (-1)) (qbs d (qb2 (qa7 a p.ino.ents)) T.nodes))) : Nat) : Int)
   have := h.byt
   omega
 · show (delN i (qbs i (addL (-1)) (qbs d (qb2 (qa7 a p.ino.ents)) T.nodes))).length ≤ _
   have := h.cnt
   omega
 · have := h.qi
   show T.ui - 1 ≤ T.qi
   omega
 · have := h.qb
   show T.ub - _ ≤ T.qb
   omega
theorem Ok.made (h : Ok T k) {p pd : Nod} {d : Int} (hno : p.no = T.last + 1) (hp : T.get d = some pd) (hpk : pd.ino.kind = 2) {a : List UInt8} (hL : Lt a) (ha : lkS a pd.ino.ents = none)
 (h1 : p.ino.links = 1) (h2 : p.ino.ents = []) (h3 : p.ino.kind = 2 → p.ino.map.isSome ∧ p.ino.up = d) (h4 : p.ino.kind ≠ 2 → p.ino.up = 0) (h5 : p.ino.data.length ≤ 19) (h6 : p.ino.kind = 2 → p.ino.data = []) (h7 : p.ino.kind = 1 ∨ p.ino.kind = 2 ∨ p.ino.kind = 3)
 (hqi : T.ui + 1 ≤ T.qi) (hqb : T.ub + p.ino.data.length ≤ T.qb) : Ok (qdt { T with last := T.last + 1 } p d (qat a p.no pd.ino.ents) p.ino.data.length) (k + 1) := by
 have hs1 : Sd { T with last := T.last + 1 } (2 ^ k - 1) := h.sd.nums rfl (by show T.last ≤ T.last + 1; omega)
 have hnew : ∀ i q, ({ T with last := T.last + 1 } : Tab).get i = some q → i < p.no := fun i q hq => by
  have := (h.sd.lo i q hq).2
  omega
 have hp' : ({ T with last := T.last + 1 } : Tab).get d = some pd := hp
 have hs := hs1.made (by show T.last + 1 = p.no; omega) hnew hp' hpk ha h1 h2 h3 h4 p.ino.data.length
 refine ⟨hs.mono (by rw [← qgy]; omega), fun j x hx => ?_, ⟨by have := h.lst.1; show 1 ≤ T.last + 1; omega, by have := h.lst.2; show T.last + 1 ≤ _; omega⟩, ?_, ?_, ?_, hqi, hqb⟩
 · rw [get_made hnew hp' _ _ j] at hx
   by_cases hj : j = d
   · rw [if_pos hj] at hx; cases hx
     subst hj
     exact qlh (h.nd j pd hp) hL _ ha
   · rw [if_neg hj] at hx
     by_cases hj2 : j = p.no
     · rw [if_pos hj2] at hx; cases hx
       exact ⟨by omega, by omega, fun _ => by omega, fun e he => (by rw [h2] at he; cases he), by rw [h2]; exact Nat.zero_le _, h5, h6, h7, fun _ => h1⟩
     · rw [if_neg hj2] at hx
       exact (h.nd j x hx).mono (by omega)
 · show T.ui + 1 = ((qbs d (qb2 (qat a p.no pd.ino.ents)) (T.nodes ++ [p])).length : Int)
   rw [qbi, List.length_append]
   have := h.num
   simp only [List.length_cons, List.length_nil]
   omega
 · show T.ub + _ = ((qi3 (qbs d (qb2 (qat a p.no pd.ino.ents)) (T.nodes ++ [p])) : Nat) : Int)
   rw [qc4 (f := qb2 (qat a p.no pd.ino.ents)) (fun _ => rfl), sumD_add]
   have := h.byt
   omega
 · show (qbs d (qb2 (qat a p.no pd.ino.ents)) (T.nodes ++ [p])).length ≤ _
   rw [qbi, List.length_append]
   have := h.cnt
   simp only [List.length_cons, List.length_nil]
   omega
theorem Ok.moves (h : Ok T k) {T' : Tab} {f t : Int} {a c : List UInt8} (hm : Moves T f a t c T') (hL : Lt c) : Ok T' (k + 1) := by
 have hs := hm.sd h.sd
 rw [qgy] at hs
 cases hm with
 | same _ _ => exact h.mono
 | @go i p pt q h1 h2 h3 h4 h5 h6 h7 h8 =>
  have hnd2 : ∀ j x, ((T.upd f (qb2 (qa7 a p.ino.ents))).upd t (qb2 (qat c i pt.ino.ents))).get j = some x → NodeOk (k + 1) j x.ino := by
   have hnd1 := qkp (k' := k) (f := qb2 (qa7 a p.ino.ents)) h.nd (Nat.le_refl _) (fun y hy => by
    rw [h2] at hy; cases hy
    exact qjk (h.nd f p h2) a)
   refine qkp hnd1 (by omega) fun y hy => ?_
   rw [h4] at hy; cases hy
   exact qlh (hnd1 t pt h4) hL i h6
  have hlen : ∀ {X : Tab}, X.nodes = (qbs t (qb2 (qat c i pt.ino.ents)) (qbs f (qb2 (qa7 a p.ino.ents)) T.nodes)) ∨ X.nodes = qbs i (setU t) (qbs t (qb2 (qat c i pt.ino.ents)) (qbs f (qb2 (qa7 a p.ino.ents)) T.nodes)) → X.nodes.length = T.nodes.length ∧ qi3 X.nodes = qi3 T.nodes := fun {X} hX => by
   rcases hX with e | e
   · rw [e, qbi, qbi, qc4 (f := qb2 (qat c i pt.ino.ents)) (fun _ => rfl), qc4 (f := qb2 (qa7 a p.ino.ents)) (fun _ => rfl)]
     exact ⟨rfl, rfl⟩
   · rw [e, qbi, qbi, qbi, qc4 (f := setU t) (fun _ => rfl), qc4 (f := qb2 (qat c i pt.ino.ents)) (fun _ => rfl), qc4 (f := qb2 (qa7 a p.ino.ents)) (fun _ => rfl)]
     exact ⟨rfl, rfl⟩
  unfold qko at hs ⊢
  split
  · rename_i hk
    rw [if_pos hk] at hs
    obtain ⟨e1, e2⟩ := hlen (X := ((T.upd f (qb2 (qa7 a p.ino.ents))).upd t (qb2 (qat c i pt.ino.ents))).upd i (setU t)) (.inr rfl)
    refine ⟨hs, ?_, ⟨h.lst.1, by have := h.lst.2; show T.last ≤ _; omega⟩, ?_, ?_, ?_, h.qi, h.qb⟩
    · refine qkp hnd2 (Nat.le_refl _) fun x hx => ?_
      have := hnd2 i x hx
      exact ⟨this.l0, this.l1, this.pos, this.nam, this.len, this.dat, this.ddir, this.knd, this.lnk⟩
    · rw [e1]; exact h.num
    · rw [e2]; exact h.byt
    · rw [e1]
      have := h.cnt
      omega
  · rename_i hk
    rw [if_neg hk] at hs
    obtain ⟨e1, e2⟩ := hlen (X := (T.upd f (qb2 (qa7 a p.ino.ents))).upd t (qb2 (qat c i pt.ino.ents))) (.inl rfl)
    refine ⟨hs, hnd2, ⟨h.lst.1, by have := h.lst.2; show T.last ≤ _; omega⟩, ?_, ?_, ?_, h.qi, h.qb⟩
    · rw [e1]; exact h.num
    · rw [e2]; exact h.byt
    · rw [e1]
      have := h.cnt
      omega
end
end Go.Proofs.Ytbihlgcdnhoknaa.W
