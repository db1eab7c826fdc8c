/-
  WHAT THE FUNCTIONS COME TO: each is read by the evaluator, printed, and told as a function of data, part 3 of 8 (no condition).
-/
import Derived.Test.YtmeohejdafbodaaW2
namespace Go.Proofs.Ytmeohejdafbodaa.W
open Go.Proofs.Ytmeohejdafbodaa.Ev
theorem qm1 : EnvOk Try.prog E0 := envOf_ok (by kernel_rfl) (by kernel_rfl) (by kernel_rfl) (fun p hp => by
 simp only [List.mem_cons, List.not_mem_nil, or_false] at hp
 rcases hp with rfl | rfl
 · exact ⟨fun h => absurd h (by decide), fun h => absurd h (by decide), fun h => absurd h (by decide), fun _ args w => by kernel_rfl, fun h => absurd h (by decide)⟩
 · exact ⟨fun _ args w => by kernel_rfl, fun h => absurd h (by decide), fun h => absurd h (by decide), fun h => absurd h (by decide), fun h => absurd h (by decide)⟩
 ) (by kernel_rfl) (by kernel_rfl) (by kernel_rfl)
inductive Nd where
 | mk (name : List UInt8) (kind : Int) (exec : Bool) (data : List UInt8) (kids : List Nd)
def Nd.name : Nd → List UInt8 | .mk n _ _ _ _ => n
def Nd.kind : Nd → Int | .mk _ k _ _ _ => k
def Nd.exec : Nd → Bool | .mk _ _ e _ _ => e
def Nd.data : Nd → List UInt8 | .mk _ _ _ d _ => d
def Nd.kids : Nd → List Nd | .mk _ _ _ _ l => l
def qe2 : List V → V
 | [] => .nilslice
 | x :: l => .list 5 (x :: l)
mutual
noncomputable def qc7 : Nd → V
 | .mk n k e d l => vAgg [sv n, .int .i64 k, .bool e, sv d, qe2 (qfv l)]
noncomputable def qfv : List Nd → List V
 | [] => []
 | x :: l => qc7 x :: qfv l
end
noncomputable def qe5 (x : Nd) : List V := [sv x.name, .int .i64 x.kind, .bool x.exec, sv x.data, qe2 (qfv x.kids)]
theorem qdn (x : Nd) : qc7 x = vAgg (qe5 x) := by cases x; simp only [qc7, qe5, Nd.name, Nd.kind, Nd.exec, Nd.data, Nd.kids]
theorem qj3 : ∀ l : List Nd, qfv l = l.map qc7
 | [] => rfl
 | x :: l => by rw [qfv, qj3 l]; rfl
theorem qmp (l : List Nd) : (qfv l).length = l.length := by rw [qj3, List.length_map]
mutual
def qei : Nd → Nat
 | .mk _ _ _ _ l => 1 + cntL l
def cntL : List Nd → Nat
 | [] => 0
 | x :: l => qei x + cntL l
end
mutual
def Nd.ok : Nd → Prop
 | .mk n k _ d l => n.length < 9223372036854775808 ∧ (-9223372036854775808 ≤ k ∧ k < 9223372036854775808) ∧ d.length ≤ 3000 ∧ l.length ≤ 3000 ∧ 1 + cntL l < 4611686018427387904 ∧ okL l
def okL : List Nd → Prop
 | [] => True
 | x :: l => x.ok ∧ okL l
end
theorem okL_iff : ∀ l : List Nd, okL l ↔ ∀ x ∈ l, x.ok
 | [] => by simp [okL]
 | x :: l => by simp [okL, okL_iff l]
structure NdOk (x : Nd) : Prop where
 name : x.name.length < 9223372036854775808
 kind : -9223372036854775808 ≤ x.kind ∧ x.kind < 9223372036854775808
 data : x.data.length ≤ 3000
 few : x.kids.length ≤ 3000
 cnt : 1 + cntL x.kids < 4611686018427387904
 kids : ∀ y ∈ x.kids, y.ok
theorem Nd.ok.at {x : Nd} (h : x.ok) : NdOk x := by
 cases x with
 | mk n k e d l =>
  rw [Nd.ok] at h
  obtain ⟨h1, h2, h3, h4, hc, h5⟩ := h
  exact ⟨h1, h2, h3, h4, hc, (okL_iff l).1 h5⟩
theorem vAgg_inj {l m : List V} (h : vAgg l = vAgg m) : l = m := by
 unfold vAgg at h
 simp only [V.agg.injEq] at h
 refine List.ext_getElem? fun i => ?_
 rw [← qk1 l i, ← qk1 m i, h.2]
theorem kidsV_inj : ∀ {l m : List V}, qe2 l = qe2 m → l = m
 | [], [], _ => rfl
 | [], _ :: _, h => by simp [qe2] at h
 | _ :: _, [], h => by simp [qe2] at h
 | _ :: _, _ :: _, h => by simpa [qe2] using h
mutual
theorem qlk : ∀ {x y : Nd}, qc7 x = qc7 y → x = y
 | .mk n k e d l, .mk n' k' e' d' l', h => by
  rw [qc7, qc7] at h
  have h := vAgg_inj h
  simp only [List.cons.injEq, V.int.injEq, V.bool.injEq, true_and, and_true] at h
  obtain ⟨h1, h2, h3, h4, h5⟩ := h
  rw [qk0 h1, h2, h3, qk0 h4, encL_inj (kidsV_inj h5)]
theorem encL_inj : ∀ {l m : List Nd}, qfv l = qfv m → l = m
 | [], [], _ => rfl
 | [], _ :: _, h => by simp [qfv] at h
 | _ :: _, [], h => by simp [qfv] at h
 | x :: l, y :: m, h => by
  simp only [qfv, List.cons.injEq] at h
  rw [qlk h.1, encL_inj h.2]
end
section
variable {s : St}
structure NodeAt (s : St) (b : Nat) (x : Nd) : Prop where
 on : s.on = false
 bx : Bx s b 24 (qe5 x)
theorem big5 : 5 < big := by unfold big; decide
variable {b : Nat} {x : Nd}
theorem NodeAt.f0 (h : NodeAt s b x) : ld1 (.ptr b 0) s = some (sv x.name, s) := Bx.ld1 h.on h.bx 0 (by show 0 < 5; decide) big5
theorem NodeAt.f1 (h : NodeAt s b x) : ld1 (.ptr b 1) s = some (.int .i64 x.kind, s) := Bx.ld1 h.on h.bx 1 (by show 1 < 5; decide) big5
theorem NodeAt.f2 (h : NodeAt s b x) : ld1 (.ptr b 2) s = some (.bool x.exec, s) := Bx.ld1 h.on h.bx 2 (by show 2 < 5; decide) big5
theorem NodeAt.f3 (h : NodeAt s b x) : ld1 (.ptr b 3) s = some (sv x.data, s) := Bx.ld1 h.on h.bx 3 (by show 3 < 5; decide) big5
theorem NodeAt.f4 (h : NodeAt s b x) : ld1 (.ptr b 4) s = some (qe2 (qfv x.kids), s) := Bx.ld1 h.on h.bx 4 (by show 4 < 5; decide) big5
theorem NodeAt.fA (h : NodeAt s b x) : ldA 5 (.ptr b 0) s = some (qc7 x, s) := by rw [qdn]; exact Bx.ldA h.on h.bx rfl big5
theorem NodeAt.o0 (h : NodeAt s b x) : ld1 (.ptr b 0) (onS s) = some (sv x.name, rd s b 0 1) := Bx.ld1On h.on h.bx 0 (by show 0 < 5; decide) big5
theorem NodeAt.o1 (h : NodeAt s b x) : ld1 (.ptr b 1) (onS s) = some (.int .i64 x.kind, rd s b 1 1) := Bx.ld1On h.on h.bx 1 (by show 1 < 5; decide) big5
theorem NodeAt.o2 (h : NodeAt s b x) : ld1 (.ptr b 2) (onS s) = some (.bool x.exec, rd s b 2 1) := Bx.ld1On h.on h.bx 2 (by show 2 < 5; decide) big5
theorem NodeAt.o3 (h : NodeAt s b x) : ld1 (.ptr b 3) (onS s) = some (sv x.data, rd s b 3 1) := Bx.ld1On h.on h.bx 3 (by show 3 < 5; decide) big5
theorem NodeAt.o4 (h : NodeAt s b x) : ld1 (.ptr b 4) (onS s) = some (qe2 (qfv x.kids), rd s b 4 1) := Bx.ld1On h.on h.bx 4 (by show 4 < 5; decide) big5
theorem NodeAt.oA (h : NodeAt s b x) : ldA 5 (.ptr b 0) (onS s) = some (qc7 x, rd s b 0 5) := by rw [qdn]; exact Bx.ldAOn h.bx rfl big5
theorem NodeAt.grew {W : Nat → Prop} {t : St} (h : NodeAt s b x) (hb : b < s.next) (hw : ¬ W b) (g : Grew W s t) : NodeAt t b x := ⟨g.on.trans h.on, h.bx.grew hb hw g⟩
theorem qcm (ho : s.on = false) (x : Nd) : ∃ t, boxK 24 (qc7 x) s = some (.ptr s.next 0, t) ∧ NodeAt t s.next x ∧ Grew (fun _ => False) s t ∧ t.next = s.next + 1 := by
 obtain ⟨t, h1, h2, h3, h4⟩ := box_new ho 24 (qe5 x)
 rw [qdn]
 exact ⟨t, h1, ⟨h3.on.trans ho, h2⟩, h3, h4⟩
theorem qhn (ho : s.on = false) (z : Tr V) (x : Nd) : ∃ t, stP 5 (.ptr s.next 0) (qc7 x) (nwP 24 5 z s).2 = some (.tuple [], t) ∧ NodeAt t s.next x ∧ Grew (fun _ => False) s t ∧ t.next = s.next + 1 := by
 obtain ⟨t, h1, h2, h3, h4⟩ := var_new ho 24 5 z (qe5 x) rfl (by decide) big5
 rw [qdn]
 exact ⟨t, h1, ⟨h3.on.trans ho, h2⟩, h3, h4⟩
theorem qc8 (l : List Nd) : lnS (qe2 (qfv l)) s = some (.int .i64 (l.length : Int), s) := by
 cases l with
 | nil => rfl
 | cons x l =>
  show some (V.int .i64 (.ofNat ((qc7 x :: qfv l).length)), s) = _
  rw [List.length_cons, qmp]; rfl
theorem qcy (l : List Nd) (i : Nat) (h : i < l.length) : ixP 5 (qe2 (qfv l)) (.int .i64 (i : Int)) = some (.cptr (qc7 l[i])) := by
 cases l with
 | nil => simp at h
 | cons x l =>
  show ixP 5 (.list 5 (qfv (x :: l))) _ = _
  rw [ixP_list 5 (qfv (x :: l)) .i64 i (by rw [qmp]; exact h) (by decide)]
  congr 2
  simp only [qj3, List.getElem_map]
theorem qgw (x : Nd) : ldA 5 (.cptr (qc7 x)) s = some (qc7 x, s) := by rw [qdn]; exact ldA_cptr (qe5 x)
theorem faP_kid (x : Nd) : faP 0 false 1 (.cptr (qc7 x)) = some (.cptr (sv x.name)) := by rw [qdn]; exact faP_cptr (qe5 x) 0 (by show 0 < 5; decide)
theorem ld1_csv (l : List UInt8) : ld1 (.cptr (sv l)) s = some (sv l, s) := rfl
end
def qcj : Nat → Nd → Nat
 | 0, _ => 1
 | m + 1, x => if x.kind ≠ 2 ∨ m = 0 then 1 else x.kids.foldl (fun d y => max d (1 + qcj m y)) 1
theorem qkv {α : Type} (f : α → Nat) (B : Nat) : ∀ (l : List α) (d : Nat), d ≤ B → (∀ y ∈ l, 1 + f y ≤ B) → l.foldl (fun d y => max d (1 + f y)) d ≤ B
 | [], d, h, _ => h
 | y :: l, d, h, hl => qkv f B l _ (Nat.max_le.2 ⟨h, hl y (List.mem_cons_self ..)⟩) fun z hz => hl z (List.mem_cons_of_mem _ hz)
theorem deepN_le : ∀ (m : Nat) (x : Nd), qcj m x ≤ m + 1
 | 0, x => by simp [qcj]
 | m + 1, x => by
  rw [qcj]
  split
  · omega
  · exact qkv _ _ _ _ (by omega) fun y _ => by have := deepN_le m y; omega
structure DeepIn where
 m : Nat
 x : Nd
 h1 : 1 ≤ m
 h2 : m ≤ 14
 ok : x.ok
noncomputable def qmo (p : DeepIn) : List V := [qc7 p.x, .int .i64 (p.m : Int)]
theorem qie {p q : DeepIn} (h : qmo p = qmo q) : p.m = q.m ∧ p.x = q.x := by
 simp only [qmo, List.cons.injEq, V.int.injEq, true_and, and_true] at h
 exact ⟨by omega, qlk h.1⟩
noncomputable def qnn (p : DeepIn) : En := .ret (.int .i64 (qcj p.m p.x : Int))
noncomputable def kfDeep : KF := qd6 qmo qnn
theorem kfDeep_run (m : Nat) (x : Nd) (h1 : 1 ≤ m) (h2 : m ≤ 14) (ok : x.ok) (S : St) : kfDeep.run [qc7 x, .int .i64 (m : Int)] S = some (.ret (.int .i64 (qcj m x : Int)), S) :=
 qc5 (enc := qmo) (out := qnn) (fun p q h => by obtain ⟨h1, h2⟩ := qie h; unfold qnn; rw [h1, h2]) ⟨m, x, h1, h2, ok⟩ S
theorem L70_spec (self : EV) (N : Nat) (nk : Ac → St → Rs) (ek : Nat → Ac → St → Rs) (all : List Nd) (hall : all.length ≤ 3000) (m : Nat) (hm : m ≤ 14)
 (hself : ∀ x ∈ all, ∀ s, self.f 75 [qc7 x, .int .i64 (m : Int)] s = some (.ret (.int .i64 (qcj m x : Int)), s)) :
 ∀ (r : List Nd) (i d n : Nat) (S : St), all.drop i = r → r.length < n → S.on = false → d ≤ 100 →
 ∃ S', L75_19 self N nk ek n (.int .i64 ((m + 1 : Nat) : Int)) (.int .i64 (d : Int)) (qe2 (qfv all)) (.int .i64 (all.length : Int)) (.int .i64 (i : Int)) S = ek 0 (fr 32 [(5, .int .i64 ((r.foldl (fun d y => max d (1 + qcj m y)) d : Nat) : Int))]) S' ∧ Grew (fun _ => False) S S'
 | r, i, d, 0, S, _, hn, _, _ => by omega
 | [], i, d, n + 1, S, hi, hn, ho, hd => by
  rw [L75_19_eq, binV_ii, intsV_lss]
  have : all.length ≤ i := List.drop_eq_nil_iff.1 hi
  rw [show decide ((i : Int) < (all.length : Int)) = false by simp; omega]
  exact ⟨S, rfl, Grew.refl _ _⟩
 | x :: r, i, d, n + 1, S, hi, hn, ho, hd => by
  have hlt : i < all.length := by
   rcases Nat.lt_or_ge i all.length with h | h
   · exact h
   · rw [List.drop_eq_nil_of_le h] at hi; cases hi
  rw [List.drop_eq_getElem_cons hlt] at hi
  simp only [List.cons.injEq] at hi
  obtain ⟨hx, hr⟩ := hi
  rw [L75_19_eq, binV_ii, intsV_lss, show decide ((i : Int) < (all.length : Int)) = true by simp; omega]
  simp only [oB, ifK_bool, cond_true]
  rw [qcy all i hlt, hx]
  simp only [oB, qgw, qel]
  obtain ⟨S1, k1, k2, k3, k4⟩ := qhn ho (Tr.ofListFrom .nil [(sv []), (.int .i64 0), (.bool false), (sv []), .nilslice] 0) x
  rw [k1]
  simp only [oB, k2.fA, binV_ii, intsV_sub]
  rw [show ((m + 1 : Nat) : Int) - 1 = (m : Int) by omega, qby (by omega) (by omega)]
  rw [hself x (hx ▸ List.getElem_mem hlt)]
  have hb := deepN_le m x
  simp only [callP_ret, binV_ii, intsV_add, oB]
  rw [show (1 : Int) + (qcj m x : Int) = ((1 + qcj m x : Nat) : Int) by omega, qby (by omega) (by omega)]
  rw [foldK_max, show max (d : Int) ((1 + qcj m x : Nat) : Int) = ((max d (1 + qcj m x) : Nat) : Int) by omega]
  simp only [oB]
  rw [show (i : Int) + 1 = ((i + 1 : Nat) : Int) by omega, qby (by omega) (by omega)]
  obtain ⟨S', h1, h2⟩ := L70_spec self N nk ek all hall m hm hself r (i + 1) (max d (1 + qcj m x)) n S1 hr (by simp at hn; omega) k2.on (by omega)
  exact ⟨S', by rw [h1]; rfl, k3.trans h2⟩
theorem F70_spec (self : EV) (x : Nd) (ok : x.ok) (m : Nat) (hm : m + 1 ≤ 14) (hself : ∀ y ∈ x.kids, ∀ s, 1 ≤ m → self.f 75 [qc7 y, .int .i64 (m : Int)] s = some (.ret (.int .i64 (qcj m y : Int)), s)) (S : St) (ho : S.on = false) :
 ∃ S', F75 self qa1 (qc7 x) (.int .i64 ((m + 1 : Nat) : Int)) S = some (.ret (.int .i64 (qcj (m + 1) x : Int)), S') ∧ Grew (fun _ => False) S S' := by
 obtain ⟨S1, k1, k2, k3, k4⟩ := qcm ho x
 have hok := ok.at
 rw [F75_eq, k1]
 simp only [oB, faP_ptr, Nat.zero_add, k2.f1, binV_ii, intsV_neq]
 rw [qcj]
 by_cases hk : x.kind = 2
 · rw [hk]
   simp only [ne_eq, not_true_eq_false, decide_true, decide_false, oB, qa7, qah, qao, Bool.not_true, Bool.not_false, cond_true, binV_ii, intsV_eql, qag, cond_false, false_or]
   by_cases hm0 : m = 0
   · subst hm0
     exact ⟨S1, rfl, k3⟩
   · rw [show decide (((m + 1 : Nat) : Int) = 1) = false by simp; omega, if_neg hm0]
     simp only [ifK_bool, cond_false, k2.f4, oB, qc8]
     obtain ⟨S', h1, h2⟩ := L70_spec self qa1 (R75_12 self qa1 (qaw E0 self Try.f75) qad) (exB 0 (R75_12 self qa1 (qaw E0 self Try.f75) qad) qad) x.kids hok.few m (by omega) (fun y hy s => hself y hy s (by omega)) x.kids 0 1 qa1 S1 rfl (by have := hok.few; unfold qa1; omega) k2.on (by omega)
     refine ⟨S', ?_, k3.trans h2⟩
     rw [show ((0 : Nat) : Int) = 0 from rfl, show ((1 : Nat) : Int) = 1 from rfl] at h1
     rw [h1, exB_same, R75_12_eq]
 · simp only [ne_eq, hk, not_false_eq_true, decide_true, decide_false, Bool.not_false, oB, qa7, qah, qao, Bool.not_true, cond_false, qag, cond_true, ifK_bool, true_or, if_true]
   exact ⟨S1, rfl, k3⟩
theorem kn70 {K : FuncId → Option KF} (hK : KnOk Try.prog E0 K) : KnWell Try.prog E0 75 kfDeep :=
 qhs (fn := Try.f75) (c := C75) (d := B75) (fun p : DeepIn => p.m) (fun p q h => by obtain ⟨h1, h2⟩ := qie h; unfold qnn; rw [h1, h2]; exact ⟨rfl, rfl⟩) qm1 hK (by kernel_rfl) (by kernel_rfl) (qa3 C75 _ (by kernel_rfl)) fun K' _ p s hself ho => by
  obtain ⟨m, hm⟩ : ∃ m, p.m = m + 1 := ⟨p.m - 1, by have := p.h1; omega⟩
  obtain ⟨S', h1, h2⟩ := F70_spec (ev E0 K' 1) p.x p.ok m (by have := p.h2; omega) (fun y hy s h1m => hself ⟨m, y, h1m, by have := p.h2; omega, p.ok.at.kids y hy⟩ s 0 (by show m < p.m; omega)) s ho
  rw [← hm] at h1
  exact ⟨1, .ret (.int .i64 (qcj p.m p.x : Int)), S', h1, h2, Fz.same (.int _ _)⟩
theorem L57_spec (self : EV) (N : Nat) (nk : Ac → St → Rs) (ek : Nat → Ac → St → Rs) (x : Nd) (b : Nat) (hall : x.kids.length ≤ 3000) (m : Nat) (hm : m ≤ 14)
 (hself : ∀ y ∈ x.kids, ∀ s, self.f 73 [qc7 y, .int .i64 (m : Int)] s = some (.ret (.int .i64 (qcj m y : Int)), s)) (S : St) (hx : NodeAt S b x) :
 ∀ (r : List Nd) (i d n : Nat), x.kids.drop i = r → r.length < n → d ≤ 100 →
 L73_15 self N nk ek n (.int .i64 ((m + 1 : Nat) : Int)) (.ptr b 0) (.int .i64 (d : Int)) (.int .i64 (i : Int)) S = ek 0 (fr 33 [(5, .int .i64 ((r.foldl (fun d y => max d (1 + qcj m y)) d : Nat) : Int))]) S
 | r, i, d, 0, _, hn, _ => by omega
 | [], i, d, n + 1, hi, hn, hd => by
  have : x.kids.length ≤ i := List.drop_eq_nil_iff.1 hi
  rw [L73_15_eq]
  simp only [faP_ptr, oB, Nat.zero_add, hx.f4, qc8, binV_ii, intsV_lss]
  rw [show decide ((i : Int) < (x.kids.length : Int)) = false by simp; omega]
  rfl
 | y :: r, i, d, n + 1, hi, hn, hd => by
  have hlt : i < x.kids.length := by
   rcases Nat.lt_or_ge i x.kids.length with h | h
   · exact h
   · rw [List.drop_eq_nil_of_le h] at hi; cases hi
  rw [List.drop_eq_getElem_cons hlt] at hi
  simp only [List.cons.injEq] at hi
  obtain ⟨hy, hr⟩ := hi
  rw [L73_15_eq]
  simp only [faP_ptr, oB, Nat.zero_add, hx.f4, qc8, binV_ii, intsV_lss]
  rw [show decide ((i : Int) < (x.kids.length : Int)) = true by simp; omega]
  simp only [ifK_bool, cond_true]
  rw [qcy x.kids i hlt, hy]
  simp only [oB, qgw, binV_ii, intsV_sub]
  rw [show ((m + 1 : Nat) : Int) - 1 = (m : Int) by omega, qby (by omega) (by omega), hself y (hy ▸ List.getElem_mem hlt)]
  have hb := deepN_le m y
  simp only [callP_ret, binV_ii, intsV_add, oB]
  rw [show (1 : Int) + (qcj m y : Int) = ((1 + qcj m y : Nat) : Int) by omega, qby (by omega) (by omega)]
  rw [foldK_max, show max (d : Int) ((1 + qcj m y : Nat) : Int) = ((max d (1 + qcj m y) : Nat) : Int) by omega]
  simp only [oB]
  rw [show (i : Int) + 1 = ((i + 1 : Nat) : Int) by omega, qby (by omega) (by omega)]
  rw [L57_spec self N nk ek x b hall m hm hself S hx r (i + 1) (max d (1 + qcj m y)) n hr (by simp at hn; omega) (by omega)]
  rfl
theorem F57_spec (self : EV) (x : Nd) (ok : x.ok) (m : Nat) (hm : m + 1 ≤ 14) (hself : ∀ y ∈ x.kids, ∀ s, 1 ≤ m → self.f 73 [qc7 y, .int .i64 (m : Int)] s = some (.ret (.int .i64 (qcj m y : Int)), s)) (S : St) (ho : S.on = false) :
 ∃ S', F73 self qa1 (qc7 x) (.int .i64 ((m + 1 : Nat) : Int)) S = some (.ret (.int .i64 (qcj (m + 1) x : Int)), S') ∧ Grew (fun _ => False) S S' := by
 obtain ⟨S1, k1, k2, k3, k4⟩ := qcm ho x
 have hok := ok.at
 rw [F73_eq, k1]
 simp only [oB, faP_ptr, Nat.zero_add, k2.f1, binV_ii, intsV_neq]
 rw [qcj]
 by_cases hk : x.kind = 2
 · rw [hk]
   simp only [ne_eq, not_true_eq_false, decide_true, decide_false, oB, qa7, qah, qao, Bool.not_true, Bool.not_false, cond_true, binV_ii, intsV_eql, qag, cond_false, false_or]
   by_cases hm0 : m = 0
   · subst hm0
     exact ⟨S1, rfl, k3⟩
   · rw [show decide (((m + 1 : Nat) : Int) = 1) = false by simp; omega, if_neg hm0]
     simp only [ifK_bool, cond_false]
     have h1 := L57_spec self qa1 (R73_11 self qa1 (qaw E0 self Try.f73) qad) (exB 0 (R73_11 self qa1 (qaw E0 self Try.f73) qad) qad) x S.next hok.few m (by omega) (fun y hy s => hself y hy s (by omega)) S1 k2 x.kids 0 1 qa1 rfl (by have := hok.few; unfold qa1; omega) (by omega)
     refine ⟨S1, ?_, k3⟩
     rw [show ((0 : Nat) : Int) = 0 from rfl, show ((1 : Nat) : Int) = 1 from rfl] at h1
     rw [h1, exB_same, R73_11_eq]
 · simp only [ne_eq, hk, not_false_eq_true, decide_true, decide_false, Bool.not_false, oB, qa7, qah, qao, Bool.not_true, cond_false, qag, cond_true, ifK_bool, true_or, if_true]
   exact ⟨S1, rfl, k3⟩
theorem kn57 {K : FuncId → Option KF} (hK : KnOk Try.prog E0 K) : KnWell Try.prog E0 73 kfDeep :=
 qhs (fn := Try.f73) (c := C73) (d := B73) (fun p : DeepIn => p.m) (fun p q h => by obtain ⟨h1, h2⟩ := qie h; unfold qnn; rw [h1, h2]; exact ⟨rfl, rfl⟩) qm1 hK (by kernel_rfl) (by kernel_rfl) (qa3 C73 _ (by kernel_rfl)) fun K' _ p s hself ho => by
  obtain ⟨m, hm⟩ : ∃ m, p.m = m + 1 := ⟨p.m - 1, by have := p.h1; omega⟩
  obtain ⟨S', h1, h2⟩ := F57_spec (ev E0 K' 1) p.x p.ok m (by have := p.h2; omega) (fun y hy s h1m => hself ⟨m, y, h1m, by have := p.h2; omega, p.ok.at.kids y hy⟩ s 0 (by show m < p.m; omega)) s ho
  rw [← hm] at h1
  exact ⟨1, .ret (.int .i64 (qcj p.m p.x : Int)), S', h1, h2, Fz.same (.int _ _)⟩
structure NodeIn where
 x : Nd
 ok : x.ok
noncomputable def qg0 (p : NodeIn) : List V := [qc7 p.x]
theorem qif {p q : NodeIn} (h : qg0 p = qg0 q) : p.x = q.x := by
 simp only [qg0, List.cons.injEq, and_true] at h
 exact qlk h
noncomputable def qb9 (g : Nd → V) : KF := qd6 qg0 (fun p : NodeIn => En.ret (g p.x))
theorem qbg (g : Nd → V) (x : Nd) (ok : x.ok) (S : St) : (qb9 g).run [qc7 x] S = some (.ret (g x), S) :=
 qc5 (enc := qg0) (out := fun p : NodeIn => En.ret (g p.x)) (fun p q h => by rw [qif h]) ⟨x, ok⟩ S
theorem knNode {K : FuncId → Option KF} (hK : KnOk Try.prog E0 K) {f : FuncId} {fn : Func} {c : Code} {d : D} (g : Nd → V) (hu : ∀ n x, Under n (g x)) (hf : E0.fns.get f = some fn) (hb : fn.body = some c) (hd : qlo d c)
 (n : Nat) (h : ∀ x S, x.ok → S.on = false → ∃ S', qco E0 (ev E0 K n) qa1 fn d [qc7 x] S = some (.ret (g x), S') ∧ Grew (fun _ => False) S S') : KnWell Try.prog E0 f (qb9 g) :=
 qd2 qm1 hK hf hb hd fun p s ho => by
  obtain ⟨S', h1, h2⟩ := h p.x s p.ok ho
  exact ⟨n, .ret (g p.x), S', h1, h2, Fz.same (hu _ _)⟩
theorem qhm {K : FuncId → Option KF} (hK : KnOk Try.prog E0 K) {f : FuncId} {fn : Func} {c : Code} {d : D} (g : Nd → V) (hu : ∀ n x, Under n (g x)) (hf : E0.fns.get f = some fn) (hb : fn.body = some c) (hd : qlo d c)
 (n : Nat) (h : ∀ K', (∀ q, q ≠ f → K' q = K q) → ∀ x S, x.ok → (∀ y s m, y ∈ x.kids → (ev E0 K' (m + 1)).f f [qc7 y] s = some (.ret (g y), s)) → S.on = false → ∃ S', qco E0 (ev E0 K' n) qa1 fn d [qc7 x] S = some (.ret (g x), S') ∧ Grew (fun _ => False) S S') : KnWell Try.prog E0 f (qb9 g) :=
 qhs (fun p : NodeIn => SizeOf.sizeOf p.x) (fun p q h => by rw [qif h]; exact ⟨rfl, rfl⟩) qm1 hK hf hb hd fun K' hK' p s hself ho => by
  obtain ⟨S', h1, h2⟩ := h K' hK' p.x s p.ok (fun y s m hy => hself ⟨y, p.ok.at.kids y hy⟩ s m (by
   show SizeOf.sizeOf y < SizeOf.sizeOf p.x
   have := List.sizeOf_lt_of_mem hy
   cases hp : p.x with
   | mk n k e d l =>
    rw [hp] at this
    simp only [Nd.kids] at this
    simp only [Nd.mk.sizeOf_spec]
    omega)) ho
  exact ⟨n, .ret (g p.x), S', h1, h2, Fz.same (hu _ _)⟩
noncomputable def qlc (x : Nd) : V := .int .i64 (qcj 14 x : Int)
theorem kn58 {K : FuncId → Option KF} (hK : KnOk Try.prog E0 K) (h70 : K 75 = some kfDeep) : KnWell Try.prog E0 42 (qb9 qlc) :=
 knNode hK (c := C42) (d := B42) qlc (fun _ _ => .int _ _) (by kernel_rfl) (by kernel_rfl) (qa3 C42 _ (by kernel_rfl)) 1 fun x S ok ho => by
  obtain ⟨S1, k1, k2, k3, k4⟩ := qcm ho x
  refine ⟨S1, (?_ : F42 (ev E0 K 1) qa1 (qc7 x) S = _), k3⟩
  rw [F42_eq, k1]
  simp only [oB, k2.fA]
  rw [show (V.int .i64 14) = .int .i64 ((14 : Nat) : Int) from rfl, qaq h70, kfDeep_run 14 x (by omega) (by omega) ok]
  rfl
theorem kn34 {K : FuncId → Option KF} (hK : KnOk Try.prog E0 K) (h57 : K 73 = some kfDeep) : KnWell Try.prog E0 36 (qb9 qlc) :=
 knNode hK (c := C36) (d := B36) qlc (fun _ _ => .int _ _) (by kernel_rfl) (by kernel_rfl) (qa3 C36 _ (by kernel_rfl)) 1 fun x S ok ho => by
  obtain ⟨S1, k1, k2, k3, k4⟩ := qcm ho x
  refine ⟨S1, (?_ : F36 (ev E0 K 1) qa1 (qc7 x) S = _), k3⟩
  rw [F36_eq, k1]
  simp only [oB, k2.fA]
  rw [show (V.int .i64 14) = .int .i64 ((14 : Nat) : Int) from rfl, qaq h57, kfDeep_run 14 x (by omega) (by omega) ok]
  rfl
def qbx (x : Nd) : Bool := decide (12 < qcj 14 x)
noncomputable def qde (x : Nd) : V := .bool (qbx x)
theorem kn35 {K : FuncId → Option KF} (hK : KnOk Try.prog E0 K) (h58 : K 42 = some (qb9 qlc)) : KnWell Try.prog E0 24 (qb9 qde) :=
 knNode hK (c := C24) (d := B24) qde (fun _ _ => .bool _) (by kernel_rfl) (by kernel_rfl) (qa3 C24 _ (by kernel_rfl)) 1 fun x S ok ho => by
  obtain ⟨S1, k1, k2, k3, k4⟩ := qcm ho x
  refine ⟨S1, (?_ : F24 (ev E0 K 1) qa1 (qc7 x) S = _), k3⟩
  rw [F24_eq, k1]
  simp only [oB, k2.fA]
  rw [qaq h58, qbg _ x ok]
  simp only [callP_ret, qlc, binV_ii, intsV_gtr, oB, qde, qbx]
  rw [show decide ((12 : Int) < (qcj 14 x : Int)) = decide (12 < qcj 14 x) by rw [decide_eq_decide]; omega]
abbrev wr (n : Int) : Int := IntKind.i64.wrap n
theorem wr_range (n : Int) : -9223372036854775808 ≤ wr n ∧ wr n < 9223372036854775808 := by
 unfold wr IntKind.wrap
 have h1 : ((2 : Int) ^ IntKind.i64.bits) = 18446744073709551616 := by decide
 have h2 : ((2 : Int) ^ (IntKind.i64.bits - 1)) = 9223372036854775808 := by decide
 simp only [h1, h2, show IntKind.i64.signed = true from rfl, Bool.true_and, decide_eq_true_eq]
 split <;> omega
theorem wr_wr (n : Int) : wr (wr n) = wr n := qby (wr_range n).1 (wr_range n).2
mutual
def qo8 : Nd → Int × Int
 | .mk _ _ _ d l => qo7 l (1, (d.length : Int))
def qo7 : List Nd → Int × Int → Int × Int
 | [], a => a
 | x :: l, a => qo7 l (if qbx x then a else (wr (a.1 + (qo8 x).1), wr (a.2 + (qo8 x).2)))
end
theorem sizeN_eq (x : Nd) : qo8 x = qo7 x.kids (1, (x.data.length : Int)) := by cases x; rw [qo8]; rfl
noncomputable def gSize (x : Nd) : V := .tuple [.int .i64 (qo8 x).1, .int .i64 (qo8 x).2]
def sizeT (x : Nd) : Int × Int := if qbx x then (0, 0) else qo8 x
noncomputable def qew (x : Nd) : V := .tuple [.int .i64 (sizeT x).1, .int .i64 (sizeT x).2]
theorem qof (n : Nat) (a b : V) (ha : Under n a) (hb : Under n b) : Under n (.tuple [a, b]) := .tuple (.cons ha (.cons hb .nil))
theorem qd0 {α : Type} {l r : List α} {i : Nat} {y : α} (h : l.drop i = y :: r) : ∃ hlt : i < l.length, l[i] = y ∧ l.drop (i + 1) = r ∧ y ∈ l := by
 have hlt : i < l.length := by
  rcases Nat.lt_or_ge i l.length with h' | h'
  · exact h'
  · rw [List.drop_eq_nil_of_le h'] at h; cases h
 rw [List.drop_eq_getElem_cons hlt] at h
 simp only [List.cons.injEq] at h
 exact ⟨hlt, h.1, h.2, h.1 ▸ List.getElem_mem hlt⟩
theorem qbq {α : Type} {l : List α} {i : Nat} (h : l.drop i = []) : l.length ≤ i := List.drop_eq_nil_iff.1 h
theorem qfe {a b : Nat} (h : a < b) : decide ((a : Int) < (b : Int)) = true := by simp; omega
theorem qga {a b : Nat} (h : b ≤ a) : decide ((a : Int) < (b : Int)) = false := by simp; omega
theorem qbk {i : Nat} (h : i < 9223372036854775807) : IntKind.i64.wrap ((i : Int) + 1) = ((i + 1 : Nat) : Int) := by
 rw [qby (by omega) (by omega)]; omega
theorem L38_spec (self : EV) (N : Nat) (nk : Ac → St → Rs) (ek : Nat → Ac → St → Rs) (all : List Nd) (hall : all.length ≤ 3000)
 (h35 : ∀ y ∈ all, ∀ s, self.f 24 [qc7 y] s = some (.ret (qde y), s)) (h38 : ∀ y ∈ all, ∀ s, self.f 51 [qc7 y] s = some (.ret (gSize y), s)) :
 ∀ (r : List Nd) (i n : Nat) (a : Int × Int) (S : St), all.drop i = r → r.length < n → S.on = false →
 ∃ S', L51_17 self N nk ek n (.int .i64 a.1) (.int .i64 a.2) (qe2 (qfv all)) (.int .i64 (all.length : Int)) (.int .i64 (i : Int)) S = ek 0 (fr 34 [(2, .int .i64 (qo7 r a).1), (3, .int .i64 (qo7 r a).2)]) S' ∧ Grew (fun _ => False) S S'
 | r, i, 0, a, S, _, hn, _ => by omega
 | [], i, n + 1, a, S, hi, hn, ho => by
  rw [L51_17_eq, binV_ii, intsV_lss, qga (qbq hi)]
  exact ⟨S, by rw [qo7]; rfl, Grew.refl _ _⟩
 | x :: r, i, n + 1, a, S, hi, hn, ho => by
  obtain ⟨hlt, hx, hr, hmem⟩ := qd0 hi
  rw [L51_17_eq, binV_ii, intsV_lss, qfe hlt]
  simp only [oB, ifK_bool, cond_true]
  rw [qcy all i hlt, hx]
  simp only [oB, qgw, qel]
  obtain ⟨S1, k1, k2, k3, k4⟩ := qhn ho (Tr.ofListFrom .nil [(sv []), (.int .i64 0), (.bool false), (sv []), .nilslice] 0) x
  rw [k1]
  simp only [oB, k2.fA]
  rw [h35 x hmem, qo7]
  simp only [callP_ret, qde, ifK_bool]
  cases htd : qbx x with
  | true =>
   simp only [cond_true, binV_ii, intsV_add, oB, qbk (show i < 9223372036854775807 by omega)]
   obtain ⟨S', h1, h2⟩ := L38_spec self N nk ek all hall h35 h38 r (i + 1) n a S1 hr (by simp at hn; omega) k2.on
   exact ⟨S', by rw [h1]; rfl, k3.trans h2⟩
  | false =>
   simp only [cond_false, k2.fA, oB]
   rw [h38 x hmem]
   simp only [callP_ret, gSize, qa8, List.getElem?_cons_zero, List.getElem?_cons_succ, oB, binV_ii, intsV_add, qbk (show i < 9223372036854775807 by omega)]
   obtain ⟨S', h1, h2⟩ := L38_spec self N nk ek all hall h35 h38 r (i + 1) n (wr (a.1 + (qo8 x).1), wr (a.2 + (qo8 x).2)) S1 hr (by simp at hn; omega) k2.on
   exact ⟨S', by rw [h1]; rfl, k3.trans h2⟩
theorem kn38 {K : FuncId → Option KF} (hK : KnOk Try.prog E0 K) (h35 : K 24 = some (qb9 qde)) : KnWell Try.prog E0 51 (qb9 gSize) :=
 qhm hK (fn := Try.f51) (c := C51) (d := B51) gSize (fun _ _ => qof _ _ _ (.int _ _) (.int _ _)) (by kernel_rfl) (by kernel_rfl) (qa3 C51 _ (by kernel_rfl)) 1 fun K' hK' x S ok hself ho => by
  obtain ⟨S1, k1, k2, k3, k4⟩ := qcm ho x
  obtain ⟨S', h1, h2⟩ := L38_spec (ev E0 K' 1) qa1 (R51_8 (ev E0 K' 1) qa1 (qaw E0 (ev E0 K' 1) Try.f51) qad) (exB 0 (R51_8 (ev E0 K' 1) qa1 (qaw E0 (ev E0 K' 1) Try.f51) qad) qad) x.kids ok.at.few
   (fun y hy s => by rw [qaq (show K' 24 = _ by rw [hK' 24 (by decide)]; exact h35), qbg _ y (ok.at.kids y hy)]) (fun y hy s => hself y s 0 hy) x.kids 0 qa1 (1, (x.data.length : Int)) S1 rfl (by have := ok.at.few; unfold qa1; omega) k2.on
  refine ⟨S', (?_ : F51 (ev E0 K' 1) qa1 (qc7 x) S = _), k3.trans h2⟩
  rw [F51_eq, k1]
  simp only [oB, faP_ptr, Nat.zero_add, k2.o3, qge, qcn, lnStr_sv, qbv k2.on, k2.f4, qc8]
  rw [show ((0 : Nat) : Int) = 0 from rfl] at h1
  dsimp only at h1
  rw [h1, exB_same, R51_8_eq, gSize, sizeN_eq]
theorem kn17 {K : FuncId → Option KF} (hK : KnOk Try.prog E0 K) (h35 : K 24 = some (qb9 qde)) (h38 : K 51 = some (qb9 gSize)) : KnWell Try.prog E0 26 (qb9 qew) :=
 knNode hK (fn := Try.f26) (c := C26) (d := B26) qew (fun _ _ => qof _ _ _ (.int _ _) (.int _ _)) (by kernel_rfl) (by kernel_rfl) (qa3 C26 _ (by kernel_rfl)) 1 fun x S ok ho => by
  obtain ⟨S1, k1, k2, k3, k4⟩ := qcm ho x
  refine ⟨S1, (?_ : F26 (ev E0 K 1) qa1 (qc7 x) S = _), k3⟩
  rw [F26_eq, k1]
  simp only [oB, k2.fA]
  rw [qaq h35, qbg _ x ok]
  simp only [callP_ret, qde, ifK_bool, qew, sizeT]
  cases htd : qbx x with
  | true => rfl
  | false =>
   simp only [cond_false, k2.fA, oB, Bool.false_eq_true, if_false]
   rw [qaq h38, qbg _ x ok]
   rfl
theorem L45_spec (self : EV) (N : Nat) (nk : Ac → St → Rs) (ek : Nat → Ac → St → Rs) (x : Nd) (b : Nat) (hall : x.kids.length ≤ 3000)
 (h45 : ∀ y ∈ x.kids, ∀ s, self.f 38 [qc7 y] s = some (.ret (qew y), s)) (S : St) (hx : NodeAt S b x) :
 ∀ (r : List Nd) (i n : Nat) (a : Int × Int), x.kids.drop i = r → r.length < n → wr a.1 = a.1 → wr a.2 = a.2 →
 L38_19 self N nk ek n (.ptr b 0) (.int .i64 a.1) (.int .i64 a.2) (.int .i64 (i : Int)) S = ek 0 (fr 39 [(4, .int .i64 (qo7 r a).1), (5, .int .i64 (qo7 r a).2)]) S
 | r, i, 0, a, _, hn, _, _ => by omega
 | [], i, n + 1, a, hi, hn, _, _ => by
  rw [L38_19_eq]
  simp only [faP_ptr, oB, Nat.zero_add, hx.f4, qc8, binV_ii, intsV_lss, qga (qbq hi), qo7]
  rfl
 | y :: r, i, n + 1, a, hi, hn, ha1, ha2 => by
  obtain ⟨hlt, hy, hr, hmem⟩ := qd0 hi
  rw [L38_19_eq]
  simp only [faP_ptr, oB, Nat.zero_add, hx.f4, qc8, binV_ii, intsV_lss, qfe hlt, ifK_bool, cond_true]
  rw [qcy x.kids i hlt, hy]
  simp only [oB, qgw]
  rw [h45 y hmem, qo7]
  simp only [callP_ret, qew, qa8, List.getElem?_cons_zero, List.getElem?_cons_succ, oB, binV_ii, intsV_add, qbk (show i < 9223372036854775807 by omega), sizeT]
  cases htd : qbx y with
  | true =>
   simp only [if_true, Int.add_zero]
   rw [show IntKind.i64.wrap a.1 = a.1 from ha1, show IntKind.i64.wrap a.2 = a.2 from ha2]
   exact L45_spec self N nk ek x b hall h45 S hx r (i + 1) n a hr (by simp at hn; omega) ha1 ha2
  | false =>
   simp only [Bool.false_eq_true, if_false]
   exact L45_spec self N nk ek x b hall h45 S hx r (i + 1) n (wr (a.1 + (qo8 y).1), wr (a.2 + (qo8 y).2)) hr (by simp at hn; omega) (wr_wr _) (wr_wr _)
theorem kn45 {K : FuncId → Option KF} (hK : KnOk Try.prog E0 K) (h34 : K 36 = some (qb9 qlc)) : KnWell Try.prog E0 38 (qb9 qew) :=
 qhm hK (fn := Try.f38) (c := C38) (d := B38) qew (fun _ _ => qof _ _ _ (.int _ _) (.int _ _)) (by kernel_rfl) (by kernel_rfl) (qa3 C38 _ (by kernel_rfl)) 1 fun K' hK' x S ok hself ho => by
  obtain ⟨S1, k1, k2, k3, k4⟩ := qcm ho x
  refine ⟨S1, (?_ : F38 (ev E0 K' 1) qa1 (qc7 x) S = _), k3⟩
  rw [F38_eq, k1]
  simp only [oB, k2.fA]
  rw [qaq (show K' 36 = _ by rw [hK' 36 (by decide)]; exact h34), qbg _ x ok]
  simp only [callP_ret, qlc, binV_ii, intsV_gtr, oB, ifK_bool]
  rw [show decide ((12 : Int) < (qcj 14 x : Int)) = qbx x by unfold qbx; rw [decide_eq_decide]; omega]
  simp only [qew, sizeT]
  cases htd : qbx x with
  | true => rfl
  | false =>
   have hd := ok.at.data
   simp only [cond_false, faP_ptr, oB, Nat.zero_add, k2.o3, qge, qcn, lnStr_sv, qbv k2.on, Bool.false_eq_true, if_false]
   have h1 := L45_spec (ev E0 K' 1) qa1 (R38_13 (ev E0 K' 1) qa1 (qaw E0 (ev E0 K' 1) Try.f38) qad) (exB 0 (R38_13 (ev E0 K' 1) qa1 (qaw E0 (ev E0 K' 1) Try.f38) qad) qad) x S.next ok.at.few
    (fun y hy s => hself y s 0 hy) S1 k2 x.kids 0 qa1 (1, (x.data.length : Int)) rfl (by have := ok.at.few; unfold qa1; omega) (show wr 1 = 1 from qby (by omega) (by omega)) (qby (by omega) (by omega))
   rw [show ((0 : Nat) : Int) = 0 from rfl] at h1
   dsimp only at h1
   rw [h1, exB_same, R38_13_eq, sizeN_eq]
def qba (c : UInt8) : Bool := c == 47 || c == 0
def nameOk (s : List UInt8) : Bool := decide (1 ≤ s.length) && decide (s.length ≤ 56) && !(s.any qba) && !(s == [46]) && !(s == [46, 46])
theorem u8_eq (c d : UInt8) : (c == d) = decide ((c.toNat : Int) = (d.toNat : Int)) := by
 rw [Bool.eq_iff_iff]
 simp only [beq_iff_eq, decide_eq_true_eq]
 constructor
 · rintro rfl; rfl
 · intro h; exact UInt8.toNat_inj.1 (by omega)
structure TextIn where
 s : List UInt8
 hs : s.length < 9223372036854775808
noncomputable def qi3 (g : List UInt8 → V) : KF := qd6 (fun p : TextIn => [sv p.s]) (fun p => En.ret (g p.s))
theorem kfText_run (g : List UInt8 → V) (s : List UInt8) (hs : s.length < 9223372036854775808) (S : St) : (qi3 g).run [sv s] S = some (.ret (g s), S) :=
 qc5 (enc := fun p : TextIn => [sv p.s]) (out := fun p => En.ret (g p.s)) (fun p q h => by
  simp only [List.cons.injEq, and_true] at h
  rw [qk0 h]) ⟨s, hs⟩ S
theorem knText {K : FuncId → Option KF} (hK : KnOk Try.prog E0 K) {f : FuncId} {fn : Func} {c : Code} {d : D} (g : List UInt8 → V) (hu : ∀ n x, Under n (g x)) (hf : E0.fns.get f = some fn) (hb : fn.body = some c) (hd : qlo d c)
 (n : Nat) (h : ∀ s S, s.length < 9223372036854775808 → S.on = false → ∃ S', qco E0 (ev E0 K n) qa1 fn d [sv s] S = some (.ret (g s), S') ∧ Grew (fun _ => False) S S') : KnWell Try.prog E0 f (qi3 g) :=
 qd2 qm1 hK hf hb hd fun p s ho => by
  obtain ⟨S', h1, h2⟩ := h p.s s p.hs ho
  exact ⟨n, .ret (g p.s), S', h1, h2, Fz.same (hu _ _)⟩
noncomputable def qgs (s : List UInt8) : V := .bool (nameOk s)
theorem L68_spec (self : EV) (N : Nat) (nk : Ac → St → Rs) (ek : Nat → Ac → St → Rs) (s : List UInt8) (hs : s.length < 9223372036854775808) (S : St) :
 ∀ (r : List UInt8) (i n : Nat), s.drop i = r → r.length < n →
 L74_20 self N nk ek n (sv s) (.int .i64 (i : Int)) S = bif r.any qba then some (.ret (.bool false), S) else ek 0 (fr 36 [(0, sv s)]) S
 | r, i, 0, _, hn => by omega
 | [], i, n + 1, hi, hn => by
  rw [L74_20_eq]
  simp only [lnStr_sv, oB, binV_ii, intsV_lss, qga (qbq hi)]
  rfl
 | c :: r, i, n + 1, hi, hn => by
  obtain ⟨hlt, hc, hr, hmem⟩ := qd0 hi
  rw [L74_20_eq]
  simp only [lnStr_sv, oB, binV_ii, intsV_lss, qfe hlt, ifK_bool, cond_true, qi2 s .i64 i hlt, hc, intsV_eql, qa7, qah, qao]
  rw [List.any_cons, qba, u8_eq c 47, u8_eq c 0, show (UInt8.toNat 47) = 47 from rfl, show (UInt8.toNat 0) = 0 from rfl]
  cases h1 : decide ((c.toNat : Int) = ((47 : Nat) : Int)) with
  | true =>
   rfl
  | false =>
   simp only [Bool.not_false, cond_true, oB, qi2 s .i64 i hlt, hc, binV_ii, intsV_eql, qag, cond_false, ifK_bool, Bool.false_or]
   cases h2 : decide ((c.toNat : Int) = ((0 : Nat) : Int)) with
   | true =>
    rfl
   | false =>
    simp only [cond_false, intsV_add, oB, qbk (show i < 9223372036854775807 by omega), Bool.false_or]
    exact L68_spec self N nk ek s hs S r (i + 1) n hr (by simp at hn; omega)
theorem kn68 {K : FuncId → Option KF} (hK : KnOk Try.prog E0 K) : KnWell Try.prog E0 74 (qi3 qgs) :=
 knText hK (fn := Try.f74) (c := C74) (d := B74) qgs (fun _ _ => .bool _) (by kernel_rfl) (by kernel_rfl) (qa3 C74 _ (by kernel_rfl)) 0 fun s S hs ho => by
  refine ⟨S, (?_ : F74 (ev E0 K 0) qa1 (sv s) S = _), Grew.refl _ _⟩
  have h1 := L68_spec (ev E0 K 0) qa1 (R74_1 (ev E0 K 0) qa1 (qaw E0 (ev E0 K 0) Try.f74) qad) (exB 0 (R74_1 (ev E0 K 0) qa1 (qaw E0 (ev E0 K 0) Try.f74) qad) qad) s hs S s 0 qa1 rfl (by unfold qa1; omega)
  rw [F74_eq, show (V.int .i64 0) = .int .i64 ((0 : Nat) : Int) from rfl, h1, exB_same, R74_1_eq, qgs, nameOk]
  cases hb : s.any qba with
  | true => simp only [cond_true, Bool.not_true, Bool.and_false, Bool.false_and]
  | false =>
   simp only [cond_false, lnStr_sv, oB, binV_ii, intsV_geq, qa7, qah, qao, Bool.not_false, Bool.and_true]
   rw [show decide ((1 : Int) ≤ (s.length : Int)) = decide (1 ≤ s.length) by rw [decide_eq_decide]; omega]
   cases decide (1 ≤ s.length) with
   | false => rfl
   | true =>
    simp only [cond_true, lnStr_sv, oB, binV_ii, intsV_leq, qag, qa7, qah, qao, Bool.true_and]
    rw [show decide ((s.length : Int) ≤ 56) = decide (s.length ≤ 56) by rw [decide_eq_decide]; omega]
    cases decide (s.length ≤ 56) with
    | false => rfl
    | true =>
     simp only [cond_true, oB, binV_ss, strOp_neq, qag, qa7, qah, qao, Bool.true_and]
     cases (s == [46]) with
     | true => rfl
     | false =>
      simp only [Bool.not_false, cond_true, oB, binV_ss, strOp_neq, qag, qa7, qah, qao, Bool.true_and]
def qhp (p : Option (List UInt8)) (s : List UInt8) : Bool :=
 match p with
 | none => true
 | some q => Op.bytesLess q s
mutual
def mayN : Nd → Bool
 | .mk _ k e d l => if k = 1 then l.isEmpty else if k = 3 then !(d.any (· == 0)) && (!e && l.isEmpty && decide (1 ≤ d.length) && decide (d.length ≤ 255)) else if k = 2 then mayL none l && (!e && (d == [])) else false
def mayL : Option (List UInt8) → List Nd → Bool
 | _, [] => true
 | p, x :: l => (nameOk x.name && mayN x) && qhp p x.name && mayL (some x.name) l
end
theorem mayN_eq (x : Nd) : mayN x = if x.kind = 1 then x.kids.isEmpty else if x.kind = 3 then !(x.data.any (· == 0)) && (!x.exec && x.kids.isEmpty && decide (1 ≤ x.data.length) && decide (x.data.length ≤ 255)) else if x.kind = 2 then mayL none x.kids && (!x.exec && (x.data == [])) else false := by
 cases x; rw [mayN]; rfl
noncomputable def gMay (x : Nd) : V := .bool (mayN x)
theorem L44d_spec (self : EV) (N : Nat) (nk : Ac → St → Rs) (ek : Nat → Ac → St → Rs) (x : Nd) (b : Nat) (hd : x.data.length ≤ 3000) (S : St) (hx : NodeAt S b x) :
 ∀ (r : List UInt8) (i n : Nat), x.data.drop i = r → r.length < n →
 L37_39 self N nk ek n (.ptr b 0) (.int .i64 (i : Int)) S = bif r.any (· == 0) then some (.ret (.bool false), S) else ek 1 (fr 102 [(1, .ptr b 0)]) S
 | r, i, 0, _, hn => by omega
 | [], i, n + 1, hi, hn => by
  rw [L37_39_eq]
  simp only [faP_ptr, Nat.zero_add, hx.f3, lnStr_sv, oB, binV_ii, intsV_lss, qga (qbq hi)]
  rfl
 | c :: r, i, n + 1, hi, hn => by
  obtain ⟨hlt, hc, hr, hmem⟩ := qd0 hi
  rw [L37_39_eq]
  simp only [faP_ptr, Nat.zero_add, hx.f3, lnStr_sv, oB, binV_ii, intsV_lss, qfe hlt, ifK_bool, cond_true, qi2 x.data .i64 i hlt, hc, intsV_eql]
  rw [List.any_cons, u8_eq c 0, show (UInt8.toNat 0) = 0 from rfl]
  cases h2 : decide ((c.toNat : Int) = ((0 : Nat) : Int)) with
  | true =>
   rfl
  | false =>
   simp only [cond_false, binV_ii, intsV_add, oB, qbk (show i < 9223372036854775807 by omega), Bool.false_or]
   exact L44d_spec self N nk ek x b hd S hx r (i + 1) n hr (by simp at hn; omega)
def qkg (all : List Nd) : Nat → Option (List UInt8)
 | 0 => none
 | i + 1 => (all[i]?).map Nd.name
theorem qm3 (self : EV) (N : Nat) (nk : Ac → St → Rs) (ek : Nat → Ac → St → Rs) (x : Nd) (b : Nat) (ok : NdOk x) (h68 : ∀ y ∈ x.kids, ∀ s, self.f 74 [sv y.name] s = some (.ret (qgs y.name), s))
 (h44 : ∀ y ∈ x.kids, ∀ s, self.f 37 [qc7 y] s = some (.ret (gMay y), s)) (S : St) (hx : NodeAt S b x) :
 ∀ (r : List Nd) (i n : Nat), x.kids.drop i = r → r.length < n →
 L37_67 self N nk ek n (.ptr b 0) (.int .i64 (i : Int)) S = bif mayL (qkg x.kids i) r then ek 3 (fr 102 [(1, .ptr b 0)]) S else some (.ret (.bool false), S)
 | r, i, 0, _, hn => by omega
 | [], i, n + 1, hi, hn => by
  rw [L37_67_eq]
  simp only [faP_ptr, oB, Nat.zero_add, hx.f4, qc8, binV_ii, intsV_lss, qga (qbq hi), mayL]
  rfl
 | y :: r, i, n + 1, hi, hn => by
  obtain ⟨hlt, hy, hr, hmem⟩ := qd0 hi
  have hfew := ok.few
  rw [L37_67_eq, mayL]
  simp only [faP_ptr, oB, Nat.zero_add, hx.f4, qc8, binV_ii, intsV_lss, qfe hlt, ifK_bool, cond_true, hx.o4, qcy x.kids i hlt, hy, faP_kid, qge, ld1_csv, h68 y hmem, qeg, qgs, unV, qa7, qah, qao, Bool.not_not]
  cases hnm : nameOk y.name with
  | false =>
   simp only [cond_false, Bool.not_false, oB, qeg, qag, cond_true, qa7, qah, qao, Bool.not_true, hx.o4, qcn]
   rw [qgq]
   · simp only [qbv hx.on, ifK_bool, cond_true, Bool.false_and, cond_false]
   · rfl
  | true =>
   simp only [cond_true, Bool.not_true, hx.o4, qcn, oB, qcy x.kids i hlt, hy, qge, qgw, h44 y hmem, qeg, gMay, unV, qag, cond_false, qa7, qah, qao, Bool.not_not]
   cases hmy : mayN y with
   | false =>
    simp only [cond_false, Bool.not_false, oB, cond_true, qa7, qah, qao, Bool.not_true, qag, qcn]
    rw [qgq]
    · simp only [qbv hx.on, ifK_bool, cond_true, Bool.false_and, Bool.and_false, cond_false]
    · rfl
   | true =>
    simp only [cond_true, Bool.not_true, oB, cond_false, qa7, qah, qao, Bool.not_false, qag, binV_ii, intsV_gtr, Bool.and_self, Bool.true_and]
    cases i with
    | zero =>
     simp only [show decide ((0 : Int) < ((0 : Nat) : Int)) = false from rfl, cond_false, oB, qcn]
     rw [qgq]
     · simp only [qbv hx.on, ifK_bool, cond_false, oB, binV_ii, intsV_add, qbk (show 0 < 9223372036854775807 by omega), qkg, qhp, Bool.true_and]
       rw [qm3 self N nk ek x b ok h68 h44 S hx r (0 + 1) n hr (by simp at hn; omega)]
       simp only [qkg, List.getElem?_eq_getElem hlt, hy, Option.map_some]
     · rfl
    | succ j =>
     have hj : j < x.kids.length := by omega
     simp only [show decide ((0 : Int) < ((j + 1 : Nat) : Int)) = true by simp, cond_true, oB, hx.o4, qcn, binV_ii, intsV_sub]
     rw [show ((j + 1 : Nat) : Int) - 1 = (j : Int) by omega, qby (by omega) (by omega)]
     simp only [oB, qcy x.kids j hj, qcy x.kids (j + 1) hlt, hy, faP_kid, qge, ld1_csv, hx.o4, qcn, binV_ss, strOp_geq]
     rw [qgq]
     · simp only [qbv hx.on, ifK_bool, qkg, qhp, List.getElem?_eq_getElem hj, Option.map_some]
       cases hbl : Op.bytesLess x.kids[j].name y.name with
       | false => simp only [Bool.not_false, cond_true, Bool.false_and, cond_false]
       | true =>
        simp only [Bool.not_true, cond_false, Bool.true_and, binV_ii, intsV_add, qbk (show j + 1 < 9223372036854775807 by omega), oB]
        rw [qm3 self N nk ek x b ok h68 h44 S hx r (j + 1 + 1) n hr (by simp at hn; omega)]
        simp only [qkg, List.getElem?_eq_getElem hlt, hy, Option.map_some]
     · rfl
theorem kn44 {K : FuncId → Option KF} (hK : KnOk Try.prog E0 K) (h68 : K 74 = some (qi3 qgs)) : KnWell Try.prog E0 37 (qb9 gMay) :=
 qhm hK (fn := Try.f37) (c := C37) (d := B37) gMay (fun _ _ => .bool _) (by kernel_rfl) (by kernel_rfl) (qa3 C37 _ (by kernel_rfl)) 1 fun K' hK' x S ok hself ho => by
  obtain ⟨S1, k1, k2, k3, k4⟩ := qcm ho x
  have hok := ok.at
  refine ⟨S1, (?_ : F37 (ev E0 K' 1) qa1 (qc7 x) S = _), k3⟩
  rw [F37_eq, k1]
  simp only [oB, faP_ptr, Nat.zero_add, k2.f1, binV_ii, intsV_eql, ifK_bool]
  rw [gMay, mayN_eq]
  by_cases h1 : x.kind = 1
  · simp only [h1, decide_true, cond_true, k2.f4, oB, qc8, binV_ii, intsV_eql, if_true]
    congr 4
    cases x.kids with
    | nil => rfl
    | cons y l => simp; omega
  · simp only [h1, decide_false, cond_false, if_false]
    by_cases h3 : x.kind = 3
    · have hl := L44d_spec (ev E0 K' 1) qa1 (R37_15 (ev E0 K' 1) qa1 (qer (ev E0 K' 1) qa1 (qaw E0 (ev E0 K' 1) Try.f37) qad) (exB 0 (qer (ev E0 K' 1) qa1 (qaw E0 (ev E0 K' 1) Try.f37) qad) qad)) (exB 1 (R37_15 (ev E0 K' 1) qa1 (qer (ev E0 K' 1) qa1 (qaw E0 (ev E0 K' 1) Try.f37) qad) (exB 0 (qer (ev E0 K' 1) qa1 (qaw E0 (ev E0 K' 1) Try.f37) qad) qad)) (exB 0 (qer (ev E0 K' 1) qa1 (qaw E0 (ev E0 K' 1) Try.f37) qad) qad)) x S.next hok.data S1 k2 x.data 0 qa1 rfl (by have := hok.data; unfold qa1; omega)
      rw [show ((0 : Nat) : Int) = 0 from rfl] at hl
      simp only [h3, decide_true, cond_true, if_true, hl, exB_same]
      cases hz : x.data.any (· == 0) with
      | true => rfl
      | false =>
       rw [R37_15_eq]
       simp only [cond_false, faP_ptr, Nat.zero_add, k2.f2, oB, unV, qa7, qah, qao, Bool.not_false, Bool.true_and]
       cases he : x.exec with
       | true => rfl
       | false =>
        simp only [Bool.not_false, cond_true, k2.f4, oB, qc8, binV_ii, intsV_eql, qag, qa7, qah, qao, Bool.true_and]
        rw [show decide ((x.kids.length : Int) = 0) = x.kids.isEmpty by cases x.kids with
         | nil => rfl
         | cons y l => simp; omega]
        cases x.kids.isEmpty with
        | false => rfl
        | true =>
         simp only [cond_true, k2.f3, oB, lnStr_sv, binV_ii, intsV_geq, qag, qa7, qah, qao, Bool.true_and]
         rw [show decide ((1 : Int) ≤ (x.data.length : Int)) = decide (1 ≤ x.data.length) by rw [decide_eq_decide]; omega]
         cases decide (1 ≤ x.data.length) with
         | false => rfl
         | true =>
          simp only [cond_true, k2.f3, oB, lnStr_sv, binV_ii, intsV_leq, qag, qa7, qah, qao, Bool.true_and]
          rw [show decide ((x.data.length : Int) ≤ 255) = decide (x.data.length ≤ 255) by rw [decide_eq_decide]; omega]
    · simp only [h3, decide_false, cond_false, if_false]
      by_cases h2 : x.kind = 2
      · have hl := qm3 (ev E0 K' 1) qa1 (R37_56 (ev E0 K' 1) qa1 (qer (ev E0 K' 1) qa1 (qaw E0 (ev E0 K' 1) Try.f37) qad) (exB 0 (qer (ev E0 K' 1) qa1 (qaw E0 (ev E0 K' 1) Try.f37) qad) qad)) (exB 3 (R37_56 (ev E0 K' 1) qa1 (qer (ev E0 K' 1) qa1 (qaw E0 (ev E0 K' 1) Try.f37) qad) (exB 0 (qer (ev E0 K' 1) qa1 (qaw E0 (ev E0 K' 1) Try.f37) qad) qad)) (exB 0 (qer (ev E0 K' 1) qa1 (qaw E0 (ev E0 K' 1) Try.f37) qad) qad)) x S.next hok
         (fun y hy s => by rw [qaq (show K' 74 = _ by rw [hK' 74 (by decide)]; exact h68), kfText_run _ _ (hok.kids y hy).at.name]) (fun y hy s => hself y s 0 hy) S1 k2 x.kids 0 qa1 rfl (by have := hok.few; unfold qa1; omega)
        rw [show ((0 : Nat) : Int) = 0 from rfl] at hl
        simp only [h2, decide_true, cond_true, if_true, hl, exB_same]
        rw [show qkg x.kids 0 = none from rfl]
        cases mayL none x.kids with
        | false => rfl
        | true =>
         rw [R37_56_eq]
         simp only [cond_true, faP_ptr, Nat.zero_add, k2.f2, oB, unV, qa7, qah, qao, Bool.true_and]
         cases he : x.exec with
         | true => rfl
         | false =>
          simp only [Bool.not_false, cond_true, k2.f3, oB, qag, Bool.true_and]
          simp only [binV_ss, strOp_eql, oB]
      · simp only [h2, decide_false, cond_false, if_false]
        rw [R37_2_eq]
section
variable {s : St}
def AgAt (s : St) (b e z : Nat) (t : Tr V) : Prop := ∃ c, s.heap.get b = some (.cells e z 1 false c) ∧ c.get 0 = some t
theorem AgAt.grew {W : Nat → Prop} {u : St} {b e z : Nat} {t : Tr V} (h : AgAt s b e z t) (hb : b < s.next) (hw : ¬ W b) (g : Grew W s u) : AgAt u b e z t := by
 obtain ⟨c, h1, h2⟩ := h
 exact ⟨c, by rw [g.keep b hb hw]; exact h1, h2⟩
theorem ag_new (ho : s.on = false) (e z : Nat) (t : Tr V) : AgAt (nwP e z t s).2 s.next e z t ∧ Grew (fun _ => False) s (nwP e z t s).2 ∧ (nwP e z t s).2.next = s.next + 1 := by
 refine ⟨⟨Tr.ofListFrom .nil [t] 0, ?_, by rw [Tr.get_ofList]; rfl⟩, qc6 ho _ _, rfl⟩
 show (qaj s e z [t]).heap.get s.next = _
 unfold qaj
 rw [qem, if_pos rfl]; rfl
theorem AgAt.ldk (ho : s.on = false) {b e z : Nat} {t : Tr V} (h : AgAt s b e z t) (hz : z < big) : ldK s b 0 z = some (t, s) := by
 obtain ⟨c, h1, h2⟩ := h
 unfold ldK
 rw [h1]
 simp only [ble_true.2 (show 0 + z ≤ z * 1 by omega), blt_true.2 (show z * 1 < big by omega), Bool.and_self, cond_true]
 unfold qff
 rw [show Nat.beq z z = true from beq_true.2 rfl, Nat.zero_mod, show Nat.beq 0 0 = true from rfl]
 simp only [Bool.and_self, cond_true, Nat.zero_div, h2, oB, qat ho]
theorem AgAt.ldA (ho : s.on = false) {b e z : Nat} {t : Tr V} (h : AgAt s b e z t) (hz : z < big) : Go.Proofs.Ytmeohejdafbodaa.Ev.ldA z (.ptr b 0) s = some (.agg z t, s) := by
 show ((ldK s b 0 z).bind fun p => some (V.agg z p.1, p.2)) = _
 rw [h.ldk ho hz]; rfl
theorem AgAt.ldrA (ho : s.on = false) {b e z : Nat} {t : Tr V} (h : AgAt s b e z t) (hz : z < big) : Go.Proofs.Ytmeohejdafbodaa.Ev.ldrA z (.ptr b 0) s = some (.agg z t, s) := by
 show ((ldK s b 0 z).bind fun p => some (V.agg z p.1, p.2)) = _
 rw [h.ldk ho hz]; rfl
theorem AgAt.stA (ho : s.on = false) {b e z : Nat} {t : Tr V} (h : AgAt s b e z t) (hz : z < big) (u : Tr V) : ∃ w, stP z (.ptr b 0) (.agg z u) s = some (.tuple [], w) ∧ AgAt w b e z u ∧ Grew (fun x => x = b) s w ∧ w.next = s.next := by
 obtain ⟨c, h1, h2⟩ := h
 refine ⟨s.put b (.cells e z 1 false (c.set u 0)), ?_, ⟨c.set u 0, by rw [qbp, if_pos rfl], by rw [Tr.get_set, if_pos rfl]⟩, qbl b _, rfl⟩
 show vu (bif Nat.beq z z && !false then stK s b 0 z u else none) = _
 rw [show Nat.beq z z = true from beq_true.2 rfl]
 simp only [Bool.not_false, Bool.and_self, cond_true]
 have : stK s b 0 z u = some (s.put b (.cells e z 1 false (c.set u 0))) := by
  unfold stK
  rw [h1]
  simp only [ble_true.2 (show 0 + z ≤ z * 1 by omega), blt_true.2 (show z * 1 < big by omega), Bool.and_self, Bool.not_false, cond_true]
  unfold qdx
  rw [show Nat.beq z z = true from beq_true.2 rfl, Nat.zero_mod, show Nat.beq 0 0 = true from rfl]
  simp only [Bool.and_self, cond_true, Nat.zero_div, Tr.setC_eq, oB, qat ho]
 rw [this]; rfl
theorem AgAt.ld1 (ho : s.on = false) {b e z i : Nat} {t : Tr V} {v : V} (h : AgAt s b e z t) (hz : z < big) (hi : i < z) (hv : t.get i = some v) : Go.Proofs.Ytmeohejdafbodaa.Ev.ld1 (.ptr b i) s = some (v, s) := by
 obtain ⟨c, h1, h2⟩ := h
 show ld s b i = _
 exact ld_of ho h1 (by omega) (by omega) (by rw [qca hi, h2]; exact hv)
theorem AgAt.st1 (ho : s.on = false) {b e z i : Nat} {t : Tr V} (h : AgAt s b e z t) (hz : z < big) (h1z : 1 < z) (hi : i < z) (v : V) (hs : v.size = 1) (hc : v.cells = Go.Proofs.Ytmeohejdafbodaa.Ev.one v) (hv : qa9 v = false) : ∃ w, stP 1 (.ptr b i) v s = some (.tuple [], w) ∧ AgAt w b e z (t.set v i) ∧ Grew (fun x => x = b) s w ∧ w.next = s.next := by
 obtain ⟨c, h1, h2⟩ := h
 refine ⟨s.put b (.cells e z 1 false (c.set (t.set v i) 0)), ?_, ⟨c.set (t.set v i) 0, by rw [qbp, if_pos rfl], by rw [Tr.get_set, if_pos rfl]⟩, qbl b _, rfl⟩
 show vu (bif Nat.beq v.size 1 && !qa9 v then stK s b i 1 v.cells else none) = _
 rw [hs, hv, hc]
 simp only [show Nat.beq 1 1 = true from rfl, Bool.not_false, Bool.and_self, cond_true]
 have : stK s b i 1 (Go.Proofs.Ytmeohejdafbodaa.Ev.one v) = some (s.put b (.cells e z 1 false (c.set (t.set v i) 0))) := by
  unfold stK
  rw [h1]
  simp only [ble_true.2 (show i + 1 ≤ z * 1 by omega), blt_true.2 (show z * 1 < big by omega), Bool.and_self, Bool.not_false, cond_true]
  unfold qdx
  rw [show Nat.beq 1 z = false from beq_false.2 (by omega)]
  simp only [Bool.false_and, cond_false, qgo, show (Go.Proofs.Ytmeohejdafbodaa.Ev.one v).get 0 = some v from rfl, oB, Nat.add_zero, Nat.div_eq_of_lt hi, Nat.mod_eq_of_lt hi, h2, Tr.setC_eq, qat ho]
 rw [this]; rfl
end
def ixB (l : List UInt8) (c : UInt8) : Int := match l.findIdx? (fun x => x == c) with | some i => (i : Int) | none => -1
structure ByteIn where
 s : List UInt8
 c : UInt8
noncomputable def kfIndexByte : KF := qd6 (fun p : ByteIn => [sv p.s, .int .u8 (p.c.toNat : Int)]) (fun p => En.ret (.int .i64 (ixB p.s p.c)))
theorem qgv (s : List UInt8) (c : UInt8) (S : St) : kfIndexByte.run [sv s, .int .u8 (c.toNat : Int)] S = some (.ret (.int .i64 (ixB s c)), S) :=
 qc5 (enc := fun p : ByteIn => [sv p.s, .int .u8 (p.c.toNat : Int)]) (out := fun p => En.ret (.int .i64 (ixB p.s p.c))) (fun p q h => by
  simp only [List.cons.injEq, V.int.injEq, true_and, and_true] at h
  rw [qk0 h.1, UInt8.toNat_inj.1 (show p.c.toNat = q.c.toNat by omega)]) ⟨s, c⟩ S
theorem qoe {n : Nat} (h : n < 256) : (UInt8.ofNat n).toNat = n := by simp [UInt8.toNat_ofNat']; omega
theorem extV_one (l n c : Nat) (S : St) : extV 1 [.str l n, .int .u8 (.ofNat c)] S = bif Nat.blt c 256 then match indexByte c l 0 n with
 | some i => some (.val (.int .i64 (.ofNat i)) S)
 | none => some (.val (.int .i64 (-1)) S)
 else none := rfl
theorem callK_ext {E : Env} {self : EV} {f k : Nat} (h : E.ext.get f = some k) (x y args : List V) (S : St) : qfx E self (.fn (.func f) x y) args S = (extV k (x ++ args ++ y) S).bind fun
 | .val v s => some (.ret v, s)
 | _ => none := by
 show (match E.ext.get f with | some k => _ | none => _) = _
 rw [h]
 rfl
theorem ext76 : E0.ext.get 94 = some 1 := by kernel_rfl
theorem ext_ixB (s : List UInt8) (c : UInt8) (S : St) : extV 1 [sv s, .int .u8 (c.toNat : Int)] S = some (.val (.int .i64 (ixB s c)) S) := by
 have h1 : extV 1 [sv s, .int .u8 (c.toNat : Int)] S = bif Nat.blt c.toNat 256 then match indexByte c.toNat s.length 0 (qal s) with
  | some i => some (.val (.int .i64 (.ofNat i)) S)
  | none => some (.val (.int .i64 (-1)) S)
  else none := extV_one _ _ _ _
 rw [h1, blt_true.2 c.toNat_lt, qf7, ixB]
 cases s.findIdx? (fun x => x == c) with
 | none => rfl
 | some i => rfl
theorem call76 (self : EV) (s : List UInt8) (c : UInt8) (S : St) : qfx E0 self (.fn (.func 94) [] []) [sv s, .int .u8 (c.toNat : Int)] S = some (.ret (.int .i64 (ixB s c)), S) := by
 have h := callK_ext (E := E0) (self := self) ext76 [] [] [sv s, .int .u8 (c.toNat : Int)] S
 have h2 := ext_ixB s c S
 rw [List.nil_append, List.append_nil, h2] at h
 exact h
theorem F73_of (self : EV) (N : Nat) (s : V) (c : UInt8) (S : St) (v : V) (h : qfx E0 self (.fn (.func 94) [] []) [s, .int .u8 (c.toNat : Int)] S = some (.ret v, S)) : F78 self N s (.int .u8 (c.toNat : Int)) S = some (.ret v, S) := by
 rw [F78_eq, h, callP_ret]
theorem F73_spec (self : EV) (N : Nat) (s : List UInt8) (c : UInt8) (S : St) : F78 self N (sv s) (.int .u8 (c.toNat : Int)) S = some (.ret (.int .i64 (ixB s c)), S) :=
 F73_of self N (sv s) c S (.int .i64 (ixB s c)) (call76 self s c S)
theorem kn63 {K : FuncId → Option KF} (hK : KnOk Try.prog E0 K) (h73 : K 78 = none) : KnWell Try.prog E0 47 kfIndexByte :=
 qd2 (fn := Try.f47) (c := C47) (d := B47) qm1 hK (by kernel_rfl) (by kernel_rfl) (qa3 C47 _ (by kernel_rfl)) fun p S ho => by
  refine ⟨1, .ret (.int .i64 (ixB p.s p.c)), S, (?_ : F47 (ev E0 K 1) qa1 (sv p.s) (.int .u8 (p.c.toNat : Int)) S = _), Grew.refl _ _, Fz.same (.int _ _)⟩
  rw [F47_eq, qb5 (c := C78) (d := B78) (by kernel_rfl) (by kernel_rfl) (qa3 C78 _ (by kernel_rfl)) h73 (F73_spec (ev E0 K 0) qa1 p.s p.c S)]
  rfl
theorem F82_spec (self : EV) (N : Nat) (r : Nat) (S : St) : ∃ v : Bool, F103 self N (.int .i32 (r : Int)) S = some (.ret (.bool v), S) := by
 rw [F103_eq, binV_ii, intsV_leq, show decide ((0 : Int) ≤ (r : Int)) = true by simp]
 simp only [oB, qa7, cond_true, binV_ii]
 rw [intsV_lss, intsV_lss]
 generalize decide ((r : Int) < 55296) = b1
 generalize decide ((57343 : Int) < (r : Int)) = b2
 cases b1 with
 | true => exact ⟨true, rfl⟩
 | false =>
  cases b2 with
  | false => exact ⟨false, rfl⟩
  | true =>
   simp only [cond_true, cond_false, oB, binV_ii, ifK_bool, qag, qa7]
   rw [intsV_leq]
   generalize decide ((r : Int) ≤ 1114111) = b3
   cases b3
   · exact ⟨false, rfl⟩
   · exact ⟨true, rfl⟩
def bad2 : List UInt8 := [47, 0]
def ixR (r : Nat) : Int := if r = 47 then 0 else if r = 0 then 1 else -1
theorem ixB_bad2 (c : UInt8) : ixB bad2 c = ixR c.toNat := by
 unfold ixB bad2 ixR
 by_cases h1 : c = 47
 · subst h1; rfl
 · by_cases h2 : c = 0
   · subst h2; rfl
   · have h3 : ¬ c.toNat = 47 := fun h => h1 (UInt8.toNat_inj.1 h)
     have h4 : ¬ c.toNat = 0 := fun h => h2 (UInt8.toNat_inj.1 h)
     rw [if_neg h3, if_neg h4]
     have h5 : ((47 : UInt8) == c) = false := by simpa using fun h => h1 h.symm
     have h6 : ((0 : UInt8) == c) = false := by simpa using fun h => h2 h.symm
     simp [List.findIdx?_cons, h5, h6]
theorem enc_last (r : Nat) (h : 128 ≤ r) : ∃ a l, (Utf8.encode (r : Int)).data.toList = a ++ [l] ∧ 1 ≤ a.length ∧ a.length ≤ 3 ∧ 128 ≤ l.toNat := by
 unfold Utf8.encode
 have hc : 128 ≤ (if Utf8.valid (r : Int) then (r : Int).toNat else Utf8.runeError) := by
  split
  · simpa using h
  · decide
 generalize (if Utf8.valid (r : Int) then (r : Int).toNat else Utf8.runeError) = c at hc
 have hl : ∀ c : Nat, 128 ≤ (UInt8.ofNat (0x80 + c % 64)).toNat := fun c => by rw [qoe (by omega)]; omega
 simp only
 rw [if_neg (by omega)]
 split
 · exact ⟨[_], _, rfl, by simp, by simp, hl c⟩
 · split
   · exact ⟨[_, _], _, rfl, by simp, by simp, hl c⟩
   · exact ⟨[_, _, _], _, rfl, by simp, by simp, hl c⟩
end Go.Proofs.Ytmeohejdafbodaa.W
