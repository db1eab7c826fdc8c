/-
  WHAT THE FUNCTIONS COME TO: each is read by the evaluator, printed, and told as a function of data, part 3 of 8 (no condition).
-/
import Derived.Test.YtcbaodegkfokjaaDoorW2
namespace Go.Proofs.YtcbaodegkfokjaaDoor.W
open Go.Proofs.YtcbaodegkfokjaaDoor.Ev
theorem E0_ok : EnvOk Tryd.prog E0 := envOf_ok (by kernel_rfl) (by kernel_rfl) (by kernel_rfl) (fun p hp => by
 simp only [List.mem_cons, List.not_mem_nil, or_false] at hp
 rcases hp with rfl | rfl
 · exact ⟨fun h => absurd h (by decide), fun h => absurd h (by decide), fun _ args w => by kernel_rfl, fun h => absurd h (by decide), fun h => absurd h (by decide)⟩
 · exact ⟨fun _ args w => by kernel_rfl, fun h => absurd h (by decide), fun h => absurd h (by decide), fun h => absurd h (by decide), fun h => absurd h (by decide)⟩
 ) (by kernel_rfl) (by kernel_rfl) (by kernel_rfl)
inductive Nd where
 | mk (name : List UInt8) (kind : Int) (exec : Bool) (data : List UInt8) (kids : List Nd)
def Nd.name : Nd → List UInt8 | .mk n _ _ _ _ => n
def Nd.kind : Nd → Int | .mk _ k _ _ _ => k
def Nd.exec : Nd → Bool | .mk _ _ e _ _ => e
def Nd.data : Nd → List UInt8 | .mk _ _ _ d _ => d
def Nd.kids : Nd → List Nd | .mk _ _ _ _ l => l
def kidsV : List V → V
 | [] => .nilslice
 | x :: l => .list 5 (x :: l)
mutual
noncomputable def encN : Nd → V
 | .mk n k e d l => vAgg [sv n, .int .i64 k, .bool e, sv d, kidsV (encL l)]
noncomputable def encL : List Nd → List V
 | [] => []
 | x :: l => encN x :: encL l
end
noncomputable def cellsN (x : Nd) : List V := [sv x.name, .int .i64 x.kind, .bool x.exec, sv x.data, kidsV (encL x.kids)]
theorem encN_cells (x : Nd) : encN x = vAgg (cellsN x) := by cases x; simp only [encN, cellsN, Nd.name, Nd.kind, Nd.exec, Nd.data, Nd.kids]
theorem encL_map : ∀ l : List Nd, encL l = l.map encN
 | [] => rfl
 | x :: l => by rw [encL, encL_map l]; rfl
theorem encL_length (l : List Nd) : (encL l).length = l.length := by rw [encL_map, List.length_map]
mutual
def cntN : Nd → Nat
 | .mk _ _ _ _ l => 1 + cntL l
def cntL : List Nd → Nat
 | [] => 0
 | x :: l => cntN x + cntL l
end
theorem cntN_eq (x : Nd) : cntN x = 1 + cntL x.kids := by cases x; rw [cntN]; rfl
mutual
def Nd.ok : Nd → Prop
 | .mk n k _ d l => n.length < 9223372036854775808 ∧ (-9223372036854775808 ≤ k ∧ k < 9223372036854775808) ∧ d.length ≤ 3000 ∧ l.length ≤ 3000 ∧ 1 + cntL l < 4611686018427387904 ∧ okL l
def okL : List Nd → Prop
 | [] => True
 | x :: l => x.ok ∧ okL l
end
theorem okL_iff : ∀ l : List Nd, okL l ↔ ∀ x ∈ l, x.ok
 | [] => by simp [okL]
 | x :: l => by simp [okL, okL_iff l]
structure NdOk (x : Nd) : Prop where
 name : x.name.length < 9223372036854775808
 kind : -9223372036854775808 ≤ x.kind ∧ x.kind < 9223372036854775808
 data : x.data.length ≤ 3000
 few : x.kids.length ≤ 3000
 cnt : 1 + cntL x.kids < 4611686018427387904
 kids : ∀ y ∈ x.kids, y.ok
theorem Nd.ok.at {x : Nd} (h : x.ok) : NdOk x := by
 cases x with
 | mk n k e d l =>
  rw [Nd.ok] at h
  obtain ⟨h1, h2, h3, h4, hc, h5⟩ := h
  exact ⟨h1, h2, h3, h4, hc, (okL_iff l).1 h5⟩
theorem vAgg_inj {l m : List V} (h : vAgg l = vAgg m) : l = m := by
 unfold vAgg at h
 simp only [V.agg.injEq] at h
 refine List.ext_getElem? fun i => ?_
 rw [← vAgg_get l i, ← vAgg_get m i, h.2]
theorem kidsV_inj : ∀ {l m : List V}, kidsV l = kidsV m → l = m
 | [], [], _ => rfl
 | [], _ :: _, h => by simp [kidsV] at h
 | _ :: _, [], h => by simp [kidsV] at h
 | _ :: _, _ :: _, h => by simpa [kidsV] using h
mutual
theorem encN_inj : ∀ {x y : Nd}, encN x = encN y → x = y
 | .mk n k e d l, .mk n' k' e' d' l', h => by
  rw [encN, encN] at h
  have h := vAgg_inj h
  simp only [List.cons.injEq, V.int.injEq, V.bool.injEq, true_and, and_true] at h
  obtain ⟨h1, h2, h3, h4, h5⟩ := h
  rw [sv_inj h1, h2, h3, sv_inj h4, encL_inj (kidsV_inj h5)]
theorem encL_inj : ∀ {l m : List Nd}, encL l = encL m → l = m
 | [], [], _ => rfl
 | [], _ :: _, h => by simp [encL] at h
 | _ :: _, [], h => by simp [encL] at h
 | x :: l, y :: m, h => by
  simp only [encL, List.cons.injEq] at h
  rw [encN_inj h.1, encL_inj h.2]
end
section
variable {s : St}
structure NodeAt (s : St) (b : Nat) (x : Nd) : Prop where
 on : s.on = false
 bx : Bx s b 24 (cellsN x)
theorem big5 : 5 < big := by unfold big; decide
variable {b : Nat} {x : Nd}
theorem NodeAt.f0 (h : NodeAt s b x) : ld1 (.ptr b 0) s = some (sv x.name, s) := Bx.ld1 h.on h.bx 0 (by show 0 < 5; decide) big5
theorem NodeAt.f1 (h : NodeAt s b x) : ld1 (.ptr b 1) s = some (.int .i64 x.kind, s) := Bx.ld1 h.on h.bx 1 (by show 1 < 5; decide) big5
theorem NodeAt.f2 (h : NodeAt s b x) : ld1 (.ptr b 2) s = some (.bool x.exec, s) := Bx.ld1 h.on h.bx 2 (by show 2 < 5; decide) big5
theorem NodeAt.f3 (h : NodeAt s b x) : ld1 (.ptr b 3) s = some (sv x.data, s) := Bx.ld1 h.on h.bx 3 (by show 3 < 5; decide) big5
theorem NodeAt.f4 (h : NodeAt s b x) : ld1 (.ptr b 4) s = some (kidsV (encL x.kids), s) := Bx.ld1 h.on h.bx 4 (by show 4 < 5; decide) big5
theorem NodeAt.fA (h : NodeAt s b x) : ldA 5 (.ptr b 0) s = some (encN x, s) := by rw [encN_cells]; exact Bx.ldA h.on h.bx rfl big5
theorem NodeAt.o0 (h : NodeAt s b x) : ld1 (.ptr b 0) (onS s) = some (sv x.name, rd s b 0 1) := Bx.ld1On h.on h.bx 0 (by show 0 < 5; decide) big5
theorem NodeAt.o1 (h : NodeAt s b x) : ld1 (.ptr b 1) (onS s) = some (.int .i64 x.kind, rd s b 1 1) := Bx.ld1On h.on h.bx 1 (by show 1 < 5; decide) big5
theorem NodeAt.o2 (h : NodeAt s b x) : ld1 (.ptr b 2) (onS s) = some (.bool x.exec, rd s b 2 1) := Bx.ld1On h.on h.bx 2 (by show 2 < 5; decide) big5
theorem NodeAt.o3 (h : NodeAt s b x) : ld1 (.ptr b 3) (onS s) = some (sv x.data, rd s b 3 1) := Bx.ld1On h.on h.bx 3 (by show 3 < 5; decide) big5
theorem NodeAt.o4 (h : NodeAt s b x) : ld1 (.ptr b 4) (onS s) = some (kidsV (encL x.kids), rd s b 4 1) := Bx.ld1On h.on h.bx 4 (by show 4 < 5; decide) big5
theorem NodeAt.oA (h : NodeAt s b x) : ldA 5 (.ptr b 0) (onS s) = some (encN x, rd s b 0 5) := by rw [encN_cells]; exact Bx.ldAOn h.bx rfl big5
theorem NodeAt.grew {W : Nat → Prop} {t : St} (h : NodeAt s b x) (hb : b < s.next) (hw : ¬ W b) (g : Grew W s t) : NodeAt t b x := ⟨g.on.trans h.on, h.bx.grew hb hw g⟩
theorem node_box (ho : s.on = false) (x : Nd) : ∃ t, boxK 24 (encN x) s = some (.ptr s.next 0, t) ∧ NodeAt t s.next x ∧ Grew (fun _ => False) s t ∧ t.next = s.next + 1 := by
 obtain ⟨t, h1, h2, h3, h4⟩ := box_new ho 24 (cellsN x)
 rw [encN_cells]
 exact ⟨t, h1, ⟨h3.on.trans ho, h2⟩, h3, h4⟩
theorem node_new (ho : s.on = false) (z : Tr V) (x : Nd) : ∃ t, stP 5 (.ptr s.next 0) (encN x) (nwP 24 5 z s).2 = some (.tuple [], t) ∧ NodeAt t s.next x ∧ Grew (fun _ => False) s t ∧ t.next = s.next + 1 := by
 obtain ⟨t, h1, h2, h3, h4⟩ := var_new ho 24 5 z (cellsN x) rfl (by decide) big5
 rw [encN_cells]
 exact ⟨t, h1, ⟨h3.on.trans ho, h2⟩, h3, h4⟩
theorem lnS_kids (l : List Nd) : lnS (kidsV (encL l)) s = some (.int .i64 (l.length : Int), s) := by
 cases l with
 | nil => rfl
 | cons x l =>
  show some (V.int .i64 (.ofNat ((encN x :: encL l).length)), s) = _
  rw [List.length_cons, encL_length]; rfl
theorem ixP_kids (l : List Nd) (i : Nat) (h : i < l.length) : ixP 5 (kidsV (encL l)) (.int .i64 (i : Int)) = some (.cptr (encN l[i])) := by
 cases l with
 | nil => simp at h
 | cons x l =>
  show ixP 5 (.list 5 (encL (x :: l))) _ = _
  rw [ixP_list 5 (encL (x :: l)) .i64 i (by rw [encL_length]; exact h) (by decide)]
  congr 2
  simp only [encL_map, List.getElem_map]
theorem ldA_kid (x : Nd) : ldA 5 (.cptr (encN x)) s = some (encN x, s) := by rw [encN_cells]; exact ldA_cptr (cellsN x)
theorem faP_kid (x : Nd) : faP 0 false 1 (.cptr (encN x)) = some (.cptr (sv x.name)) := by rw [encN_cells]; exact faP_cptr (cellsN x) 0 (by show 0 < 5; decide)
theorem ld1_csv (l : List UInt8) : ld1 (.cptr (sv l)) s = some (sv l, s) := rfl
end
def deepN : Nat → Nd → Nat
 | 0, _ => 1
 | m + 1, x => if x.kind ≠ 2 ∨ m = 0 then 1 else x.kids.foldl (fun d y => max d (1 + deepN m y)) 1
theorem foldl_max_le {α : Type} (f : α → Nat) (B : Nat) : ∀ (l : List α) (d : Nat), d ≤ B → (∀ y ∈ l, 1 + f y ≤ B) → l.foldl (fun d y => max d (1 + f y)) d ≤ B
 | [], d, h, _ => h
 | y :: l, d, h, hl => foldl_max_le f B l _ (Nat.max_le.2 ⟨h, hl y (List.mem_cons_self ..)⟩) fun z hz => hl z (List.mem_cons_of_mem _ hz)
theorem deepN_le : ∀ (m : Nat) (x : Nd), deepN m x ≤ m + 1
 | 0, x => by simp [deepN]
 | m + 1, x => by
  rw [deepN]
  split
  · omega
  · exact foldl_max_le _ _ _ _ (by omega) fun y _ => by have := deepN_le m y; omega
structure DeepIn where
 m : Nat
 x : Nd
 h1 : 1 ≤ m
 h2 : m ≤ 14
 ok : x.ok
noncomputable def encDeep (p : DeepIn) : List V := [encN p.x, .int .i64 (p.m : Int)]
theorem encDeep_inj {p q : DeepIn} (h : encDeep p = encDeep q) : p.m = q.m ∧ p.x = q.x := by
 simp only [encDeep, List.cons.injEq, V.int.injEq, true_and, and_true] at h
 exact ⟨by omega, encN_inj h.1⟩
noncomputable def outDeep (p : DeepIn) : En := .ret (.int .i64 (deepN p.m p.x : Int))
noncomputable def kfDeep : KF := specKF encDeep outDeep
theorem kfDeep_run (m : Nat) (x : Nd) (h1 : 1 ≤ m) (h2 : m ≤ 14) (ok : x.ok) (S : St) : kfDeep.run [encN x, .int .i64 (m : Int)] S = some (.ret (.int .i64 (deepN m x : Int)), S) :=
 specKF_run (enc := encDeep) (out := outDeep) (fun p q h => by obtain ⟨h1, h2⟩ := encDeep_inj h; unfold outDeep; rw [h1, h2]) ⟨m, x, h1, h2, ok⟩ S
theorem L70_spec (self : EV) (N : Nat) (nk : Ac → St → Rs) (ek : Nat → Ac → St → Rs) (all : List Nd) (hall : all.length ≤ 3000) (m : Nat) (hm : m ≤ 14)
 (hself : ∀ x ∈ all, ∀ s, self.f 29 [encN x, .int .i64 (m : Int)] s = some (.ret (.int .i64 (deepN m x : Int)), s)) :
 ∀ (r : List Nd) (i d n : Nat) (S : St), all.drop i = r → r.length < n → S.on = false → d ≤ 100 →
 ∃ S', L29_19 self N nk ek n (.int .i64 ((m + 1 : Nat) : Int)) (.int .i64 (d : Int)) (kidsV (encL all)) (.int .i64 (all.length : Int)) (.int .i64 (i : Int)) S = ek 0 (fr 32 [(5, .int .i64 ((r.foldl (fun d y => max d (1 + deepN m y)) d : Nat) : Int))]) S' ∧ Grew (fun _ => False) S S'
 | r, i, d, 0, S, _, hn, _, _ => by omega
 | [], i, d, n + 1, S, hi, hn, ho, hd => by
  rw [L29_19_eq, binV_ii, intsV_lss]
  have : all.length ≤ i := List.drop_eq_nil_iff.1 hi
  rw [show decide ((i : Int) < (all.length : Int)) = false by simp; omega]
  exact ⟨S, rfl, Grew.refl _ _⟩
 | x :: r, i, d, n + 1, S, hi, hn, ho, hd => by
  have hlt : i < all.length := by
   rcases Nat.lt_or_ge i all.length with h | h
   · exact h
   · rw [List.drop_eq_nil_of_le h] at hi; cases hi
  rw [List.drop_eq_getElem_cons hlt] at hi
  simp only [List.cons.injEq] at hi
  obtain ⟨hx, hr⟩ := hi
  rw [L29_19_eq, binV_ii, intsV_lss, show decide ((i : Int) < (all.length : Int)) = true by simp; omega]
  simp only [oB, ifK_bool, cond_true]
  rw [ixP_kids all i hlt, hx]
  simp only [oB, ldA_kid, nwP_fst]
  obtain ⟨S1, k1, k2, k3, k4⟩ := node_new ho (Tr.ofListFrom .nil [(sv []), (.int .i64 0), (.bool false), (sv []), .nilslice] 0) x
  rw [k1]
  simp only [oB, k2.fA, binV_ii, intsV_sub]
  rw [show ((m + 1 : Nat) : Int) - 1 = (m : Int) by omega, wrap_i64 (by omega) (by omega)]
  rw [hself x (hx ▸ List.getElem_mem hlt)]
  have hb := deepN_le m x
  simp only [callP_ret, binV_ii, intsV_add, oB]
  rw [show (1 : Int) + (deepN m x : Int) = ((1 + deepN m x : Nat) : Int) by omega, wrap_i64 (by omega) (by omega)]
  rw [foldK_max, show max (d : Int) ((1 + deepN m x : Nat) : Int) = ((max d (1 + deepN m x) : Nat) : Int) by omega]
  simp only [oB]
  rw [show (i : Int) + 1 = ((i + 1 : Nat) : Int) by omega, wrap_i64 (by omega) (by omega)]
  obtain ⟨S', h1, h2⟩ := L70_spec self N nk ek all hall m hm hself r (i + 1) (max d (1 + deepN m x)) n S1 hr (by simp at hn; omega) k2.on (by omega)
  exact ⟨S', by rw [h1]; rfl, k3.trans h2⟩
theorem F70_spec (self : EV) (x : Nd) (ok : x.ok) (m : Nat) (hm : m + 1 ≤ 14) (hself : ∀ y ∈ x.kids, ∀ s, 1 ≤ m → self.f 29 [encN y, .int .i64 (m : Int)] s = some (.ret (.int .i64 (deepN m y : Int)), s)) (S : St) (ho : S.on = false) :
 ∃ S', F29 self rounds (encN x) (.int .i64 ((m + 1 : Nat) : Int)) S = some (.ret (.int .i64 (deepN (m + 1) x : Int)), S') ∧ Grew (fun _ => False) S S' := by
 obtain ⟨S1, k1, k2, k3, k4⟩ := node_box ho x
 have hok := ok.at
 rw [F29_eq, k1]
 simp only [oB, faP_ptr, Nat.zero_add, k2.f1, binV_ii, intsV_neq]
 rw [deepN]
 by_cases hk : x.kind = 2
 · rw [hk]
   simp only [ne_eq, not_true_eq_false, decide_true, decide_false, oB, guardV_t, guardV_f, guardV_no, Bool.not_true, Bool.not_false, cond_true, binV_ii, intsV_eql, pickV, cond_false, false_or]
   by_cases hm0 : m = 0
   · subst hm0
     exact ⟨S1, rfl, k3⟩
   · rw [show decide (((m + 1 : Nat) : Int) = 1) = false by simp; omega, if_neg hm0]
     simp only [ifK_bool, cond_false, k2.f4, oB, lnS_kids]
     obtain ⟨S', h1, h2⟩ := L70_spec self rounds (R29_12 self rounds (finN E0 self Tryd.f29) noEx) (exB 0 (R29_12 self rounds (finN E0 self Tryd.f29) noEx) noEx) x.kids hok.few m (by omega) (fun y hy s => hself y hy s (by omega)) x.kids 0 1 rounds S1 rfl (by have := hok.few; unfold rounds; omega) k2.on (by omega)
     refine ⟨S', ?_, k3.trans h2⟩
     rw [show ((0 : Nat) : Int) = 0 from rfl, show ((1 : Nat) : Int) = 1 from rfl] at h1
     rw [h1, exB_same, R29_12_eq]
 · simp only [ne_eq, hk, not_false_eq_true, decide_true, decide_false, Bool.not_false, oB, guardV_t, guardV_f, guardV_no, Bool.not_true, cond_false, pickV, cond_true, ifK_bool, true_or, if_true]
   exact ⟨S1, rfl, k3⟩
end Go.Proofs.YtcbaodegkfokjaaDoor.W
namespace Go.Proofs.YtcbaodegkfokjaaDoor.W
open Go.Proofs.YtcbaodegkfokjaaDoor.Ev
theorem kn70 {K : FuncId → Option KF} (hK : KnOk Tryd.prog E0 K) : KnWell Tryd.prog E0 29 kfDeep :=
 specKF_rec (fn := Tryd.f29) (c := C29) (d := B29) (fun p : DeepIn => p.m) (fun p q h => by obtain ⟨h1, h2⟩ := encDeep_inj h; unfold outDeep; rw [h1, h2]; exact ⟨rfl, rfl⟩) E0_ok hK (by kernel_rfl) (by kernel_rfl) (annot_isOf C29 _ (by kernel_rfl)) fun K' _ p s hself ho => by
  obtain ⟨m, hm⟩ : ∃ m, p.m = m + 1 := ⟨p.m - 1, by have := p.h1; omega⟩
  obtain ⟨S', h1, h2⟩ := F70_spec (ev E0 K' 1) p.x p.ok m (by have := p.h2; omega) (fun y hy s h1m => hself ⟨m, y, h1m, by have := p.h2; omega, p.ok.at.kids y hy⟩ s 0 (by show m < p.m; omega)) s ho
  rw [← hm] at h1
  exact ⟨1, .ret (.int .i64 (deepN p.m p.x : Int)), S', h1, h2, Fz.same (.int _ _)⟩
structure NodeIn where
 x : Nd
 ok : x.ok
noncomputable def encNode (p : NodeIn) : List V := [encN p.x]
theorem encNode_inj {p q : NodeIn} (h : encNode p = encNode q) : p.x = q.x := by
 simp only [encNode, List.cons.injEq, and_true] at h
 exact encN_inj h
noncomputable def kfNode (g : Nd → V) : KF := specKF encNode (fun p : NodeIn => En.ret (g p.x))
theorem kfNode_run (g : Nd → V) (x : Nd) (ok : x.ok) (S : St) : (kfNode g).run [encN x] S = some (.ret (g x), S) :=
 specKF_run (enc := encNode) (out := fun p : NodeIn => En.ret (g p.x)) (fun p q h => by rw [encNode_inj h]) ⟨x, ok⟩ S
theorem knNode {K : FuncId → Option KF} (hK : KnOk Tryd.prog E0 K) {f : FuncId} {fn : Func} {c : Code} {d : D} (g : Nd → V) (hu : ∀ n x, Under n (g x)) (hf : E0.fns.get f = some fn) (hb : fn.body = some c) (hd : isOf d c)
 (n : Nat) (h : ∀ x S, x.ok → S.on = false → ∃ S', runF E0 (ev E0 K n) rounds fn d [encN x] S = some (.ret (g x), S') ∧ Grew (fun _ => False) S S') : KnWell Tryd.prog E0 f (kfNode g) :=
 specKF_text E0_ok hK hf hb hd fun p s ho => by
  obtain ⟨S', h1, h2⟩ := h p.x s p.ok ho
  exact ⟨n, .ret (g p.x), S', h1, h2, Fz.same (hu _ _)⟩
theorem knNode_rec {K : FuncId → Option KF} (hK : KnOk Tryd.prog E0 K) {f : FuncId} {fn : Func} {c : Code} {d : D} (g : Nd → V) (hu : ∀ n x, Under n (g x)) (hf : E0.fns.get f = some fn) (hb : fn.body = some c) (hd : isOf d c)
 (n : Nat) (h : ∀ K', (∀ q, q ≠ f → K' q = K q) → ∀ x S, x.ok → (∀ y s m, y ∈ x.kids → (ev E0 K' (m + 1)).f f [encN y] s = some (.ret (g y), s)) → S.on = false → ∃ S', runF E0 (ev E0 K' n) rounds fn d [encN x] S = some (.ret (g x), S') ∧ Grew (fun _ => False) S S') : KnWell Tryd.prog E0 f (kfNode g) :=
 specKF_rec (fun p : NodeIn => SizeOf.sizeOf p.x) (fun p q h => by rw [encNode_inj h]; exact ⟨rfl, rfl⟩) E0_ok hK hf hb hd fun K' hK' p s hself ho => by
  obtain ⟨S', h1, h2⟩ := h K' hK' p.x s p.ok (fun y s m hy => hself ⟨y, p.ok.at.kids y hy⟩ s m (by
   show SizeOf.sizeOf y < SizeOf.sizeOf p.x
   have := List.sizeOf_lt_of_mem hy
   cases hp : p.x with
   | mk n k e d l =>
    rw [hp] at this
    simp only [Nd.kids] at this
    simp only [Nd.mk.sizeOf_spec]
    omega)) ho
  exact ⟨n, .ret (g p.x), S', h1, h2, Fz.same (hu _ _)⟩
noncomputable def gDeep (x : Nd) : V := .int .i64 (deepN 14 x : Int)
theorem kn58 {K : FuncId → Option KF} (hK : KnOk Tryd.prog E0 K) (h70 : K 29 = some kfDeep) : KnWell Tryd.prog E0 12 (kfNode gDeep) :=
 knNode hK (c := C12) (d := B12) gDeep (fun _ _ => .int _ _) (by kernel_rfl) (by kernel_rfl) (annot_isOf C12 _ (by kernel_rfl)) 1 fun x S ok ho => by
  obtain ⟨S1, k1, k2, k3, k4⟩ := node_box ho x
  refine ⟨S1, (?_ : F12 (ev E0 K 1) rounds (encN x) S = _), k3⟩
  rw [F12_eq, k1]
  simp only [oB, k2.fA]
  rw [show (V.int .i64 14) = .int .i64 ((14 : Nat) : Int) from rfl, ev_known h70, kfDeep_run 14 x (by omega) (by omega) ok]
  rfl
def tooDeepN (x : Nd) : Bool := decide (12 < deepN 14 x)
noncomputable def gTooDeep (x : Nd) : V := .bool (tooDeepN x)
theorem kn35 {K : FuncId → Option KF} (hK : KnOk Tryd.prog E0 K) (h58 : K 12 = some (kfNode gDeep)) : KnWell Tryd.prog E0 24 (kfNode gTooDeep) :=
 knNode hK (c := C24) (d := B24) gTooDeep (fun _ _ => .bool _) (by kernel_rfl) (by kernel_rfl) (annot_isOf C24 _ (by kernel_rfl)) 1 fun x S ok ho => by
  obtain ⟨S1, k1, k2, k3, k4⟩ := node_box ho x
  refine ⟨S1, (?_ : F24 (ev E0 K 1) rounds (encN x) S = _), k3⟩
  rw [F24_eq, k1]
  simp only [oB, k2.fA]
  rw [ev_known h58, kfNode_run _ x ok]
  simp only [callP_ret, gDeep, binV_ii, intsV_gtr, oB, gTooDeep, tooDeepN]
  rw [show decide ((12 : Int) < (deepN 14 x : Int)) = decide (12 < deepN 14 x) by rw [decide_eq_decide]; omega]
end Go.Proofs.YtcbaodegkfokjaaDoor.W
namespace Go.Proofs.YtcbaodegkfokjaaDoor.W
open Go.Proofs.YtcbaodegkfokjaaDoor.Ev
abbrev wr (n : Int) : Int := IntKind.i64.wrap n
mutual
def sizeN : Nd → Int × Int
 | .mk _ _ _ d l => sizeL l (1, (d.length : Int))
def sizeL : List Nd → Int × Int → Int × Int
 | [], a => a
 | x :: l, a => sizeL l (if tooDeepN x then a else (wr (a.1 + (sizeN x).1), wr (a.2 + (sizeN x).2)))
end
theorem sizeN_eq (x : Nd) : sizeN x = sizeL x.kids (1, (x.data.length : Int)) := by cases x; rw [sizeN]; rfl
noncomputable def gSize (x : Nd) : V := .tuple [.int .i64 (sizeN x).1, .int .i64 (sizeN x).2]
def sizeT (x : Nd) : Int × Int := if tooDeepN x then (0, 0) else sizeN x
noncomputable def gSizeT (x : Nd) : V := .tuple [.int .i64 (sizeT x).1, .int .i64 (sizeT x).2]
theorem under_two (n : Nat) (a b : V) (ha : Under n a) (hb : Under n b) : Under n (.tuple [a, b]) := .tuple (.cons ha (.cons hb .nil))
theorem drop_at {α : Type} {l r : List α} {i : Nat} {y : α} (h : l.drop i = y :: r) : ∃ hlt : i < l.length, l[i] = y ∧ l.drop (i + 1) = r ∧ y ∈ l := by
 have hlt : i < l.length := by
  rcases Nat.lt_or_ge i l.length with h' | h'
  · exact h'
  · rw [List.drop_eq_nil_of_le h'] at h; cases h
 rw [List.drop_eq_getElem_cons hlt] at h
 simp only [List.cons.injEq] at h
 exact ⟨hlt, h.1, h.2, h.1 ▸ List.getElem_mem hlt⟩
theorem drop_end {α : Type} {l : List α} {i : Nat} (h : l.drop i = []) : l.length ≤ i := List.drop_eq_nil_iff.1 h
theorem dec_lt {a b : Nat} (h : a < b) : decide ((a : Int) < (b : Int)) = true := by simp; omega
theorem dec_ge {a b : Nat} (h : b ≤ a) : decide ((a : Int) < (b : Int)) = false := by simp; omega
theorem wrap_succ {i : Nat} (h : i < 9223372036854775807) : IntKind.i64.wrap ((i : Int) + 1) = ((i + 1 : Nat) : Int) := by
 rw [wrap_i64 (by omega) (by omega)]; omega
theorem L38_spec (self : EV) (N : Nat) (nk : Ac → St → Rs) (ek : Nat → Ac → St → Rs) (all : List Nd) (hall : all.length ≤ 3000)
 (h35 : ∀ y ∈ all, ∀ s, self.f 24 [encN y] s = some (.ret (gTooDeep y), s)) (h38 : ∀ y ∈ all, ∀ s, self.f 27 [encN y] s = some (.ret (gSize y), s)) :
 ∀ (r : List Nd) (i n : Nat) (a : Int × Int) (S : St), all.drop i = r → r.length < n → S.on = false →
 ∃ S', L27_17 self N nk ek n (.int .i64 a.1) (.int .i64 a.2) (kidsV (encL all)) (.int .i64 (all.length : Int)) (.int .i64 (i : Int)) S = ek 0 (fr 34 [(2, .int .i64 (sizeL r a).1), (3, .int .i64 (sizeL r a).2)]) S' ∧ Grew (fun _ => False) S S'
 | r, i, 0, a, S, _, hn, _ => by omega
 | [], i, n + 1, a, S, hi, hn, ho => by
  rw [L27_17_eq, binV_ii, intsV_lss, dec_ge (drop_end hi)]
  exact ⟨S, by rw [sizeL]; rfl, Grew.refl _ _⟩
 | x :: r, i, n + 1, a, S, hi, hn, ho => by
  obtain ⟨hlt, hx, hr, hmem⟩ := drop_at hi
  rw [L27_17_eq, binV_ii, intsV_lss, dec_lt hlt]
  simp only [oB, ifK_bool, cond_true]
  rw [ixP_kids all i hlt, hx]
  simp only [oB, ldA_kid, nwP_fst]
  obtain ⟨S1, k1, k2, k3, k4⟩ := node_new ho (Tr.ofListFrom .nil [(sv []), (.int .i64 0), (.bool false), (sv []), .nilslice] 0) x
  rw [k1]
  simp only [oB, k2.fA]
  rw [h35 x hmem, sizeL]
  simp only [callP_ret, gTooDeep, ifK_bool]
  cases htd : tooDeepN x with
  | true =>
   simp only [cond_true, binV_ii, intsV_add, oB, wrap_succ (show i < 9223372036854775807 by omega)]
   obtain ⟨S', h1, h2⟩ := L38_spec self N nk ek all hall h35 h38 r (i + 1) n a S1 hr (by simp at hn; omega) k2.on
   exact ⟨S', by rw [h1]; rfl, k3.trans h2⟩
  | false =>
   simp only [cond_false, k2.fA, oB]
   rw [h38 x hmem]
   simp only [callP_ret, gSize, extractV, List.getElem?_cons_zero, List.getElem?_cons_succ, oB, binV_ii, intsV_add, wrap_succ (show i < 9223372036854775807 by omega)]
   obtain ⟨S', h1, h2⟩ := L38_spec self N nk ek all hall h35 h38 r (i + 1) n (wr (a.1 + (sizeN x).1), wr (a.2 + (sizeN x).2)) S1 hr (by simp at hn; omega) k2.on
   exact ⟨S', by rw [h1]; rfl, k3.trans h2⟩
theorem kn38 {K : FuncId → Option KF} (hK : KnOk Tryd.prog E0 K) (h35 : K 24 = some (kfNode gTooDeep)) : KnWell Tryd.prog E0 27 (kfNode gSize) :=
 knNode_rec hK (fn := Tryd.f27) (c := C27) (d := B27) gSize (fun _ _ => under_two _ _ _ (.int _ _) (.int _ _)) (by kernel_rfl) (by kernel_rfl) (annot_isOf C27 _ (by kernel_rfl)) 1 fun K' hK' x S ok hself ho => by
  obtain ⟨S1, k1, k2, k3, k4⟩ := node_box ho x
  obtain ⟨S', h1, h2⟩ := L38_spec (ev E0 K' 1) rounds (R27_8 (ev E0 K' 1) rounds (finN E0 (ev E0 K' 1) Tryd.f27) noEx) (exB 0 (R27_8 (ev E0 K' 1) rounds (finN E0 (ev E0 K' 1) Tryd.f27) noEx) noEx) x.kids ok.at.few
   (fun y hy s => by rw [ev_known (show K' 24 = _ by rw [hK' 24 (by decide)]; exact h35), kfNode_run _ y (ok.at.kids y hy)]) (fun y hy s => hself y s 0 hy) x.kids 0 rounds (1, (x.data.length : Int)) S1 rfl (by have := ok.at.few; unfold rounds; omega) k2.on
  refine ⟨S', (?_ : F27 (ev E0 K' 1) rounds (encN x) S = _), k3.trans h2⟩
  rw [F27_eq, k1]
  simp only [oB, faP_ptr, Nat.zero_add, k2.o3, onS_rd, onS_onS, lnStr_sv, relog_onS k2.on, k2.f4, lnS_kids]
  rw [show ((0 : Nat) : Int) = 0 from rfl] at h1
  dsimp only at h1
  rw [h1, exB_same, R27_8_eq, gSize, sizeN_eq]
theorem kn17 {K : FuncId → Option KF} (hK : KnOk Tryd.prog E0 K) (h35 : K 24 = some (kfNode gTooDeep)) (h38 : K 27 = some (kfNode gSize)) : KnWell Tryd.prog E0 10 (kfNode gSizeT) :=
 knNode hK (fn := Tryd.f10) (c := C10) (d := B10) gSizeT (fun _ _ => under_two _ _ _ (.int _ _) (.int _ _)) (by kernel_rfl) (by kernel_rfl) (annot_isOf C10 _ (by kernel_rfl)) 1 fun x S ok ho => by
  obtain ⟨S1, k1, k2, k3, k4⟩ := node_box ho x
  refine ⟨S1, (?_ : F10 (ev E0 K 1) rounds (encN x) S = _), k3⟩
  rw [F10_eq, k1]
  simp only [oB, k2.fA]
  rw [ev_known h35, kfNode_run _ x ok]
  simp only [callP_ret, gTooDeep, ifK_bool, gSizeT, sizeT]
  cases htd : tooDeepN x with
  | true => rfl
  | false =>
   simp only [cond_false, k2.fA, oB, Bool.false_eq_true, if_false]
   rw [ev_known h38, kfNode_run _ x ok]
   rfl
end Go.Proofs.YtcbaodegkfokjaaDoor.W
namespace Go.Proofs.YtcbaodegkfokjaaDoor.W
open Go.Proofs.YtcbaodegkfokjaaDoor.Ev
def badByte (c : UInt8) : Bool := c == 47 || c == 0
def nameOk (s : List UInt8) : Bool := decide (1 ≤ s.length) && decide (s.length ≤ 56) && !(s.any badByte) && !(s == [46]) && !(s == [46, 46])
theorem u8_eq (c d : UInt8) : (c == d) = decide ((c.toNat : Int) = (d.toNat : Int)) := by
 rw [Bool.eq_iff_iff]
 simp only [beq_iff_eq, decide_eq_true_eq]
 constructor
 · rintro rfl; rfl
 · intro h; exact UInt8.toNat_inj.1 (by omega)
structure TextIn where
 s : List UInt8
 hs : s.length < 9223372036854775808
noncomputable def kfText (g : List UInt8 → V) : KF := specKF (fun p : TextIn => [sv p.s]) (fun p => En.ret (g p.s))
theorem kfText_run (g : List UInt8 → V) (s : List UInt8) (hs : s.length < 9223372036854775808) (S : St) : (kfText g).run [sv s] S = some (.ret (g s), S) :=
 specKF_run (enc := fun p : TextIn => [sv p.s]) (out := fun p => En.ret (g p.s)) (fun p q h => by
  simp only [List.cons.injEq, and_true] at h
  rw [sv_inj h]) ⟨s, hs⟩ S
theorem knText {K : FuncId → Option KF} (hK : KnOk Tryd.prog E0 K) {f : FuncId} {fn : Func} {c : Code} {d : D} (g : List UInt8 → V) (hu : ∀ n x, Under n (g x)) (hf : E0.fns.get f = some fn) (hb : fn.body = some c) (hd : isOf d c)
 (n : Nat) (h : ∀ s S, s.length < 9223372036854775808 → S.on = false → ∃ S', runF E0 (ev E0 K n) rounds fn d [sv s] S = some (.ret (g s), S') ∧ Grew (fun _ => False) S S') : KnWell Tryd.prog E0 f (kfText g) :=
 specKF_text E0_ok hK hf hb hd fun p s ho => by
  obtain ⟨S', h1, h2⟩ := h p.s s p.hs ho
  exact ⟨n, .ret (g p.s), S', h1, h2, Fz.same (hu _ _)⟩
noncomputable def gName (s : List UInt8) : V := .bool (nameOk s)
end Go.Proofs.YtcbaodegkfokjaaDoor.W
namespace Go.Proofs.YtcbaodegkfokjaaDoor.W
open Go.Proofs.YtcbaodegkfokjaaDoor.Ev
def prevLess (p : Option (List UInt8)) (s : List UInt8) : Bool :=
 match p with
 | none => true
 | some q => Op.bytesLess q s
mutual
def mayN : Nd → Bool
 | .mk _ k e d l => if k = 1 then l.isEmpty else if k = 3 then !(d.any (· == 0)) && (!e && l.isEmpty && decide (1 ≤ d.length) && decide (d.length ≤ 255)) else if k = 2 then mayL none l && (!e && (d == [])) else false
def mayL : Option (List UInt8) → List Nd → Bool
 | _, [] => true
 | p, x :: l => (nameOk x.name && mayN x) && prevLess p x.name && mayL (some x.name) l
end
theorem mayN_eq (x : Nd) : mayN x = if x.kind = 1 then x.kids.isEmpty else if x.kind = 3 then !(x.data.any (· == 0)) && (!x.exec && x.kids.isEmpty && decide (1 ≤ x.data.length) && decide (x.data.length ≤ 255)) else if x.kind = 2 then mayL none x.kids && (!x.exec && (x.data == [])) else false := by
 cases x; rw [mayN]; rfl
noncomputable def gMay (x : Nd) : V := .bool (mayN x)
def prevN (all : List Nd) : Nat → Option (List UInt8)
 | 0 => none
 | i + 1 => (all[i]?).map Nd.name
end Go.Proofs.YtcbaodegkfokjaaDoor.W
namespace Go.Proofs.YtcbaodegkfokjaaDoor.W
open Go.Proofs.YtcbaodegkfokjaaDoor.Ev
section
variable {s : St}
def AgAt (s : St) (b e z : Nat) (t : Tr V) : Prop := ∃ c, s.heap.get b = some (.cells e z 1 false c) ∧ c.get 0 = some t
theorem AgAt.grew {W : Nat → Prop} {u : St} {b e z : Nat} {t : Tr V} (h : AgAt s b e z t) (hb : b < s.next) (hw : ¬ W b) (g : Grew W s u) : AgAt u b e z t := by
 obtain ⟨c, h1, h2⟩ := h
 exact ⟨c, by rw [g.keep b hb hw]; exact h1, h2⟩
theorem ag_new (ho : s.on = false) (e z : Nat) (t : Tr V) : AgAt (nwP e z t s).2 s.next e z t ∧ Grew (fun _ => False) s (nwP e z t s).2 ∧ (nwP e z t s).2.next = s.next + 1 := by
 refine ⟨⟨Tr.ofListFrom .nil [t] 0, ?_, by rw [Tr.get_ofList]; rfl⟩, grew_nw ho _ _, rfl⟩
 show (newCells s e z [t]).heap.get s.next = _
 unfold newCells
 rw [nw_get, if_pos rfl]; rfl
theorem AgAt.ldk (ho : s.on = false) {b e z : Nat} {t : Tr V} (h : AgAt s b e z t) (hz : z < big) : ldK s b 0 z = some (t, s) := by
 obtain ⟨c, h1, h2⟩ := h
 unfold ldK
 rw [h1]
 simp only [ble_true.2 (show 0 + z ≤ z * 1 by omega), blt_true.2 (show z * 1 < big by omega), Bool.and_self, cond_true]
 unfold elemIn
 rw [show Nat.beq z z = true from beq_true.2 rfl, Nat.zero_mod, show Nat.beq 0 0 = true from rfl]
 simp only [Bool.and_self, cond_true, Nat.zero_div, h2, oB, note_off ho]
theorem AgAt.ldA (ho : s.on = false) {b e z : Nat} {t : Tr V} (h : AgAt s b e z t) (hz : z < big) : Go.Proofs.YtcbaodegkfokjaaDoor.Ev.ldA z (.ptr b 0) s = some (.agg z t, s) := by
 show ((ldK s b 0 z).bind fun p => some (V.agg z p.1, p.2)) = _
 rw [h.ldk ho hz]; rfl
theorem AgAt.ldrA (ho : s.on = false) {b e z : Nat} {t : Tr V} (h : AgAt s b e z t) (hz : z < big) : Go.Proofs.YtcbaodegkfokjaaDoor.Ev.ldrA z (.ptr b 0) s = some (.agg z t, s) := by
 show ((ldK s b 0 z).bind fun p => some (V.agg z p.1, p.2)) = _
 rw [h.ldk ho hz]; rfl
theorem AgAt.stA (ho : s.on = false) {b e z : Nat} {t : Tr V} (h : AgAt s b e z t) (hz : z < big) (u : Tr V) : ∃ w, stP z (.ptr b 0) (.agg z u) s = some (.tuple [], w) ∧ AgAt w b e z u ∧ Grew (fun x => x = b) s w ∧ w.next = s.next := by
 obtain ⟨c, h1, h2⟩ := h
 refine ⟨s.put b (.cells e z 1 false (c.set u 0)), ?_, ⟨c.set u 0, by rw [put_get, if_pos rfl], by rw [Tr.get_set, if_pos rfl]⟩, grew_put b _, rfl⟩
 show vu (bif Nat.beq z z && !false then stK s b 0 z u else none) = _
 rw [show Nat.beq z z = true from beq_true.2 rfl]
 simp only [Bool.not_false, Bool.and_self, cond_true]
 have : stK s b 0 z u = some (s.put b (.cells e z 1 false (c.set u 0))) := by
  unfold stK
  rw [h1]
  simp only [ble_true.2 (show 0 + z ≤ z * 1 by omega), blt_true.2 (show z * 1 < big by omega), Bool.and_self, Bool.not_false, cond_true]
  unfold elemTo
  rw [show Nat.beq z z = true from beq_true.2 rfl, Nat.zero_mod, show Nat.beq 0 0 = true from rfl]
  simp only [Bool.and_self, cond_true, Nat.zero_div, Tr.setC_eq, oB, note_off ho]
 rw [this]; rfl
theorem AgAt.ld1 (ho : s.on = false) {b e z i : Nat} {t : Tr V} {v : V} (h : AgAt s b e z t) (hz : z < big) (hi : i < z) (hv : t.get i = some v) : Go.Proofs.YtcbaodegkfokjaaDoor.Ev.ld1 (.ptr b i) s = some (v, s) := by
 obtain ⟨c, h1, h2⟩ := h
 show ld s b i = _
 exact ld_of ho h1 (by omega) (by omega) (by rw [cellOf_zero hi, h2]; exact hv)
theorem AgAt.st1 (ho : s.on = false) {b e z i : Nat} {t : Tr V} (h : AgAt s b e z t) (hz : z < big) (h1z : 1 < z) (hi : i < z) (v : V) (hs : v.size = 1) (hc : v.cells = one v) (hv : isTuple v = false) : ∃ w, stP 1 (.ptr b i) v s = some (.tuple [], w) ∧ AgAt w b e z (t.set v i) ∧ Grew (fun x => x = b) s w ∧ w.next = s.next := by
 obtain ⟨c, h1, h2⟩ := h
 refine ⟨s.put b (.cells e z 1 false (c.set (t.set v i) 0)), ?_, ⟨c.set (t.set v i) 0, by rw [put_get, if_pos rfl], by rw [Tr.get_set, if_pos rfl]⟩, grew_put b _, rfl⟩
 show vu (bif Nat.beq v.size 1 && !isTuple v then stK s b i 1 v.cells else none) = _
 rw [hs, hv, hc]
 simp only [show Nat.beq 1 1 = true from rfl, Bool.not_false, Bool.and_self, cond_true]
 have : stK s b i 1 (one v) = some (s.put b (.cells e z 1 false (c.set (t.set v i) 0))) := by
  unfold stK
  rw [h1]
  simp only [ble_true.2 (show i + 1 ≤ z * 1 by omega), blt_true.2 (show z * 1 < big by omega), Bool.and_self, Bool.not_false, cond_true]
  unfold elemTo
  rw [show Nat.beq 1 z = false from beq_false.2 (by omega)]
  simp only [Bool.false_and, cond_false, cellsTo, show (one v).get 0 = some v from rfl, oB, Nat.add_zero, Nat.div_eq_of_lt hi, Nat.mod_eq_of_lt hi, h2, Tr.setC_eq, note_off ho]
 rw [this]; rfl
end
def ixB (l : List UInt8) (c : UInt8) : Int := match l.findIdx? (fun x => x == c) with | some i => (i : Int) | none => -1
structure ByteIn where
 s : List UInt8
 c : UInt8
noncomputable def kfIndexByte : KF := specKF (fun p : ByteIn => [sv p.s, .int .u8 (p.c.toNat : Int)]) (fun p => En.ret (.int .i64 (ixB p.s p.c)))
theorem kfIndexByte_run (s : List UInt8) (c : UInt8) (S : St) : kfIndexByte.run [sv s, .int .u8 (c.toNat : Int)] S = some (.ret (.int .i64 (ixB s c)), S) :=
 specKF_run (enc := fun p : ByteIn => [sv p.s, .int .u8 (p.c.toNat : Int)]) (out := fun p => En.ret (.int .i64 (ixB p.s p.c))) (fun p q h => by
  simp only [List.cons.injEq, V.int.injEq, true_and, and_true] at h
  rw [sv_inj h.1, UInt8.toNat_inj.1 (show p.c.toNat = q.c.toNat by omega)]) ⟨s, c⟩ S
theorem toNat_ofNat {n : Nat} (h : n < 256) : (UInt8.ofNat n).toNat = n := by simp [UInt8.toNat_ofNat']; omega
theorem extV_one (l n c : Nat) (S : St) : extV 1 [.str l n, .int .u8 (.ofNat c)] S = bif Nat.blt c 256 then match indexByte c l 0 n with
 | some i => some (.val (.int .i64 (.ofNat i)) S)
 | none => some (.val (.int .i64 (-1)) S)
 else none := rfl
theorem callK_ext {E : Env} {self : EV} {f k : Nat} (h : E.ext.get f = some k) (x y args : List V) (S : St) : callK E self (.fn (.func f) x y) args S = (extV k (x ++ args ++ y) S).bind fun
 | .val v s => some (.ret v, s)
 | _ => none := by
 show (match E.ext.get f with | some k => _ | none => _) = _
 rw [h]
 rfl
theorem ext76 : E0.ext.get 55 = some 1 := by kernel_rfl
theorem ext_ixB (s : List UInt8) (c : UInt8) (S : St) : extV 1 [sv s, .int .u8 (c.toNat : Int)] S = some (.val (.int .i64 (ixB s c)) S) := by
 have h1 : extV 1 [sv s, .int .u8 (c.toNat : Int)] S = bif Nat.blt c.toNat 256 then match indexByte c.toNat s.length 0 (pack s) with
  | some i => some (.val (.int .i64 (.ofNat i)) S)
  | none => some (.val (.int .i64 (-1)) S)
  else none := extV_one _ _ _ _
 rw [h1, blt_true.2 c.toNat_lt, indexByte_spec, ixB]
 cases s.findIdx? (fun x => x == c) with
 | none => rfl
 | some i => rfl
theorem call76 (self : EV) (s : List UInt8) (c : UInt8) (S : St) : callK E0 self (.fn (.func 55) [] []) [sv s, .int .u8 (c.toNat : Int)] S = some (.ret (.int .i64 (ixB s c)), S) := by
 have h := callK_ext (E := E0) (self := self) ext76 [] [] [sv s, .int .u8 (c.toNat : Int)] S
 have h2 := ext_ixB s c S
 rw [List.nil_append, List.append_nil, h2] at h
 exact h
theorem F73_of (self : EV) (N : Nat) (s : V) (c : UInt8) (S : St) (v : V) (h : callK E0 self (.fn (.func 55) [] []) [s, .int .u8 (c.toNat : Int)] S = some (.ret v, S)) : F48 self N s (.int .u8 (c.toNat : Int)) S = some (.ret v, S) := by
 rw [F48_eq, h, callP_ret]
theorem F73_spec (self : EV) (N : Nat) (s : List UInt8) (c : UInt8) (S : St) : F48 self N (sv s) (.int .u8 (c.toNat : Int)) S = some (.ret (.int .i64 (ixB s c)), S) :=
 F73_of self N (sv s) c S (.int .i64 (ixB s c)) (call76 self s c S)
theorem kn63 {K : FuncId → Option KF} (hK : KnOk Tryd.prog E0 K) (h73 : K 48 = none) : KnWell Tryd.prog E0 36 kfIndexByte :=
 specKF_text (fn := Tryd.f36) (c := C36) (d := B36) E0_ok hK (by kernel_rfl) (by kernel_rfl) (annot_isOf C36 _ (by kernel_rfl)) fun p S ho => by
  refine ⟨1, .ret (.int .i64 (ixB p.s p.c)), S, (?_ : F36 (ev E0 K 1) rounds (sv p.s) (.int .u8 (p.c.toNat : Int)) S = _), Grew.refl _ _, Fz.same (.int _ _)⟩
  rw [F36_eq, ev_read (c := C48) (d := B48) (by kernel_rfl) (by kernel_rfl) (annot_isOf C48 _ (by kernel_rfl)) h73 (F73_spec (ev E0 K 0) rounds p.s p.c S)]
  rfl
theorem F82_spec (self : EV) (N : Nat) (r : Nat) (S : St) : ∃ v : Bool, F65 self N (.int .i32 (r : Int)) S = some (.ret (.bool v), S) := by
 rw [F65_eq, binV_ii, intsV_leq, show decide ((0 : Int) ≤ (r : Int)) = true by simp]
 simp only [oB, guardV_t, cond_true, binV_ii]
 rw [intsV_lss, intsV_lss]
 generalize decide ((r : Int) < 55296) = b1
 generalize decide ((57343 : Int) < (r : Int)) = b2
 cases b1 with
 | true => exact ⟨true, rfl⟩
 | false =>
  cases b2 with
  | false => exact ⟨false, rfl⟩
  | true =>
   simp only [cond_true, cond_false, oB, binV_ii, ifK_bool, pickV, guardV_t]
   rw [intsV_leq]
   generalize decide ((r : Int) ≤ 1114111) = b3
   cases b3
   · exact ⟨false, rfl⟩
   · exact ⟨true, rfl⟩
def bad2 : List UInt8 := [47, 0]
def ixR (r : Nat) : Int := if r = 47 then 0 else if r = 0 then 1 else -1
theorem ixB_bad2 (c : UInt8) : ixB bad2 c = ixR c.toNat := by
 unfold ixB bad2 ixR
 by_cases h1 : c = 47
 · subst h1; rfl
 · by_cases h2 : c = 0
   · subst h2; rfl
   · have h3 : ¬ c.toNat = 47 := fun h => h1 (UInt8.toNat_inj.1 h)
     have h4 : ¬ c.toNat = 0 := fun h => h2 (UInt8.toNat_inj.1 h)
     rw [if_neg h3, if_neg h4]
     have h5 : ((47 : UInt8) == c) = false := by simpa using fun h => h1 h.symm
     have h6 : ((0 : UInt8) == c) = false := by simpa using fun h => h2 h.symm
     simp [List.findIdx?_cons, h5, h6]
theorem enc_last (r : Nat) (h : 128 ≤ r) : ∃ a l, (Utf8.encode (r : Int)).data.toList = a ++ [l] ∧ 1 ≤ a.length ∧ a.length ≤ 3 ∧ 128 ≤ l.toNat := by
 unfold Utf8.encode
 have hc : 128 ≤ (if Utf8.valid (r : Int) then (r : Int).toNat else Utf8.runeError) := by
  split
  · simpa using h
  · decide
 generalize (if Utf8.valid (r : Int) then (r : Int).toNat else Utf8.runeError) = c at hc
 have hl : ∀ c : Nat, 128 ≤ (UInt8.ofNat (0x80 + c % 64)).toNat := fun c => by rw [toNat_ofNat (by omega)]; omega
 simp only
 rw [if_neg (by omega)]
 split
 · exact ⟨[_], _, rfl, by simp, by simp, hl c⟩
 · split
   · exact ⟨[_, _], _, rfl, by simp, by simp, hl c⟩
   · exact ⟨[_, _, _], _, rfl, by simp, by simp, hl c⟩
end Go.Proofs.YtcbaodegkfokjaaDoor.W
namespace Go.Proofs.YtcbaodegkfokjaaDoor.W
open Go.Proofs.YtcbaodegkfokjaaDoor.Ev
theorem und9 : und E0 9 = some .string := by kernel_rfl
theorem und21 : und E0 21 = some (.int .i32) := by kernel_rfl
section
variable {s : St}
theorem nextK_at (ho : s.on = false) {b l n pos : Nat} (h : s.heap.get b = some (.siter l n pos)) (hlt : pos < l) : nextK (.ptr b 0) true s = some (.tuple [.bool true, .int .i64 (pos : Int), .int .i32 ((decP l n pos).1 : Int)], s.put b (.siter l n (pos + (decP l n pos).2))) := by
 unfold nextK getO
 simp only [cond_true, show Nat.beq 0 0 = true from rfl, h, oB, note_off ho, blt_true.2 hlt]
 unfold setO
 rw [note_off ho]; rfl
theorem nextK_end (ho : s.on = false) {b l n pos : Nat} (h : s.heap.get b = some (.siter l n pos)) (hge : l ≤ pos) : nextK (.ptr b 0) true s = some (.tuple [.bool false], s) := by
 unfold nextK getO
 have hb : Nat.blt pos l = false := by
  cases hc : Nat.blt pos l with
  | false => rfl
  | true => rw [blt_true] at hc; omega
 simp only [cond_true, show Nat.beq 0 0 = true from rfl, h, oB, note_off ho, hb, cond_false]
theorem rangeStr_sv (l : List UInt8) : rangeStrK E0 9 (sv l) s = some (.ptr s.next 0, nw s (.siter l.length (pack l) 0)) := by
 unfold rangeStrK
 rw [und9]; rfl
theorem put_on {b : Nat} {o : O} (ho : s.on = false) : (s.put b o).on = false := ho
end
theorem dec_bad0 : decP 2 (pack bad2) 0 = (47, 1) := by decide +kernel
theorem dec_bad1 : decP 2 (pack bad2) 1 = (0, 1) := by decide +kernel
theorem L78_bad (self : EV) (N : Nat) (nk : Ac → St → Rs) (ek : Nat → Ac → St → Rs) (n : Nat) (b : Nat) (S : St) (ho : S.on = false) (h : S.heap.get b = some (.siter 2 (pack bad2) 0)) (hb : b < S.next) :
 ∃ S', L60_20 self N nk ek (n + 3) (.ptr b 0) S = ek 9 (fr 187 []) S' ∧ Grew (fun x => x = b) S S' := by
 have g0 : (S.put b (.siter 2 (pack bad2) (0 + (decP 2 (pack bad2) 0).2))).heap.get b = some (.siter 2 (pack bad2) 1) := by rw [put_get, if_pos rfl, dec_bad0]; rfl
 have g1 : ((S.put b (.siter 2 (pack bad2) (0 + (decP 2 (pack bad2) 0).2))).put b (.siter 2 (pack bad2) (1 + (decP 2 (pack bad2) 1).2))).heap.get b = some (.siter 2 (pack bad2) 2) := by rw [put_get, if_pos rfl, dec_bad1]; rfl
 refine ⟨_, ?_, (grew_put (s := S) b (.siter 2 (pack bad2) (0 + (decP 2 (pack bad2) 0).2))).trans (grew_put b (.siter 2 (pack bad2) (1 + (decP 2 (pack bad2) 1).2)))⟩
 rw [L60_20_eq, nextK_at ho h (by omega), dec_bad0]
 simp only [oB, extractV, List.getElem?_cons_zero, List.getElem?_cons_succ, ifK_bool, cond_true, binV_ii]
 rw [intsV_eql, show decide (((47 : Nat) : Int) = 65533) = false by decide]
 simp only [oB, ifK_bool, cond_false]
 rw [dec_bad0] at g0 g1
 rw [L60_20_eq, nextK_at (put_on ho) g0 (by omega), dec_bad1]
 simp only [oB, extractV, List.getElem?_cons_zero, List.getElem?_cons_succ, ifK_bool, cond_true, binV_ii]
 rw [intsV_eql, show decide (((0 : Nat) : Int) = 65533) = false by decide]
 simp only [oB, ifK_bool, cond_false]
 rw [dec_bad1] at g1
 rw [L60_20_eq, nextK_end (put_on (put_on ho)) g1 (by omega)]
 simp only [oB, extractV, List.getElem?_cons_zero, ifK_bool, cond_false]
theorem L78_enc (self : EV) (N : Nat) (nk : Ac → St → Rs) (ek : Nat → Ac → St → Rs) (n : Nat) (a : List UInt8) (l : UInt8) (h1 : 1 ≤ a.length) (h3 : a.length ≤ 3) (hl : 128 ≤ l.toNat) (S : St) (ho : S.on = false)
 (h63 : ∀ (s : List UInt8) (c : UInt8) S, self.f 36 [sv s, .int .u8 (c.toNat : Int)] S = some (.ret (.int .i64 (ixB s c)), S)) :
 L60_48 self N nk ek (n + 1) (sv bad2) (sv (a ++ [l])) (.int .i64 (a.length : Int)) (.int .i64 (a.length : Int)) S = some (.ret (.int .i64 (-1)), S) ∨ L60_48 self N nk ek (n + 1) (sv bad2) (sv (a ++ [l])) (.int .i64 (a.length : Int)) (.int .i64 (a.length : Int)) S = ek 1 (fr 187 []) S := by
 rw [L60_48_eq]
 simp only [lnStr_sv, oB, binV_ii, intsV_lss, show bad2.length = 2 from rfl]
 by_cases h2 : a.length = 1
 · left
   have hlast : (a ++ [l])[1]'(by simp; omega) = l := by rw [List.getElem_append_right (by omega)]; simp [h2]
   rw [h2]
   simp only [show decide (((1 : Nat) : Int) < ((2 : Nat) : Int)) = true by decide, ifK_bool, cond_true, ixS_sv bad2 .i64 1 (by decide), ixS_sv (a ++ [l]) .i64 1 (by simp; omega), hlast, oB, binV_ii, intsV_neq, relog_onS ho]
   have hne : decide (((bad2[1]'(by decide)).toNat : Int) = (l.toNat : Int)) = false := by
    rw [decide_eq_false_iff_not]
    show ¬ ((0 : Nat) : Int) = (l.toNat : Int)
    omega
   rw [hne]
   simp only [Bool.not_false, cond_true, intsV_add, oB]
   rw [show IntKind.i64.wrap (((1 : Nat) : Int) + 1) = ((2 : Nat) : Int) by decide, slice_sv und9 bad2 (bounds_lo .i64 (show 2 ≤ bad2.length by decide)) (Nat.le_refl _)]
   simp only [oB, ixS_sv (a ++ [l]) .i64 1 (by simp; omega), hlast]
   rw [show List.take (bad2.length - 2) (List.drop 2 bad2) = [] from rfl, h63 [] l, show ixB [] l = -1 from rfl]
   simp only [callD_ret, binV_ii, intsV_lss, show decide ((-1 : Int) < 0) = true by decide, oB, ifK_bool, cond_true, relog_onS ho, onS_onS]
 · right
   rw [show decide ((a.length : Int) < ((2 : Nat) : Int)) = false by simp; omega]
   rfl
theorem convertV_rune {E : Env} {src dst : TypeId} {k k' : IntKind} (hs : und E src = some (.int k)) (hd : und E dst = some .string) (n : Int) (S : St) : convertV E src dst (.int k' n) S = some (sv (Utf8.encode n).data.toList, S) := by
 unfold convertV sv
 rw [hs, hd]
 rfl
structure RuneIn where
 r : Nat
 hr : r ≤ 1114111
noncomputable def kfIndexRune : KF := specKF (fun p : RuneIn => [sv bad2, .int .i32 (p.r : Int)]) (fun p => En.ret (.int .i64 (ixR p.r)))
theorem kfIndexRune_run (r : Nat) (hr : r ≤ 1114111) (S : St) : kfIndexRune.run [sv bad2, .int .i32 (r : Int)] S = some (.ret (.int .i64 (ixR r)), S) :=
 specKF_run (enc := fun p : RuneIn => [sv bad2, .int .i32 (p.r : Int)]) (out := fun p => En.ret (.int .i64 (ixR p.r))) (fun p q h => by
  simp only [List.cons.injEq, V.int.injEq, true_and, and_true] at h
  rw [show p.r = q.r by omega]) ⟨r, hr⟩ S
theorem F78_far (self : EV) (m : Nat) (x : V) (b1 v : Bool) (a : List UInt8) (l : UInt8) (h1 : 1 ≤ a.length) (h3 : a.length ≤ 3) (hl : 128 ≤ l.toNat) (S : St) (ho : S.on = false)
 (h63 : ∀ (s : List UInt8) (c : UInt8) S, self.f 36 [sv s, .int .u8 (c.toNat : Int)] S = some (.ret (.int .i64 (ixB s c)), S))
 (e0 : binV E0 .leq 21 true false (.int .i32 0) x = some (.bool true)) (e1 : binV E0 .lss 21 false true x (.int .i32 128) = some (.bool false)) (e2 : binV E0 .eql 21 false true x (.int .i32 65533) = some (.bool b1))
 (h82 : self.f 65 [x] S = some (.ret (.bool v), S)) (hcv : convertV E0 21 9 x S = some (sv (a ++ [l]), S)) :
 ∃ S', F60 self (m + 3) (sv bad2) x S = some (.ret (.int .i64 (-1)), S') ∧ Grew (fun _ => False) S S' := by
 rw [F60_eq, e0]
 simp only [oB, guardV_t, cond_true]
 rw [e1]
 simp only [oB, pickV, cond_true, ifK_bool, cond_false]
 rw [e2]
 cases b1 with
 | true =>
  simp only [oB, ifK_bool, cond_true, rangeStr_sv]
  have hg := grew_nw ho (fun _ => False) (.siter bad2.length (pack bad2) 0)
  obtain ⟨S', h1, h2⟩ := L78_bad self (m + 3) (R60_16 self (m + 3) (finN E0 self Tryd.f60) (exB 0 (finN E0 self Tryd.f60) noEx)) (exB 9 (R60_16 self (m + 3) (finN E0 self Tryd.f60) (exB 0 (finN E0 self Tryd.f60) noEx)) (exB 0 (finN E0 self Tryd.f60) noEx)) m S.next (nw S (.siter bad2.length (pack bad2) 0)) (nw_on ho _) (by rw [nw_get, if_pos rfl]; rfl) (by show S.next < S.next + 1; omega)
  refine ⟨S', ?_, hg.own (Nat.le_refl _) h2⟩
  rw [h1, exB_same, R60_16_eq]
 | false =>
  simp only [oB, ifK_bool, cond_false]
  rw [h82]
  simp only [callP_ret, unV, oB, ifK_bool]
  cases v with
  | false => exact ⟨S, rfl, Grew.refl _ _⟩
  | true =>
   refine ⟨S, ?_, Grew.refl _ _⟩
   rw [Bool.not_true, cond_false, hcv, oB, lnStr_sv, oB, binV_ii, intsV_sub]
   rw [show (((a ++ [l]).length : Nat) : Int) - 1 = (a.length : Int) by simp, wrap_i64 (by omega) (by omega), oB]
   have hL := L78_enc self (m + 3) (R60_46 self (m + 3) (finN E0 self Tryd.f60) (exB 0 (finN E0 self Tryd.f60) noEx)) (exB 1 (R60_46 self (m + 3) (finN E0 self Tryd.f60) (exB 0 (finN E0 self Tryd.f60) noEx)) (exB 0 (finN E0 self Tryd.f60) noEx)) (m + 2) a l h1 h3 hl S ho h63
   rcases hL with hL | hL
   · exact hL
   · exact hL.trans (by rw [exB_same, R60_46_eq])
theorem F78_spec (self : EV) (m r : Nat) (S : St) (ho : S.on = false)
 (h63 : ∀ (s : List UInt8) (c : UInt8) S, self.f 36 [sv s, .int .u8 (c.toNat : Int)] S = some (.ret (.int .i64 (ixB s c)), S))
 (h82 : ∀ S, ∃ v : Bool, self.f 65 [.int .i32 (r : Int)] S = some (.ret (.bool v), S)) :
 ∃ S', F60 self (m + 3) (sv bad2) (.int .i32 (r : Int)) S = some (.ret (.int .i64 (ixR r)), S') ∧ Grew (fun _ => False) S S' := by
 have e0 : binV E0 .leq 21 true false (.int .i32 0) (.int .i32 (r : Int)) = some (.bool true) := by rw [binV_ii, intsV_leq, show decide ((0 : Int) ≤ (r : Int)) = true by simp]
 by_cases h128 : r < 128
 · have hc : (UInt8.ofNat r).toNat = r := toNat_ofNat (by omega)
   have h := h63 bad2 (UInt8.ofNat r) S
   rw [ixB_bad2, hc] at h
   refine ⟨S, ?_, Grew.refl _ _⟩
   rw [F60_eq, e0]
   simp only [oB, guardV_t, cond_true, binV_ii, intsV_lss]
   rw [show decide ((r : Int) < 128) = true by simp; omega]
   simp only [oB, pickV, cond_true, ifK_bool, cvI_int]
   rw [wrap_u8 (by omega) (by omega), h]
   rfl
 · have e1 : binV E0 .lss 21 false true (.int .i32 (r : Int)) (.int .i32 128) = some (.bool false) := by rw [binV_ii, intsV_lss, show decide ((r : Int) < 128) = false by simp; omega]
   have e2 : binV E0 .eql 21 false true (.int .i32 (r : Int)) (.int .i32 65533) = some (.bool (decide ((r : Int) = 65533))) := by rw [binV_ii, intsV_eql]
   obtain ⟨v, hv⟩ := h82 S
   obtain ⟨a, l, ha, h1, h3, hl⟩ := enc_last r (by omega)
   have hcv : convertV E0 21 9 (.int .i32 (r : Int)) S = some (sv (a ++ [l]), S) := by
    rw [← ha]
    exact convertV_rune und21 und9 _ S
   have hx : ixR r = -1 := by unfold ixR; rw [if_neg (by omega), if_neg (by omega)]
   rw [hx]
   exact F78_far self m _ _ v a l h1 h3 hl S ho h63 e0 e1 e2 hv hcv
theorem kn78 {K : FuncId → Option KF} (hK : KnOk Tryd.prog E0 K) (h63 : K 36 = some kfIndexByte) (h82 : K 65 = none) : KnWell Tryd.prog E0 60 kfIndexRune :=
 specKF_text (fn := Tryd.f60) (c := C60) (d := B60) E0_ok hK (by kernel_rfl) (by kernel_rfl) (annot_isOf C60 _ (by kernel_rfl)) fun p S ho => by
  obtain ⟨S', h1, h2⟩ := F78_spec (ev E0 K 1) (rounds - 3) p.r S ho (fun s c S => by rw [ev_known h63, kfIndexByte_run]) (fun S => by
   obtain ⟨v, hv⟩ := F82_spec (ev E0 K 0) rounds p.r S
   exact ⟨v, ev_read (c := C65) (d := B65) (by kernel_rfl) (by kernel_rfl) (annot_isOf C65 _ (by kernel_rfl)) h82 hv⟩)
  rw [show rounds - 3 + 3 = rounds by unfold rounds; omega] at h1
  exact ⟨1, .ret (.int .i64 (ixR p.r)), S', h1, h2, Fz.same (.int _ _)⟩
end Go.Proofs.YtcbaodegkfokjaaDoor.W
namespace Go.Proofs.YtcbaodegkfokjaaDoor.W
open Go.Proofs.YtcbaodegkfokjaaDoor.Ev
theorem byteP_at {l : List UInt8} {i : Nat} (h : i < l.length) : byteP (pack l) i = l[i].toNat := pack_at i l l[i] (List.getElem?_eq_getElem h)
theorem decP_ascii {l : List UInt8} {i : Nat} (h : i < l.length) (hc : l[i].toNat < 128) : decP l.length (pack l) i = (l[i].toNat, 1) := by
 unfold decP
 rw [byteP_at h, blt_true.2 hc]; rfl
theorem contP_at {l : List UInt8} {j : Nat} (h : contP l.length (pack l) j = true) : ∃ hj : j < l.length, 128 ≤ l[j].toNat := by
 unfold contP at h
 rw [Bool.and_eq_true, blt_true, Go.Proofs.YtcbaodegkfokjaaDoor.Ev.beq_true] at h
 obtain ⟨h1, h2⟩ := h
 rw [byteP_at h1] at h2
 exact ⟨h1, by omega⟩
structure Far (l : List UInt8) (i : Nat) (p : Nat × Nat) : Prop where
 lo : 128 ≤ p.1
 hi : p.1 ≤ 1114111
 pos : 1 ≤ p.2
 fit : i + p.2 ≤ l.length
 all : ∀ j, j < p.2 → ∃ hj : i + j < l.length, 128 ≤ l[i + j].toNat
theorem far_one {l : List UInt8} {i : Nat} (h : i < l.length) (hc : 128 ≤ l[i].toNat) {r : Nat} (h1 : 128 ≤ r) (h2 : r ≤ 1114111) : Far l i (r, 1) :=
 ⟨h1, h2, Nat.le_refl _, by show i + 1 ≤ _; omega, fun j hj => by
  have hj' : j < 1 := hj
  obtain rfl : j = 0 := by omega
  exact ⟨h, hc⟩⟩
theorem far_if {l : List UInt8} {i : Nat} (h : i < l.length) (hc : 128 ≤ l[i].toNat) {w X : Nat} (b : Bool) (hb : b = true → 128 ≤ X ∧ X ≤ 1114111) (h1 : 1 ≤ w) (hfit : i + w ≤ l.length)
 (hall : ∀ j, j < w → ∃ hj : i + j < l.length, 128 ≤ l[i + j].toNat) : Far l i (bif b then (X, w) else (65533, 1)) := by
 cases b with
 | true => exact ⟨(hb rfl).1, (hb rfl).2, h1, hfit, hall⟩
 | false => exact far_one h hc (by omega) (by omega)
theorem validP_le {X : Nat} (h : validP X = true) : X ≤ 1114111 := by
 unfold validP at h
 rw [Bool.or_eq_true, blt_true, Bool.and_eq_true, ble_true, ble_true] at h
 omega
theorem decP_far {l : List UInt8} {i : Nat} (h : i < l.length) (hc : 128 ≤ l[i].toNat) : Far l i (decP l.length (pack l) i) := by
 unfold decP
 rw [byteP_at h]
 have hlt := l[i].toNat_lt
 have h0 : Nat.blt l[i].toNat 128 = false := by
  cases hb : Nat.blt l[i].toNat 128 with
  | false => rfl
  | true => rw [blt_true] at hb; omega
 rw [h0, cond_false]
 cases h2 : (Nat.beq (l[i].toNat / 32) 6 && contP l.length (pack l) (i + 1)) with
 | true =>
  rw [Bool.and_eq_true, Go.Proofs.YtcbaodegkfokjaaDoor.Ev.beq_true] at h2
  obtain ⟨c1, c2⟩ := contP_at h2.2
  rw [cond_true]
  refine far_if h hc _ (fun hb => ?_) (by omega) (by omega) fun j hj => ?_
  · rw [ble_true] at hb; omega
  · match j, hj with
    | 0, _ => exact ⟨h, hc⟩
    | 1, _ => exact ⟨c1, c2⟩
 | false =>
 rw [cond_false]
 cases h3 : (Nat.beq (l[i].toNat / 16) 14 && contP l.length (pack l) (i + 1) && contP l.length (pack l) (i + 2)) with
 | true =>
  rw [Bool.and_eq_true, Bool.and_eq_true] at h3
  obtain ⟨c1, c2⟩ := contP_at h3.1.2
  obtain ⟨d1, d2⟩ := contP_at h3.2
  rw [cond_true]
  refine far_if h hc _ (fun hb => ?_) (by omega) (by omega) fun j hj => ?_
  · rw [Bool.and_eq_true, ble_true] at hb
    exact ⟨Nat.le_trans (by omega) hb.1, validP_le hb.2⟩
  · match j, hj with
    | 0, _ => exact ⟨h, hc⟩
    | 1, _ => exact ⟨c1, c2⟩
    | 2, _ => exact ⟨d1, d2⟩
 | false =>
 rw [cond_false]
 cases h4 : (Nat.beq (l[i].toNat / 8) 30 && contP l.length (pack l) (i + 1) && contP l.length (pack l) (i + 2) && contP l.length (pack l) (i + 3)) with
 | true =>
  rw [Bool.and_eq_true, Bool.and_eq_true, Bool.and_eq_true] at h4
  obtain ⟨c1, c2⟩ := contP_at h4.1.1.2
  obtain ⟨d1, d2⟩ := contP_at h4.1.2
  obtain ⟨e1, e2⟩ := contP_at h4.2
  rw [cond_true]
  refine far_if h hc _ (fun hb => ?_) (by omega) (by omega) fun j hj => ?_
  · rw [Bool.and_eq_true, ble_true] at hb
    exact ⟨Nat.le_trans (by omega) hb.1, validP_le hb.2⟩
  · match j, hj with
    | 0, _ => exact ⟨h, hc⟩
    | 1, _ => exact ⟨c1, c2⟩
    | 2, _ => exact ⟨d1, d2⟩
    | 3, _ => exact ⟨e1, e2⟩
 | false =>
  rw [cond_false]
  exact far_one h hc (by omega) (by omega)
def anyAt (s : List UInt8) (pos : Nat) : Option Nat := ((s.drop pos).findIdx? badByte).map fun j => pos + j
theorem anyAt_end {s : List UInt8} {pos : Nat} (h : s.length ≤ pos) : anyAt s pos = none := by unfold anyAt; rw [List.drop_eq_nil_of_le h]; rfl
theorem anyAt_hit {s : List UInt8} {pos : Nat} (h : pos < s.length) (hb : badByte s[pos] = true) : anyAt s pos = some pos := by
 unfold anyAt
 rw [List.drop_eq_getElem_cons h, List.findIdx?_cons, if_pos hb]; rfl
theorem anyAt_one {s : List UInt8} {pos : Nat} (h : pos < s.length) (hb : badByte s[pos] = false) : anyAt s pos = anyAt s (pos + 1) := by
 unfold anyAt
 rw [List.drop_eq_getElem_cons h, List.findIdx?_cons, if_neg (by rw [hb]; simp), Option.map_map]
 congr 1
 funext j
 show pos + (j + 1) = pos + 1 + j
 omega
theorem anyAt_skip {s : List UInt8} : ∀ (w pos : Nat), (∀ j, j < w → ∃ hj : pos + j < s.length, badByte s[pos + j] = false) → anyAt s pos = anyAt s (pos + w)
 | 0, pos, _ => rfl
 | w + 1, pos, h => by
  obtain ⟨h0, hb⟩ := h 0 (by omega)
  rw [anyAt_one (pos := pos) h0 hb, anyAt_skip w (pos + 1) fun j hj => by
   obtain ⟨h1, h2⟩ := h (j + 1) (by omega)
   have e : pos + 1 + j = pos + (j + 1) := by omega
   exact ⟨by omega, by simp only [e]; exact h2⟩]
  congr 1
  omega
theorem bad_iff (c : UInt8) : badByte c = decide (0 ≤ ixR c.toNat) := by
 unfold badByte ixR
 rw [u8_eq c 47, u8_eq c 0, show UInt8.toNat 47 = 47 from rfl, show UInt8.toNat 0 = 0 from rfl]
 by_cases h1 : c.toNat = 47
 · simp [h1]
 · by_cases h2 : c.toNat = 0
   · simp [h2]
   · simp only [h1, h2, if_false]
     rw [Bool.eq_iff_iff]
     simp
     omega
theorem far_ok {c : UInt8} (h : 128 ≤ c.toNat) : badByte c = false := by
 rw [bad_iff]
 unfold ixR
 rw [if_neg (by omega), if_neg (by omega)]; rfl
theorem ixR_far {r : Nat} (h : 128 ≤ r) : ixR r = -1 := by unfold ixR; rw [if_neg (by omega), if_neg (by omega)]
def outAny (L : Rs) (E : St → Rs) (o : Option Nat) (S' : St) : Prop :=
 match o with
 | some j => L = some (.ret (.int .i64 (j : Int)), S')
 | none => L = E S'
theorem L77_spec (self : EV) (N : Nat) (nk : Ac → St → Rs) (ek : Nat → Ac → St → Rs) (s : List UInt8) (b : Nat)
 (h78 : ∀ (r : Nat) S, r ≤ 1114111 → self.f 60 [sv bad2, .int .i32 (r : Int)] S = some (.ret (.int .i64 (ixR r)), S)) :
 ∀ (k pos n : Nat) (S : St), s.length ≤ pos + k → k < n → pos ≤ s.length → S.on = false → S.heap.get b = some (.siter s.length (pack s) pos) →
 ∃ S', outAny (L56_27 self N nk ek n (sv bad2) (.ptr b 0) S) (fun S' => ek 2 (fr 55 []) S') (anyAt s pos) S' ∧ Grew (fun x => x = b) S S'
 | k, pos, 0, S, hk, hn, hp, ho, hb => by omega
 | k, pos, n + 1, S, hk, hn, hp, ho, hb => by
  by_cases hend : pos = s.length
  · subst hend
    refine ⟨S, ?_, Grew.refl _ _⟩
    rw [anyAt_end (Nat.le_refl _), L56_27_eq, nextK_end ho hb (Nat.le_refl _)]
    rfl
  · have hlt : pos < s.length := by omega
    obtain ⟨k, rfl⟩ : ∃ k', k = k' + 1 := ⟨k - 1, by omega⟩
    have hstep : ∀ r w : Nat, decP s.length (pack s) pos = (r, w) → r ≤ 1114111 → 1 ≤ w → pos + w ≤ s.length →
     (ixR r = -1 → anyAt s pos = anyAt s (pos + w)) → (0 ≤ ixR r → anyAt s pos = some pos) → (ixR r = -1 ∨ 0 ≤ ixR r) →
     ∃ S', outAny (L56_27 self N nk ek (n + 1) (sv bad2) (.ptr b 0) S) (fun S' => ek 2 (fr 55 []) S') (anyAt s pos) S' ∧ Grew (fun x => x = b) S S' := by
     intro r w hd hr hw hfit hno hyes hor
     have hgr := grew_put (s := S) b (.siter s.length (pack s) (pos + w))
     rw [L56_27_eq, nextK_at ho hb hlt, hd]
     rw [oB]
     simp only [extractV, List.getElem?_cons_zero, List.getElem?_cons_succ]
     rw [oB, ifK_bool, cond_true, oB, oB, h78 r _ hr, callP_ret, binV_ii, intsV_geq, oB, ifK_bool]
     rcases hor with hneg | hge
     · rw [hneg, show decide ((0 : Int) ≤ -1) = false by decide, cond_false, hno hneg]
       obtain ⟨S', h1, h2⟩ := L77_spec self N nk ek s b h78 k (pos + w) n (S.put b (.siter s.length (pack s) (pos + w))) (by omega) (by omega) hfit ho (by rw [put_get, if_pos rfl])
       exact ⟨S', h1, hgr.trans h2⟩
     · rw [decide_eq_true hge, cond_true, hyes hge]
       exact ⟨_, rfl, hgr⟩
    by_cases hc : s[pos].toNat < 128
    · refine hstep _ 1 (decP_ascii hlt hc) (by omega) (by omega) (by omega) (fun h => anyAt_one hlt ?_) (fun h => anyAt_hit hlt ?_) ?_
      · rw [bad_iff, h]; rfl
      · rw [bad_iff]; exact decide_eq_true h
      · unfold ixR; split
        · right; omega
        · split
          · right; omega
          · left; rfl
    · have hf := decP_far hlt (by omega)
      have hx := ixR_far hf.lo
      exact hstep (decP s.length (pack s) pos).1 (decP s.length (pack s) pos).2 rfl hf.hi hf.pos hf.fit (fun _ => anyAt_skip _ _ fun j hj => by
       obtain ⟨h1, h2⟩ := hf.all j hj
       exact ⟨h1, far_ok h2⟩) (fun h => absurd h (by rw [hx]; decide)) (.inl hx)
end Go.Proofs.YtcbaodegkfokjaaDoor.W
