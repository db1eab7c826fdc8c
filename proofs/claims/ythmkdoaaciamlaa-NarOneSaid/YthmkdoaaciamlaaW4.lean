/-
  WHAT THE FUNCTIONS COME TO: each is read by the evaluator, printed, and told as a function of data, part 4 of 13 (no condition).
-/
import Derived.Test.YthmkdoaaciamlaaW3
import Derived.Test.YthmkdoaaciamlaaProg
import Derived.KernelRfl
namespace Go.Proofs.Ythmkdoaaciamlaa.W
open Go.Proofs.Ythmkdoaaciamlaa.Ev
set_option maxRecDepth 100000
noncomputable section
noncomputable def C6 : Code := Try.f6.body.getD .skip
noncomputable def B6 : D := (annot C6 [[], [], [], [], [], [], [], [], [], [], [], [], [], [], [], [], [], [], [], []]).1
noncomputable def F6 (self : EV) (N : Nat) (x0 x1 x2 : V) (S : St) : Rs := runF E0 self N Try.f6 B6 [x0, x1, x2] S
theorem F6_eq (self : EV) (N : Nat) (x0 x1 x2 : V) (S : St) : F6 self N x0 x1 x2 S =
(lnStr x0 S).bind fun p3 =>
(foldK minV p3.1 [(.int .i64 3000)] p3.2).bind fun p4 =>
(sliceV E0 9 x0 none (some p4.1) none p4.2).bind fun p5 =>
callP (self.f 12 [p5.1] p5.2) fun t8 S8 =>
(extractV t8 0).bind fun t10 =>
(extractV t8 1).bind fun t11 =>
(some (nwP 24 5 (Tr.ofListFrom .nil [(sv []), (.int .i64 0), (.bool false), (sv []), .nilslice] 0) S8)).bind fun p12 =>
(stP 5 p12.1 t10 p12.2).bind fun p13 =>
(binV E0 .neq 26 false true t11 (.int .i64 0)).bind fun t16 =>
ifK t16 (
(binV E0 .eql 26 false true t11 (.int .i64 4)).bind fun t18 =>
(guardV true t18).bind fun g20 => (bif g20 then faP 1 false 1 p12.1 else some (.tuple [])).bind fun t20 =>
(guardV true t18).bind fun g21 => (bif g21 then ld1 t20 p13.2 else some (.tuple [], p13.2)).bind fun p21 =>
(guardV true t18).bind fun g22 => (bif g22 then binV E0 .eql 3 false true p21.1 (.int .i64 0) else some (.tuple [])).bind fun t22 =>
(pickV t18 (some t22) (some (.bool false))).bind fun t23 =>
(guardV true t23).bind fun g25 => callP (bif g25 then self.f 11 [] p21.2 else some (.ret (.tuple []), p21.2)) fun t25 S25 =>
(pickV t23 (some t25) (some (.bool false))).bind fun t26 =>
some (.ret t26, S25)) (
(binV E0 .eql 9 false true p5.1 (sv [])).bind fun t29 =>
ifK t29 (
some (.ret (.bool false), p13.2)) (
(ldA 5 p12.1 p13.2).bind fun p31 =>
callP (self.f 9 [p31.1] p31.2) fun t32 S32 =>
(extractV t32 0).bind fun t34 =>
(extractV t32 1).bind fun t35 =>
(cvI .i64 x1 S32).bind fun p40 =>
(lnStr p5.1 p40.2).bind fun p42 =>
(binV E0 .rem 3 false false p40.1 p42.1).bind fun t43 =>
(sliceV E0 9 p5.1 none (some t43) none p42.2).bind fun p44 =>
callP (self.f 12 [p44.1] p44.2) fun t45 S45 =>
(extractV t45 0).bind fun t47 =>
(extractV t45 1).bind fun t48 =>
(some (nwP 24 5 (Tr.ofListFrom .nil [(sv []), (.int .i64 0), (.bool false), (sv []), .nilslice] 0) S45)).bind fun p49 =>
(stP 5 p49.1 t47 p49.2).bind fun p50 =>
(bsP 5 1 1 (one (.int .u8 0)) [(0, x2)] p50.2).bind fun p54 =>
(convertV E0 37 9 p54.1 p54.2).bind fun p55 =>
(binV E0 .add 9 false false p5.1 p55.1).bind fun t56 =>
callP (self.f 12 [t56] p55.2) fun t57 S57 =>
(extractV t57 0).bind fun t59 =>
(extractV t57 1).bind fun t60 =>
(some (nwP 24 5 (Tr.ofListFrom .nil [(sv []), (.int .i64 0), (.bool false), (sv []), .nilslice] 0) S57)).bind fun p61 =>
(stP 5 p61.1 t59 p61.2).bind fun p62 =>
(binV E0 .neq 26 false true t35 (.int .i64 0)).bind fun t65 =>
(guardV false t65).bind fun g67 => (bif g67 then some t34 else some (.tuple [])).bind fun t67 =>
(guardV false t65).bind fun g68 => (bif g68 then some p5.1 else some (.tuple [])).bind fun t68 =>
(guardV false t65).bind fun g69 => (bif g69 then binV E0 .neq 9 false false t67 t68 else some (.tuple [])).bind fun t69 =>
(pickV t65 (some (.bool true)) (some t69)).bind fun t70 =>
(guardV false t70).bind fun g72 => (bif g72 then ldA 5 p12.1 p62.2 else some (.tuple [], p62.2)).bind fun p72 =>
(guardV false t70).bind fun g73 => callP (bif g73 then self.f 15 [p72.1] p72.2 else some (.ret (.tuple []), p72.2)) fun t73 S73 =>
(guardV false t70).bind fun g74 => (bif g74 then binV E0 .neq 26 false true t73 (.int .i64 0) else some (.tuple [])).bind fun t74 =>
(pickV t70 (some (.bool true)) (some t74)).bind fun t75 =>
(guardV false t75).bind fun g77 => (bif g77 then some t48 else some (.tuple [])).bind fun t77 =>
(guardV false t75).bind fun g78 => (bif g78 then binV E0 .neq 26 false true t77 (.int .i64 4) else some (.tuple [])).bind fun t78 =>
(pickV t75 (some (.bool true)) (some t78)).bind fun t79 =>
(guardV false t79).bind fun g81 => (bif g81 then some t60 else some (.tuple [])).bind fun t81 =>
(guardV false t79).bind fun g82 => (bif g82 then binV E0 .neq 26 false true t81 (.int .i64 4) else some (.tuple [])).bind fun t82 =>
(pickV t79 (some (.bool true)) (some t82)).bind fun t83 =>
ifK t83 (
some (.ret (.bool false), S73)) (
(convertV E0 9 37 p5.1 S73).bind fun p86 =>
(cvI .i64 x1 p86.2).bind fun p89 =>
(lnStr p5.1 p89.2).bind fun p91 =>
(binV E0 .rem 3 false false p89.1 p91.1).bind fun t92 =>
(ixP 1 p86.1 t92).bind fun t98 =>
(ld1 t98 p91.2).bind fun p99 =>
(binV E0 .or 5 false true x2 (.int .u8 1)).bind fun t101 =>
(binV E0 .xor 5 false false p99.1 t101).bind fun t102 =>
(ixP 1 p86.1 t92).bind fun t103 =>
(stP 1 t103 t102 p99.2).bind fun p104 =>
(convertV E0 37 9 p86.1 p104.2).bind fun p106 =>
callP (self.f 12 [p106.1] p106.2) fun t107 S107 =>
(extractV t107 0).bind fun t109 =>
(extractV t107 1).bind fun t110 =>
(some (nwP 24 5 (Tr.ofListFrom .nil [(sv []), (.int .i64 0), (.bool false), (sv []), .nilslice] 0) S107)).bind fun p111 =>
(stP 5 p111.1 t109 p111.2).bind fun p112 =>
(binV E0 .neq 26 false true t110 (.int .i64 0)).bind fun t115 =>
(guardV false t115).bind fun g117 => (bif g117 then ldA 5 p12.1 p112.2 else some (.tuple [], p112.2)).bind fun p117 =>
(guardV false t115).bind fun g118 => (bif g118 then ldA 5 p111.1 p117.2 else some (.tuple [], p117.2)).bind fun p118 =>
(guardV false t115).bind fun g119 => callP (bif g119 then self.f 16 [p117.1, p118.1] p118.2 else some (.ret (.tuple []), p118.2)) fun t119 S119 =>
(guardV false t115).bind fun g120 => (bif g120 then unV .not t119 else some (.tuple [])).bind fun t120 =>
(pickV t115 (some (.bool true)) (some t120)).bind fun t121 =>
(guardV true t121).bind fun g123 => callP (bif g123 then self.f 11 [] S119 else some (.ret (.tuple []), S119)) fun t123 S123 =>
(pickV t121 (some t123) (some (.bool false))).bind fun t124 =>
some (.ret t124, S123)))) := by kernel_rfl
end
end Go.Proofs.Ythmkdoaaciamlaa.W
namespace Go.Proofs.Ythmkdoaaciamlaa.W
open Go.Proofs.Ythmkdoaaciamlaa.Ev
theorem E0_ok : EnvOk Try.prog E0 := envOf_ok (by kernel_rfl) (by kernel_rfl) (by kernel_rfl) (fun p hp => by
 simp only [List.mem_cons, List.not_mem_nil, or_false] at hp
 rcases hp with rfl
 exact ⟨fun _ args w => by kernel_rfl, fun h => absurd h (by decide), fun h => absurd h (by decide), fun h => absurd h (by decide), fun h => absurd h (by decide)⟩
 ) (by kernel_rfl) (by kernel_rfl) (by kernel_rfl)
inductive Nd where
 | mk (name : List UInt8) (kind : Int) (exec : Bool) (data : List UInt8) (kids : List Nd)
def Nd.name : Nd → List UInt8 | .mk n _ _ _ _ => n
def Nd.kind : Nd → Int | .mk _ k _ _ _ => k
def Nd.exec : Nd → Bool | .mk _ _ e _ _ => e
def Nd.data : Nd → List UInt8 | .mk _ _ _ d _ => d
def Nd.kids : Nd → List Nd | .mk _ _ _ _ l => l
def kidsV : List V → V
 | [] => .nilslice
 | x :: l => .list 5 (x :: l)
mutual
noncomputable def encN : Nd → V
 | .mk n k e d l => vAgg [sv n, .int .i64 k, .bool e, sv d, kidsV (encL l)]
noncomputable def encL : List Nd → List V
 | [] => []
 | x :: l => encN x :: encL l
end
noncomputable def cellsN (x : Nd) : List V := [sv x.name, .int .i64 x.kind, .bool x.exec, sv x.data, kidsV (encL x.kids)]
theorem encN_cells (x : Nd) : encN x = vAgg (cellsN x) := by cases x; simp only [encN, cellsN, Nd.name, Nd.kind, Nd.exec, Nd.data, Nd.kids]
theorem encL_map : ∀ l : List Nd, encL l = l.map encN
 | [] => rfl
 | x :: l => by rw [encL, encL_map l]; rfl
theorem encL_length (l : List Nd) : (encL l).length = l.length := by rw [encL_map, List.length_map]
mutual
def cntN : Nd → Nat
 | .mk _ _ _ _ l => 1 + cntL l
def cntL : List Nd → Nat
 | [] => 0
 | x :: l => cntN x + cntL l
end
theorem cntN_eq (x : Nd) : cntN x = 1 + cntL x.kids := by cases x; rw [cntN]; rfl
mutual
def Nd.ok : Nd → Prop
 | .mk n k _ d l => n.length < 9223372036854775808 ∧ (-9223372036854775808 ≤ k ∧ k < 9223372036854775808) ∧ d.length ≤ 3000 ∧ l.length ≤ 3000 ∧ 1 + cntL l < 4611686018427387904 ∧ okL l
def okL : List Nd → Prop
 | [] => True
 | x :: l => x.ok ∧ okL l
end
theorem okL_iff : ∀ l : List Nd, okL l ↔ ∀ x ∈ l, x.ok
 | [] => by simp [okL]
 | x :: l => by simp [okL, okL_iff l]
structure NdOk (x : Nd) : Prop where
 name : x.name.length < 9223372036854775808
 kind : -9223372036854775808 ≤ x.kind ∧ x.kind < 9223372036854775808
 data : x.data.length ≤ 3000
 few : x.kids.length ≤ 3000
 cnt : 1 + cntL x.kids < 4611686018427387904
 kids : ∀ y ∈ x.kids, y.ok
theorem Nd.ok.at {x : Nd} (h : x.ok) : NdOk x := by
 cases x with
 | mk n k e d l =>
  rw [Nd.ok] at h
  obtain ⟨h1, h2, h3, h4, hc, h5⟩ := h
  exact ⟨h1, h2, h3, h4, hc, (okL_iff l).1 h5⟩
theorem vAgg_inj {l m : List V} (h : vAgg l = vAgg m) : l = m := by
 unfold vAgg at h
 simp only [V.agg.injEq] at h
 refine List.ext_getElem? fun i => ?_
 rw [← vAgg_get l i, ← vAgg_get m i, h.2]
theorem kidsV_inj : ∀ {l m : List V}, kidsV l = kidsV m → l = m
 | [], [], _ => rfl
 | [], _ :: _, h => by simp [kidsV] at h
 | _ :: _, [], h => by simp [kidsV] at h
 | _ :: _, _ :: _, h => by simpa [kidsV] using h
mutual
theorem encN_inj : ∀ {x y : Nd}, encN x = encN y → x = y
 | .mk n k e d l, .mk n' k' e' d' l', h => by
  rw [encN, encN] at h
  have h := vAgg_inj h
  simp only [List.cons.injEq, V.int.injEq, V.bool.injEq, true_and, and_true] at h
  obtain ⟨h1, h2, h3, h4, h5⟩ := h
  rw [sv_inj h1, h2, h3, sv_inj h4, encL_inj (kidsV_inj h5)]
theorem encL_inj : ∀ {l m : List Nd}, encL l = encL m → l = m
 | [], [], _ => rfl
 | [], _ :: _, h => by simp [encL] at h
 | _ :: _, [], h => by simp [encL] at h
 | x :: l, y :: m, h => by
  simp only [encL, List.cons.injEq] at h
  rw [encN_inj h.1, encL_inj h.2]
end
section
variable {s : St}
structure NodeAt (s : St) (b : Nat) (x : Nd) : Prop where
 on : s.on = false
 bx : Bx s b 24 (cellsN x)
theorem big5 : 5 < big := by unfold big; decide
variable {b : Nat} {x : Nd}
theorem NodeAt.f0 (h : NodeAt s b x) : ld1 (.ptr b 0) s = some (sv x.name, s) := Bx.ld1 h.on h.bx 0 (by show 0 < 5; decide) big5
theorem NodeAt.f1 (h : NodeAt s b x) : ld1 (.ptr b 1) s = some (.int .i64 x.kind, s) := Bx.ld1 h.on h.bx 1 (by show 1 < 5; decide) big5
theorem NodeAt.f2 (h : NodeAt s b x) : ld1 (.ptr b 2) s = some (.bool x.exec, s) := Bx.ld1 h.on h.bx 2 (by show 2 < 5; decide) big5
theorem NodeAt.f3 (h : NodeAt s b x) : ld1 (.ptr b 3) s = some (sv x.data, s) := Bx.ld1 h.on h.bx 3 (by show 3 < 5; decide) big5
theorem NodeAt.f4 (h : NodeAt s b x) : ld1 (.ptr b 4) s = some (kidsV (encL x.kids), s) := Bx.ld1 h.on h.bx 4 (by show 4 < 5; decide) big5
theorem NodeAt.fA (h : NodeAt s b x) : ldA 5 (.ptr b 0) s = some (encN x, s) := by rw [encN_cells]; exact Bx.ldA h.on h.bx rfl big5
theorem NodeAt.o0 (h : NodeAt s b x) : ld1 (.ptr b 0) (onS s) = some (sv x.name, rd s b 0 1) := Bx.ld1On h.on h.bx 0 (by show 0 < 5; decide) big5
theorem NodeAt.o1 (h : NodeAt s b x) : ld1 (.ptr b 1) (onS s) = some (.int .i64 x.kind, rd s b 1 1) := Bx.ld1On h.on h.bx 1 (by show 1 < 5; decide) big5
theorem NodeAt.o2 (h : NodeAt s b x) : ld1 (.ptr b 2) (onS s) = some (.bool x.exec, rd s b 2 1) := Bx.ld1On h.on h.bx 2 (by show 2 < 5; decide) big5
theorem NodeAt.o3 (h : NodeAt s b x) : ld1 (.ptr b 3) (onS s) = some (sv x.data, rd s b 3 1) := Bx.ld1On h.on h.bx 3 (by show 3 < 5; decide) big5
theorem NodeAt.o4 (h : NodeAt s b x) : ld1 (.ptr b 4) (onS s) = some (kidsV (encL x.kids), rd s b 4 1) := Bx.ld1On h.on h.bx 4 (by show 4 < 5; decide) big5
theorem NodeAt.oA (h : NodeAt s b x) : ldA 5 (.ptr b 0) (onS s) = some (encN x, rd s b 0 5) := by rw [encN_cells]; exact Bx.ldAOn h.bx rfl big5
theorem NodeAt.grew {W : Nat → Prop} {t : St} (h : NodeAt s b x) (hb : b < s.next) (hw : ¬ W b) (g : Grew W s t) : NodeAt t b x := ⟨g.on.trans h.on, h.bx.grew hb hw g⟩
theorem node_box (ho : s.on = false) (x : Nd) : ∃ t, boxK 24 (encN x) s = some (.ptr s.next 0, t) ∧ NodeAt t s.next x ∧ Grew (fun _ => False) s t ∧ t.next = s.next + 1 := by
 obtain ⟨t, h1, h2, h3, h4⟩ := box_new ho 24 (cellsN x)
 rw [encN_cells]
 exact ⟨t, h1, ⟨h3.on.trans ho, h2⟩, h3, h4⟩
theorem node_new (ho : s.on = false) (z : Tr V) (x : Nd) : ∃ t, stP 5 (.ptr s.next 0) (encN x) (nwP 24 5 z s).2 = some (.tuple [], t) ∧ NodeAt t s.next x ∧ Grew (fun _ => False) s t ∧ t.next = s.next + 1 := by
 obtain ⟨t, h1, h2, h3, h4⟩ := var_new ho 24 5 z (cellsN x) rfl (by decide) big5
 rw [encN_cells]
 exact ⟨t, h1, ⟨h3.on.trans ho, h2⟩, h3, h4⟩
theorem lnS_kids (l : List Nd) : lnS (kidsV (encL l)) s = some (.int .i64 (l.length : Int), s) := by
 cases l with
 | nil => rfl
 | cons x l =>
  show some (V.int .i64 (.ofNat ((encN x :: encL l).length)), s) = _
  rw [List.length_cons, encL_length]; rfl
theorem ixP_kids (l : List Nd) (i : Nat) (h : i < l.length) : ixP 5 (kidsV (encL l)) (.int .i64 (i : Int)) = some (.cptr (encN l[i])) := by
 cases l with
 | nil => simp at h
 | cons x l =>
  show ixP 5 (.list 5 (encL (x :: l))) _ = _
  rw [ixP_list 5 (encL (x :: l)) .i64 i (by rw [encL_length]; exact h) (by decide)]
  congr 2
  simp only [encL_map, List.getElem_map]
theorem ldA_kid (x : Nd) : ldA 5 (.cptr (encN x)) s = some (encN x, s) := by rw [encN_cells]; exact ldA_cptr (cellsN x)
theorem faP_kid (x : Nd) : faP 0 false 1 (.cptr (encN x)) = some (.cptr (sv x.name)) := by rw [encN_cells]; exact faP_cptr (cellsN x) 0 (by show 0 < 5; decide)
theorem ld1_csv (l : List UInt8) : ld1 (.cptr (sv l)) s = some (sv l, s) := rfl
end
def deepN : Nat → Nd → Nat
 | 0, _ => 1
 | m + 1, x => if x.kind ≠ 2 ∨ m = 0 then 1 else x.kids.foldl (fun d y => max d (1 + deepN m y)) 1
theorem foldl_max_le {α : Type} (f : α → Nat) (B : Nat) : ∀ (l : List α) (d : Nat), d ≤ B → (∀ y ∈ l, 1 + f y ≤ B) → l.foldl (fun d y => max d (1 + f y)) d ≤ B
 | [], d, h, _ => h
 | y :: l, d, h, hl => foldl_max_le f B l _ (Nat.max_le.2 ⟨h, hl y (List.mem_cons_self ..)⟩) fun z hz => hl z (List.mem_cons_of_mem _ hz)
theorem deepN_le : ∀ (m : Nat) (x : Nd), deepN m x ≤ m + 1
 | 0, x => by simp [deepN]
 | m + 1, x => by
  rw [deepN]
  split
  · omega
  · exact foldl_max_le _ _ _ _ (by omega) fun y _ => by have := deepN_le m y; omega
structure DeepIn where
 m : Nat
 x : Nd
 h1 : 1 ≤ m
 h2 : m ≤ 14
 ok : x.ok
noncomputable def encDeep (p : DeepIn) : List V := [encN p.x, .int .i64 (p.m : Int)]
theorem encDeep_inj {p q : DeepIn} (h : encDeep p = encDeep q) : p.m = q.m ∧ p.x = q.x := by
 simp only [encDeep, List.cons.injEq, V.int.injEq, true_and, and_true] at h
 exact ⟨by omega, encN_inj h.1⟩
noncomputable def outDeep (p : DeepIn) : En := .ret (.int .i64 (deepN p.m p.x : Int))
noncomputable def kfDeep : KF := specKF encDeep outDeep
theorem kfDeep_run (m : Nat) (x : Nd) (h1 : 1 ≤ m) (h2 : m ≤ 14) (ok : x.ok) (S : St) : kfDeep.run [encN x, .int .i64 (m : Int)] S = some (.ret (.int .i64 (deepN m x : Int)), S) :=
 specKF_run (enc := encDeep) (out := outDeep) (fun p q h => by obtain ⟨h1, h2⟩ := encDeep_inj h; unfold outDeep; rw [h1, h2]) ⟨m, x, h1, h2, ok⟩ S
theorem L70_spec (self : EV) (N : Nat) (nk : Ac → St → Rs) (ek : Nat → Ac → St → Rs) (all : List Nd) (hall : all.length ≤ 3000) (m : Nat) (hm : m ≤ 14)
 (hself : ∀ x ∈ all, ∀ s, self.f 70 [encN x, .int .i64 (m : Int)] s = some (.ret (.int .i64 (deepN m x : Int)), s)) :
 ∀ (r : List Nd) (i d n : Nat) (S : St), all.drop i = r → r.length < n → S.on = false → d ≤ 100 →
 ∃ S', L70_19 self N nk ek n (.int .i64 ((m + 1 : Nat) : Int)) (.int .i64 (d : Int)) (kidsV (encL all)) (.int .i64 (all.length : Int)) (.int .i64 (i : Int)) S = ek 0 (fr 32 [(5, .int .i64 ((r.foldl (fun d y => max d (1 + deepN m y)) d : Nat) : Int))]) S' ∧ Grew (fun _ => False) S S'
 | r, i, d, 0, S, _, hn, _, _ => by omega
 | [], i, d, n + 1, S, hi, hn, ho, hd => by
  rw [L70_19_eq, binV_ii, intsV_lss]
  have : all.length ≤ i := List.drop_eq_nil_iff.1 hi
  rw [show decide ((i : Int) < (all.length : Int)) = false by simp; omega]
  exact ⟨S, rfl, Grew.refl _ _⟩
 | x :: r, i, d, n + 1, S, hi, hn, ho, hd => by
  have hlt : i < all.length := by
   rcases Nat.lt_or_ge i all.length with h | h
   · exact h
   · rw [List.drop_eq_nil_of_le h] at hi; cases hi
  rw [List.drop_eq_getElem_cons hlt] at hi
  simp only [List.cons.injEq] at hi
  obtain ⟨hx, hr⟩ := hi
  rw [L70_19_eq, binV_ii, intsV_lss, show decide ((i : Int) < (all.length : Int)) = true by simp; omega]
  simp only [oB, ifK_bool, cond_true]
  rw [ixP_kids all i hlt, hx]
  simp only [oB, ldA_kid, nwP_fst]
  obtain ⟨S1, k1, k2, k3, k4⟩ := node_new ho (Tr.ofListFrom .nil [(sv []), (.int .i64 0), (.bool false), (sv []), .nilslice] 0) x
  rw [k1]
  simp only [oB, k2.fA, binV_ii, intsV_sub]
  rw [show ((m + 1 : Nat) : Int) - 1 = (m : Int) by omega, wrap_i64 (by omega) (by omega)]
  rw [hself x (hx ▸ List.getElem_mem hlt)]
  have hb := deepN_le m x
  simp only [callP_ret, binV_ii, intsV_add, oB]
  rw [show (1 : Int) + (deepN m x : Int) = ((1 + deepN m x : Nat) : Int) by omega, wrap_i64 (by omega) (by omega)]
  rw [foldK_max, show max (d : Int) ((1 + deepN m x : Nat) : Int) = ((max d (1 + deepN m x) : Nat) : Int) by omega]
  simp only [oB]
  rw [show (i : Int) + 1 = ((i + 1 : Nat) : Int) by omega, wrap_i64 (by omega) (by omega)]
  obtain ⟨S', h1, h2⟩ := L70_spec self N nk ek all hall m hm hself r (i + 1) (max d (1 + deepN m x)) n S1 hr (by simp at hn; omega) k2.on (by omega)
  exact ⟨S', by rw [h1]; rfl, k3.trans h2⟩
theorem F70_spec (self : EV) (x : Nd) (ok : x.ok) (m : Nat) (hm : m + 1 ≤ 14) (hself : ∀ y ∈ x.kids, ∀ s, 1 ≤ m → self.f 70 [encN y, .int .i64 (m : Int)] s = some (.ret (.int .i64 (deepN m y : Int)), s)) (S : St) (ho : S.on = false) :
 ∃ S', F70 self rounds (encN x) (.int .i64 ((m + 1 : Nat) : Int)) S = some (.ret (.int .i64 (deepN (m + 1) x : Int)), S') ∧ Grew (fun _ => False) S S' := by
 obtain ⟨S1, k1, k2, k3, k4⟩ := node_box ho x
 have hok := ok.at
 rw [F70_eq, k1]
 simp only [oB, faP_ptr, Nat.zero_add, k2.f1, binV_ii, intsV_neq]
 rw [deepN]
 by_cases hk : x.kind = 2
 · rw [hk]
   simp only [ne_eq, not_true_eq_false, decide_true, decide_false, oB, guardV_t, guardV_f, guardV_no, Bool.not_true, Bool.not_false, cond_true, binV_ii, intsV_eql, pickV, cond_false, false_or]
   by_cases hm0 : m = 0
   · subst hm0
     exact ⟨S1, rfl, k3⟩
   · rw [show decide (((m + 1 : Nat) : Int) = 1) = false by simp; omega, if_neg hm0]
     simp only [ifK_bool, cond_false, k2.f4, oB, lnS_kids]
     obtain ⟨S', h1, h2⟩ := L70_spec self rounds (R70_12 self rounds (finN E0 self Try.f70) noEx) (exB 0 (R70_12 self rounds (finN E0 self Try.f70) noEx) noEx) x.kids hok.few m (by omega) (fun y hy s => hself y hy s (by omega)) x.kids 0 1 rounds S1 rfl (by have := hok.few; unfold rounds; omega) k2.on (by omega)
     refine ⟨S', ?_, k3.trans h2⟩
     rw [show ((0 : Nat) : Int) = 0 from rfl, show ((1 : Nat) : Int) = 1 from rfl] at h1
     rw [h1, exB_same, R70_12_eq]
 · simp only [ne_eq, hk, not_false_eq_true, decide_true, decide_false, Bool.not_false, oB, guardV_t, guardV_f, guardV_no, Bool.not_true, cond_false, pickV, cond_true, ifK_bool, true_or, if_true]
   exact ⟨S1, rfl, k3⟩
end Go.Proofs.Ythmkdoaaciamlaa.W
namespace Go.Proofs.Ythmkdoaaciamlaa.W
open Go.Proofs.Ythmkdoaaciamlaa.Ev
theorem kn70 {K : FuncId → Option KF} (hK : KnOk Try.prog E0 K) : KnWell Try.prog E0 70 kfDeep :=
 specKF_rec (fn := Try.f70) (c := C70) (d := B70) (fun p : DeepIn => p.m) (fun p q h => by obtain ⟨h1, h2⟩ := encDeep_inj h; unfold outDeep; rw [h1, h2]; exact ⟨rfl, rfl⟩) E0_ok hK (by kernel_rfl) (by kernel_rfl) (annot_isOf C70 _ (by kernel_rfl)) fun K' _ p s hself ho => by
  obtain ⟨m, hm⟩ : ∃ m, p.m = m + 1 := ⟨p.m - 1, by have := p.h1; omega⟩
  obtain ⟨S', h1, h2⟩ := F70_spec (ev E0 K' 1) p.x p.ok m (by have := p.h2; omega) (fun y hy s h1m => hself ⟨m, y, h1m, by have := p.h2; omega, p.ok.at.kids y hy⟩ s 0 (by show m < p.m; omega)) s ho
  rw [← hm] at h1
  exact ⟨1, .ret (.int .i64 (deepN p.m p.x : Int)), S', h1, h2, Fz.same (.int _ _)⟩
theorem L57_spec (self : EV) (N : Nat) (nk : Ac → St → Rs) (ek : Nat → Ac → St → Rs) (x : Nd) (b : Nat) (hall : x.kids.length ≤ 3000) (m : Nat) (hm : m ≤ 14)
 (hself : ∀ y ∈ x.kids, ∀ s, self.f 57 [encN y, .int .i64 (m : Int)] s = some (.ret (.int .i64 (deepN m y : Int)), s)) (S : St) (hx : NodeAt S b x) :
 ∀ (r : List Nd) (i d n : Nat), x.kids.drop i = r → r.length < n → d ≤ 100 →
 L57_15 self N nk ek n (.int .i64 ((m + 1 : Nat) : Int)) (.ptr b 0) (.int .i64 (d : Int)) (.int .i64 (i : Int)) S = ek 0 (fr 33 [(5, .int .i64 ((r.foldl (fun d y => max d (1 + deepN m y)) d : Nat) : Int))]) S
 | r, i, d, 0, _, hn, _ => by omega
 | [], i, d, n + 1, hi, hn, hd => by
  have : x.kids.length ≤ i := List.drop_eq_nil_iff.1 hi
  rw [L57_15_eq]
  simp only [faP_ptr, oB, Nat.zero_add, hx.f4, lnS_kids, binV_ii, intsV_lss]
  rw [show decide ((i : Int) < (x.kids.length : Int)) = false by simp; omega]
  rfl
 | y :: r, i, d, n + 1, hi, hn, hd => by
  have hlt : i < x.kids.length := by
   rcases Nat.lt_or_ge i x.kids.length with h | h
   · exact h
   · rw [List.drop_eq_nil_of_le h] at hi; cases hi
  rw [List.drop_eq_getElem_cons hlt] at hi
  simp only [List.cons.injEq] at hi
  obtain ⟨hy, hr⟩ := hi
  rw [L57_15_eq]
  simp only [faP_ptr, oB, Nat.zero_add, hx.f4, lnS_kids, binV_ii, intsV_lss]
  rw [show decide ((i : Int) < (x.kids.length : Int)) = true by simp; omega]
  simp only [ifK_bool, cond_true]
  rw [ixP_kids x.kids i hlt, hy]
  simp only [oB, ldA_kid, binV_ii, intsV_sub]
  rw [show ((m + 1 : Nat) : Int) - 1 = (m : Int) by omega, wrap_i64 (by omega) (by omega), hself y (hy ▸ List.getElem_mem hlt)]
  have hb := deepN_le m y
  simp only [callP_ret, binV_ii, intsV_add, oB]
  rw [show (1 : Int) + (deepN m y : Int) = ((1 + deepN m y : Nat) : Int) by omega, wrap_i64 (by omega) (by omega)]
  rw [foldK_max, show max (d : Int) ((1 + deepN m y : Nat) : Int) = ((max d (1 + deepN m y) : Nat) : Int) by omega]
  simp only [oB]
  rw [show (i : Int) + 1 = ((i + 1 : Nat) : Int) by omega, wrap_i64 (by omega) (by omega)]
  rw [L57_spec self N nk ek x b hall m hm hself S hx r (i + 1) (max d (1 + deepN m y)) n hr (by simp at hn; omega) (by omega)]
  rfl
theorem F57_spec (self : EV) (x : Nd) (ok : x.ok) (m : Nat) (hm : m + 1 ≤ 14) (hself : ∀ y ∈ x.kids, ∀ s, 1 ≤ m → self.f 57 [encN y, .int .i64 (m : Int)] s = some (.ret (.int .i64 (deepN m y : Int)), s)) (S : St) (ho : S.on = false) :
 ∃ S', F57 self rounds (encN x) (.int .i64 ((m + 1 : Nat) : Int)) S = some (.ret (.int .i64 (deepN (m + 1) x : Int)), S') ∧ Grew (fun _ => False) S S' := by
 obtain ⟨S1, k1, k2, k3, k4⟩ := node_box ho x
 have hok := ok.at
 rw [F57_eq, k1]
 simp only [oB, faP_ptr, Nat.zero_add, k2.f1, binV_ii, intsV_neq]
 rw [deepN]
 by_cases hk : x.kind = 2
 · rw [hk]
   simp only [ne_eq, not_true_eq_false, decide_true, decide_false, oB, guardV_t, guardV_f, guardV_no, Bool.not_true, Bool.not_false, cond_true, binV_ii, intsV_eql, pickV, cond_false, false_or]
   by_cases hm0 : m = 0
   · subst hm0
     exact ⟨S1, rfl, k3⟩
   · rw [show decide (((m + 1 : Nat) : Int) = 1) = false by simp; omega, if_neg hm0]
     simp only [ifK_bool, cond_false]
     have h1 := L57_spec self rounds (R57_11 self rounds (finN E0 self Try.f57) noEx) (exB 0 (R57_11 self rounds (finN E0 self Try.f57) noEx) noEx) x S.next hok.few m (by omega) (fun y hy s => hself y hy s (by omega)) S1 k2 x.kids 0 1 rounds rfl (by have := hok.few; unfold rounds; omega) (by omega)
     refine ⟨S1, ?_, k3⟩
     rw [show ((0 : Nat) : Int) = 0 from rfl, show ((1 : Nat) : Int) = 1 from rfl] at h1
     rw [h1, exB_same, R57_11_eq]
 · simp only [ne_eq, hk, not_false_eq_true, decide_true, decide_false, Bool.not_false, oB, guardV_t, guardV_f, guardV_no, Bool.not_true, cond_false, pickV, cond_true, ifK_bool, true_or, if_true]
   exact ⟨S1, rfl, k3⟩
theorem kn57 {K : FuncId → Option KF} (hK : KnOk Try.prog E0 K) : KnWell Try.prog E0 57 kfDeep :=
 specKF_rec (fn := Try.f57) (c := C57) (d := B57) (fun p : DeepIn => p.m) (fun p q h => by obtain ⟨h1, h2⟩ := encDeep_inj h; unfold outDeep; rw [h1, h2]; exact ⟨rfl, rfl⟩) E0_ok hK (by kernel_rfl) (by kernel_rfl) (annot_isOf C57 _ (by kernel_rfl)) fun K' _ p s hself ho => by
  obtain ⟨m, hm⟩ : ∃ m, p.m = m + 1 := ⟨p.m - 1, by have := p.h1; omega⟩
  obtain ⟨S', h1, h2⟩ := F57_spec (ev E0 K' 1) p.x p.ok m (by have := p.h2; omega) (fun y hy s h1m => hself ⟨m, y, h1m, by have := p.h2; omega, p.ok.at.kids y hy⟩ s 0 (by show m < p.m; omega)) s ho
  rw [← hm] at h1
  exact ⟨1, .ret (.int .i64 (deepN p.m p.x : Int)), S', h1, h2, Fz.same (.int _ _)⟩
structure NodeIn where
 x : Nd
 ok : x.ok
noncomputable def encNode (p : NodeIn) : List V := [encN p.x]
theorem encNode_inj {p q : NodeIn} (h : encNode p = encNode q) : p.x = q.x := by
 simp only [encNode, List.cons.injEq, and_true] at h
 exact encN_inj h
noncomputable def kfNode (g : Nd → V) : KF := specKF encNode (fun p : NodeIn => En.ret (g p.x))
theorem kfNode_run (g : Nd → V) (x : Nd) (ok : x.ok) (S : St) : (kfNode g).run [encN x] S = some (.ret (g x), S) :=
 specKF_run (enc := encNode) (out := fun p : NodeIn => En.ret (g p.x)) (fun p q h => by rw [encNode_inj h]) ⟨x, ok⟩ S
theorem knNode {K : FuncId → Option KF} (hK : KnOk Try.prog E0 K) {f : FuncId} {fn : Func} {c : Code} {d : D} (g : Nd → V) (hu : ∀ n x, Under n (g x)) (hf : E0.fns.get f = some fn) (hb : fn.body = some c) (hd : isOf d c)
 (n : Nat) (h : ∀ x S, x.ok → S.on = false → ∃ S', runF E0 (ev E0 K n) rounds fn d [encN x] S = some (.ret (g x), S') ∧ Grew (fun _ => False) S S') : KnWell Try.prog E0 f (kfNode g) :=
 specKF_text E0_ok hK hf hb hd fun p s ho => by
  obtain ⟨S', h1, h2⟩ := h p.x s p.ok ho
  exact ⟨n, .ret (g p.x), S', h1, h2, Fz.same (hu _ _)⟩
theorem knNode_rec {K : FuncId → Option KF} (hK : KnOk Try.prog E0 K) {f : FuncId} {fn : Func} {c : Code} {d : D} (g : Nd → V) (hu : ∀ n x, Under n (g x)) (hf : E0.fns.get f = some fn) (hb : fn.body = some c) (hd : isOf d c)
 (n : Nat) (h : ∀ K', (∀ q, q ≠ f → K' q = K q) → ∀ x S, x.ok → (∀ y s m, y ∈ x.kids → (ev E0 K' (m + 1)).f f [encN y] s = some (.ret (g y), s)) → S.on = false → ∃ S', runF E0 (ev E0 K' n) rounds fn d [encN x] S = some (.ret (g x), S') ∧ Grew (fun _ => False) S S') : KnWell Try.prog E0 f (kfNode g) :=
 specKF_rec (fun p : NodeIn => SizeOf.sizeOf p.x) (fun p q h => by rw [encNode_inj h]; exact ⟨rfl, rfl⟩) E0_ok hK hf hb hd fun K' hK' p s hself ho => by
  obtain ⟨S', h1, h2⟩ := h K' hK' p.x s p.ok (fun y s m hy => hself ⟨y, p.ok.at.kids y hy⟩ s m (by
   show SizeOf.sizeOf y < SizeOf.sizeOf p.x
   have := List.sizeOf_lt_of_mem hy
   cases hp : p.x with
   | mk n k e d l =>
    rw [hp] at this
    simp only [Nd.kids] at this
    simp only [Nd.mk.sizeOf_spec]
    omega)) ho
  exact ⟨n, .ret (g p.x), S', h1, h2, Fz.same (hu _ _)⟩
noncomputable def gDeep (x : Nd) : V := .int .i64 (deepN 14 x : Int)
theorem kn58 {K : FuncId → Option KF} (hK : KnOk Try.prog E0 K) (h70 : K 70 = some kfDeep) : KnWell Try.prog E0 58 (kfNode gDeep) :=
 knNode hK (c := C58) (d := B58) gDeep (fun _ _ => .int _ _) (by kernel_rfl) (by kernel_rfl) (annot_isOf C58 _ (by kernel_rfl)) 1 fun x S ok ho => by
  obtain ⟨S1, k1, k2, k3, k4⟩ := node_box ho x
  refine ⟨S1, (?_ : F58 (ev E0 K 1) rounds (encN x) S = _), k3⟩
  rw [F58_eq, k1]
  simp only [oB, k2.fA]
  rw [show (V.int .i64 14) = .int .i64 ((14 : Nat) : Int) from rfl, ev_known h70, kfDeep_run 14 x (by omega) (by omega) ok]
  rfl
theorem kn34 {K : FuncId → Option KF} (hK : KnOk Try.prog E0 K) (h57 : K 57 = some kfDeep) : KnWell Try.prog E0 34 (kfNode gDeep) :=
 knNode hK (c := C34) (d := B34) gDeep (fun _ _ => .int _ _) (by kernel_rfl) (by kernel_rfl) (annot_isOf C34 _ (by kernel_rfl)) 1 fun x S ok ho => by
  obtain ⟨S1, k1, k2, k3, k4⟩ := node_box ho x
  refine ⟨S1, (?_ : F34 (ev E0 K 1) rounds (encN x) S = _), k3⟩
  rw [F34_eq, k1]
  simp only [oB, k2.fA]
  rw [show (V.int .i64 14) = .int .i64 ((14 : Nat) : Int) from rfl, ev_known h57, kfDeep_run 14 x (by omega) (by omega) ok]
  rfl
def tooDeepN (x : Nd) : Bool := decide (12 < deepN 14 x)
noncomputable def gTooDeep (x : Nd) : V := .bool (tooDeepN x)
theorem kn35 {K : FuncId → Option KF} (hK : KnOk Try.prog E0 K) (h58 : K 58 = some (kfNode gDeep)) : KnWell Try.prog E0 35 (kfNode gTooDeep) :=
 knNode hK (c := C35) (d := B35) gTooDeep (fun _ _ => .bool _) (by kernel_rfl) (by kernel_rfl) (annot_isOf C35 _ (by kernel_rfl)) 1 fun x S ok ho => by
  obtain ⟨S1, k1, k2, k3, k4⟩ := node_box ho x
  refine ⟨S1, (?_ : F35 (ev E0 K 1) rounds (encN x) S = _), k3⟩
  rw [F35_eq, k1]
  simp only [oB, k2.fA]
  rw [ev_known h58, kfNode_run _ x ok]
  simp only [callP_ret, gDeep, binV_ii, intsV_gtr, oB, gTooDeep, tooDeepN]
  rw [show decide ((12 : Int) < (deepN 14 x : Int)) = decide (12 < deepN 14 x) by rw [decide_eq_decide]; omega]
end Go.Proofs.Ythmkdoaaciamlaa.W
namespace Go.Proofs.Ythmkdoaaciamlaa.W
open Go.Proofs.Ythmkdoaaciamlaa.Ev
abbrev wr (n : Int) : Int := IntKind.i64.wrap n
theorem wr_range (n : Int) : -9223372036854775808 ≤ wr n ∧ wr n < 9223372036854775808 := by
 unfold wr IntKind.wrap
 have h1 : ((2 : Int) ^ IntKind.i64.bits) = 18446744073709551616 := by decide
 have h2 : ((2 : Int) ^ (IntKind.i64.bits - 1)) = 9223372036854775808 := by decide
 simp only [h1, h2, show IntKind.i64.signed = true from rfl, Bool.true_and, decide_eq_true_eq]
 split <;> omega
theorem wr_wr (n : Int) : wr (wr n) = wr n := wrap_i64 (wr_range n).1 (wr_range n).2
mutual
def sizeN : Nd → Int × Int
 | .mk _ _ _ d l => sizeL l (1, (d.length : Int))
def sizeL : List Nd → Int × Int → Int × Int
 | [], a => a
 | x :: l, a => sizeL l (if tooDeepN x then a else (wr (a.1 + (sizeN x).1), wr (a.2 + (sizeN x).2)))
end
theorem sizeN_eq (x : Nd) : sizeN x = sizeL x.kids (1, (x.data.length : Int)) := by cases x; rw [sizeN]; rfl
noncomputable def gSize (x : Nd) : V := .tuple [.int .i64 (sizeN x).1, .int .i64 (sizeN x).2]
def sizeT (x : Nd) : Int × Int := if tooDeepN x then (0, 0) else sizeN x
noncomputable def gSizeT (x : Nd) : V := .tuple [.int .i64 (sizeT x).1, .int .i64 (sizeT x).2]
theorem under_two (n : Nat) (a b : V) (ha : Under n a) (hb : Under n b) : Under n (.tuple [a, b]) := .tuple (.cons ha (.cons hb .nil))
theorem drop_at {α : Type} {l r : List α} {i : Nat} {y : α} (h : l.drop i = y :: r) : ∃ hlt : i < l.length, l[i] = y ∧ l.drop (i + 1) = r ∧ y ∈ l := by
 have hlt : i < l.length := by
  rcases Nat.lt_or_ge i l.length with h' | h'
  · exact h'
  · rw [List.drop_eq_nil_of_le h'] at h; cases h
 rw [List.drop_eq_getElem_cons hlt] at h
 simp only [List.cons.injEq] at h
 exact ⟨hlt, h.1, h.2, h.1 ▸ List.getElem_mem hlt⟩
theorem drop_end {α : Type} {l : List α} {i : Nat} (h : l.drop i = []) : l.length ≤ i := List.drop_eq_nil_iff.1 h
theorem dec_lt {a b : Nat} (h : a < b) : decide ((a : Int) < (b : Int)) = true := by simp; omega
theorem dec_ge {a b : Nat} (h : b ≤ a) : decide ((a : Int) < (b : Int)) = false := by simp; omega
theorem wrap_succ {i : Nat} (h : i < 9223372036854775807) : IntKind.i64.wrap ((i : Int) + 1) = ((i + 1 : Nat) : Int) := by
 rw [wrap_i64 (by omega) (by omega)]; omega
theorem L38_spec (self : EV) (N : Nat) (nk : Ac → St → Rs) (ek : Nat → Ac → St → Rs) (all : List Nd) (hall : all.length ≤ 3000)
 (h35 : ∀ y ∈ all, ∀ s, self.f 35 [encN y] s = some (.ret (gTooDeep y), s)) (h38 : ∀ y ∈ all, ∀ s, self.f 38 [encN y] s = some (.ret (gSize y), s)) :
 ∀ (r : List Nd) (i n : Nat) (a : Int × Int) (S : St), all.drop i = r → r.length < n → S.on = false →
 ∃ S', L38_17 self N nk ek n (.int .i64 a.1) (.int .i64 a.2) (kidsV (encL all)) (.int .i64 (all.length : Int)) (.int .i64 (i : Int)) S = ek 0 (fr 34 [(2, .int .i64 (sizeL r a).1), (3, .int .i64 (sizeL r a).2)]) S' ∧ Grew (fun _ => False) S S'
 | r, i, 0, a, S, _, hn, _ => by omega
 | [], i, n + 1, a, S, hi, hn, ho => by
  rw [L38_17_eq, binV_ii, intsV_lss, dec_ge (drop_end hi)]
  exact ⟨S, by rw [sizeL]; rfl, Grew.refl _ _⟩
 | x :: r, i, n + 1, a, S, hi, hn, ho => by
  obtain ⟨hlt, hx, hr, hmem⟩ := drop_at hi
  rw [L38_17_eq, binV_ii, intsV_lss, dec_lt hlt]
  simp only [oB, ifK_bool, cond_true]
  rw [ixP_kids all i hlt, hx]
  simp only [oB, ldA_kid, nwP_fst]
  obtain ⟨S1, k1, k2, k3, k4⟩ := node_new ho (Tr.ofListFrom .nil [(sv []), (.int .i64 0), (.bool false), (sv []), .nilslice] 0) x
  rw [k1]
  simp only [oB, k2.fA]
  rw [h35 x hmem, sizeL]
  simp only [callP_ret, gTooDeep, ifK_bool]
  cases htd : tooDeepN x with
  | true =>
   simp only [cond_true, binV_ii, intsV_add, oB, wrap_succ (show i < 9223372036854775807 by omega)]
   obtain ⟨S', h1, h2⟩ := L38_spec self N nk ek all hall h35 h38 r (i + 1) n a S1 hr (by simp at hn; omega) k2.on
   exact ⟨S', by rw [h1]; rfl, k3.trans h2⟩
  | false =>
   simp only [cond_false, k2.fA, oB]
   rw [h38 x hmem]
   simp only [callP_ret, gSize, extractV, List.getElem?_cons_zero, List.getElem?_cons_succ, oB, binV_ii, intsV_add, wrap_succ (show i < 9223372036854775807 by omega)]
   obtain ⟨S', h1, h2⟩ := L38_spec self N nk ek all hall h35 h38 r (i + 1) n (wr (a.1 + (sizeN x).1), wr (a.2 + (sizeN x).2)) S1 hr (by simp at hn; omega) k2.on
   exact ⟨S', by rw [h1]; rfl, k3.trans h2⟩
theorem kn38 {K : FuncId → Option KF} (hK : KnOk Try.prog E0 K) (h35 : K 35 = some (kfNode gTooDeep)) : KnWell Try.prog E0 38 (kfNode gSize) :=
 knNode_rec hK (fn := Try.f38) (c := C38) (d := B38) gSize (fun _ _ => under_two _ _ _ (.int _ _) (.int _ _)) (by kernel_rfl) (by kernel_rfl) (annot_isOf C38 _ (by kernel_rfl)) 1 fun K' hK' x S ok hself ho => by
  obtain ⟨S1, k1, k2, k3, k4⟩ := node_box ho x
  obtain ⟨S', h1, h2⟩ := L38_spec (ev E0 K' 1) rounds (R38_8 (ev E0 K' 1) rounds (finN E0 (ev E0 K' 1) Try.f38) noEx) (exB 0 (R38_8 (ev E0 K' 1) rounds (finN E0 (ev E0 K' 1) Try.f38) noEx) noEx) x.kids ok.at.few
   (fun y hy s => by rw [ev_known (show K' 35 = _ by rw [hK' 35 (by decide)]; exact h35), kfNode_run _ y (ok.at.kids y hy)]) (fun y hy s => hself y s 0 hy) x.kids 0 rounds (1, (x.data.length : Int)) S1 rfl (by have := ok.at.few; unfold rounds; omega) k2.on
  refine ⟨S', (?_ : F38 (ev E0 K' 1) rounds (encN x) S = _), k3.trans h2⟩
  rw [F38_eq, k1]
  simp only [oB, faP_ptr, Nat.zero_add, k2.o3, onS_rd, onS_onS, lnStr_sv, relog_onS k2.on, k2.f4, lnS_kids]
  rw [show ((0 : Nat) : Int) = 0 from rfl] at h1
  dsimp only at h1
  rw [h1, exB_same, R38_8_eq, gSize, sizeN_eq]
theorem kn17 {K : FuncId → Option KF} (hK : KnOk Try.prog E0 K) (h35 : K 35 = some (kfNode gTooDeep)) (h38 : K 38 = some (kfNode gSize)) : KnWell Try.prog E0 17 (kfNode gSizeT) :=
 knNode hK (fn := Try.f17) (c := C17) (d := B17) gSizeT (fun _ _ => under_two _ _ _ (.int _ _) (.int _ _)) (by kernel_rfl) (by kernel_rfl) (annot_isOf C17 _ (by kernel_rfl)) 1 fun x S ok ho => by
  obtain ⟨S1, k1, k2, k3, k4⟩ := node_box ho x
  refine ⟨S1, (?_ : F17 (ev E0 K 1) rounds (encN x) S = _), k3⟩
  rw [F17_eq, k1]
  simp only [oB, k2.fA]
  rw [ev_known h35, kfNode_run _ x ok]
  simp only [callP_ret, gTooDeep, ifK_bool, gSizeT, sizeT]
  cases htd : tooDeepN x with
  | true => rfl
  | false =>
   simp only [cond_false, k2.fA, oB, Bool.false_eq_true, if_false]
   rw [ev_known h38, kfNode_run _ x ok]
   rfl
theorem L45_spec (self : EV) (N : Nat) (nk : Ac → St → Rs) (ek : Nat → Ac → St → Rs) (x : Nd) (b : Nat) (hall : x.kids.length ≤ 3000)
 (h45 : ∀ y ∈ x.kids, ∀ s, self.f 45 [encN y] s = some (.ret (gSizeT y), s)) (S : St) (hx : NodeAt S b x) :
 ∀ (r : List Nd) (i n : Nat) (a : Int × Int), x.kids.drop i = r → r.length < n → wr a.1 = a.1 → wr a.2 = a.2 →
 L45_19 self N nk ek n (.ptr b 0) (.int .i64 a.1) (.int .i64 a.2) (.int .i64 (i : Int)) S = ek 0 (fr 39 [(4, .int .i64 (sizeL r a).1), (5, .int .i64 (sizeL r a).2)]) S
 | r, i, 0, a, _, hn, _, _ => by omega
 | [], i, n + 1, a, hi, hn, _, _ => by
  rw [L45_19_eq]
  simp only [faP_ptr, oB, Nat.zero_add, hx.f4, lnS_kids, binV_ii, intsV_lss, dec_ge (drop_end hi), sizeL]
  rfl
 | y :: r, i, n + 1, a, hi, hn, ha1, ha2 => by
  obtain ⟨hlt, hy, hr, hmem⟩ := drop_at hi
  rw [L45_19_eq]
  simp only [faP_ptr, oB, Nat.zero_add, hx.f4, lnS_kids, binV_ii, intsV_lss, dec_lt hlt, ifK_bool, cond_true]
  rw [ixP_kids x.kids i hlt, hy]
  simp only [oB, ldA_kid]
  rw [h45 y hmem, sizeL]
  simp only [callP_ret, gSizeT, extractV, List.getElem?_cons_zero, List.getElem?_cons_succ, oB, binV_ii, intsV_add, wrap_succ (show i < 9223372036854775807 by omega), sizeT]
  cases htd : tooDeepN y with
  | true =>
   simp only [if_true, Int.add_zero]
   rw [show IntKind.i64.wrap a.1 = a.1 from ha1, show IntKind.i64.wrap a.2 = a.2 from ha2]
   exact L45_spec self N nk ek x b hall h45 S hx r (i + 1) n a hr (by simp at hn; omega) ha1 ha2
  | false =>
   simp only [Bool.false_eq_true, if_false]
   exact L45_spec self N nk ek x b hall h45 S hx r (i + 1) n (wr (a.1 + (sizeN y).1), wr (a.2 + (sizeN y).2)) hr (by simp at hn; omega) (wr_wr _) (wr_wr _)
theorem kn45 {K : FuncId → Option KF} (hK : KnOk Try.prog E0 K) (h34 : K 34 = some (kfNode gDeep)) : KnWell Try.prog E0 45 (kfNode gSizeT) :=
 knNode_rec hK (fn := Try.f45) (c := C45) (d := B45) gSizeT (fun _ _ => under_two _ _ _ (.int _ _) (.int _ _)) (by kernel_rfl) (by kernel_rfl) (annot_isOf C45 _ (by kernel_rfl)) 1 fun K' hK' x S ok hself ho => by
  obtain ⟨S1, k1, k2, k3, k4⟩ := node_box ho x
  refine ⟨S1, (?_ : F45 (ev E0 K' 1) rounds (encN x) S = _), k3⟩
  rw [F45_eq, k1]
  simp only [oB, k2.fA]
  rw [ev_known (show K' 34 = _ by rw [hK' 34 (by decide)]; exact h34), kfNode_run _ x ok]
  simp only [callP_ret, gDeep, binV_ii, intsV_gtr, oB, ifK_bool]
  rw [show decide ((12 : Int) < (deepN 14 x : Int)) = tooDeepN x by unfold tooDeepN; rw [decide_eq_decide]; omega]
  simp only [gSizeT, sizeT]
  cases htd : tooDeepN x with
  | true => rfl
  | false =>
   have hd := ok.at.data
   simp only [cond_false, faP_ptr, oB, Nat.zero_add, k2.o3, onS_rd, onS_onS, lnStr_sv, relog_onS k2.on, Bool.false_eq_true, if_false]
   have h1 := L45_spec (ev E0 K' 1) rounds (R45_13 (ev E0 K' 1) rounds (finN E0 (ev E0 K' 1) Try.f45) noEx) (exB 0 (R45_13 (ev E0 K' 1) rounds (finN E0 (ev E0 K' 1) Try.f45) noEx) noEx) x S.next ok.at.few
    (fun y hy s => hself y s 0 hy) S1 k2 x.kids 0 rounds (1, (x.data.length : Int)) rfl (by have := ok.at.few; unfold rounds; omega) (show wr 1 = 1 from wrap_i64 (by omega) (by omega)) (wrap_i64 (by omega) (by omega))
   rw [show ((0 : Nat) : Int) = 0 from rfl] at h1
   dsimp only at h1
   rw [h1, exB_same, R45_13_eq, sizeN_eq]
end Go.Proofs.Ythmkdoaaciamlaa.W
namespace Go.Proofs.Ythmkdoaaciamlaa.W
open Go.Proofs.Ythmkdoaaciamlaa.Ev
def badByte (c : UInt8) : Bool := c == 47 || c == 0
def nameOk (s : List UInt8) : Bool := decide (1 ≤ s.length) && decide (s.length ≤ 56) && !(s.any badByte) && !(s == [46]) && !(s == [46, 46])
theorem u8_eq (c d : UInt8) : (c == d) = decide ((c.toNat : Int) = (d.toNat : Int)) := by
 rw [Bool.eq_iff_iff]
 simp only [beq_iff_eq, decide_eq_true_eq]
 constructor
 · rintro rfl; rfl
 · intro h; exact UInt8.toNat_inj.1 (by omega)
structure TextIn where
 s : List UInt8
 hs : s.length < 9223372036854775808
noncomputable def kfText (g : List UInt8 → V) : KF := specKF (fun p : TextIn => [sv p.s]) (fun p => En.ret (g p.s))
theorem kfText_run (g : List UInt8 → V) (s : List UInt8) (hs : s.length < 9223372036854775808) (S : St) : (kfText g).run [sv s] S = some (.ret (g s), S) :=
 specKF_run (enc := fun p : TextIn => [sv p.s]) (out := fun p => En.ret (g p.s)) (fun p q h => by
  simp only [List.cons.injEq, and_true] at h
  rw [sv_inj h]) ⟨s, hs⟩ S
theorem knText {K : FuncId → Option KF} (hK : KnOk Try.prog E0 K) {f : FuncId} {fn : Func} {c : Code} {d : D} (g : List UInt8 → V) (hu : ∀ n x, Under n (g x)) (hf : E0.fns.get f = some fn) (hb : fn.body = some c) (hd : isOf d c)
 (n : Nat) (h : ∀ s S, s.length < 9223372036854775808 → S.on = false → ∃ S', runF E0 (ev E0 K n) rounds fn d [sv s] S = some (.ret (g s), S') ∧ Grew (fun _ => False) S S') : KnWell Try.prog E0 f (kfText g) :=
 specKF_text E0_ok hK hf hb hd fun p s ho => by
  obtain ⟨S', h1, h2⟩ := h p.s s p.hs ho
  exact ⟨n, .ret (g p.s), S', h1, h2, Fz.same (hu _ _)⟩
noncomputable def gName (s : List UInt8) : V := .bool (nameOk s)
theorem L68_spec (self : EV) (N : Nat) (nk : Ac → St → Rs) (ek : Nat → Ac → St → Rs) (s : List UInt8) (hs : s.length < 9223372036854775808) (S : St) :
 ∀ (r : List UInt8) (i n : Nat), s.drop i = r → r.length < n →
 L68_20 self N nk ek n (sv s) (.int .i64 (i : Int)) S = bif r.any badByte then some (.ret (.bool false), S) else ek 0 (fr 36 [(0, sv s)]) S
 | r, i, 0, _, hn => by omega
 | [], i, n + 1, hi, hn => by
  rw [L68_20_eq]
  simp only [lnStr_sv, oB, binV_ii, intsV_lss, dec_ge (drop_end hi)]
  rfl
 | c :: r, i, n + 1, hi, hn => by
  obtain ⟨hlt, hc, hr, hmem⟩ := drop_at hi
  rw [L68_20_eq]
  simp only [lnStr_sv, oB, binV_ii, intsV_lss, dec_lt hlt, ifK_bool, cond_true, ixS_sv s .i64 i hlt, hc, intsV_eql, guardV_t, guardV_f, guardV_no]
  rw [List.any_cons, badByte, u8_eq c 47, u8_eq c 0, show (UInt8.toNat 47) = 47 from rfl, show (UInt8.toNat 0) = 0 from rfl]
  cases h1 : decide ((c.toNat : Int) = ((47 : Nat) : Int)) with
  | true =>
   rfl
  | false =>
   simp only [Bool.not_false, cond_true, oB, ixS_sv s .i64 i hlt, hc, binV_ii, intsV_eql, pickV, cond_false, ifK_bool, Bool.false_or]
   cases h2 : decide ((c.toNat : Int) = ((0 : Nat) : Int)) with
   | true =>
    rfl
   | false =>
    simp only [cond_false, intsV_add, oB, wrap_succ (show i < 9223372036854775807 by omega), Bool.false_or]
    exact L68_spec self N nk ek s hs S r (i + 1) n hr (by simp at hn; omega)
theorem kn68 {K : FuncId → Option KF} (hK : KnOk Try.prog E0 K) : KnWell Try.prog E0 68 (kfText gName) :=
 knText hK (fn := Try.f68) (c := C68) (d := B68) gName (fun _ _ => .bool _) (by kernel_rfl) (by kernel_rfl) (annot_isOf C68 _ (by kernel_rfl)) 0 fun s S hs ho => by
  refine ⟨S, (?_ : F68 (ev E0 K 0) rounds (sv s) S = _), Grew.refl _ _⟩
  have h1 := L68_spec (ev E0 K 0) rounds (R68_1 (ev E0 K 0) rounds (finN E0 (ev E0 K 0) Try.f68) noEx) (exB 0 (R68_1 (ev E0 K 0) rounds (finN E0 (ev E0 K 0) Try.f68) noEx) noEx) s hs S s 0 rounds rfl (by unfold rounds; omega)
  rw [F68_eq, show (V.int .i64 0) = .int .i64 ((0 : Nat) : Int) from rfl, h1, exB_same, R68_1_eq, gName, nameOk]
  cases hb : s.any badByte with
  | true => simp only [cond_true, Bool.not_true, Bool.and_false, Bool.false_and]
  | false =>
   simp only [cond_false, lnStr_sv, oB, binV_ii, intsV_geq, guardV_t, guardV_f, guardV_no, Bool.not_false, Bool.and_true]
   rw [show decide ((1 : Int) ≤ (s.length : Int)) = decide (1 ≤ s.length) by rw [decide_eq_decide]; omega]
   cases decide (1 ≤ s.length) with
   | false => rfl
   | true =>
    simp only [cond_true, lnStr_sv, oB, binV_ii, intsV_leq, pickV, guardV_t, guardV_f, guardV_no, Bool.true_and]
    rw [show decide ((s.length : Int) ≤ 56) = decide (s.length ≤ 56) by rw [decide_eq_decide]; omega]
    cases decide (s.length ≤ 56) with
    | false => rfl
    | true =>
     simp only [cond_true, oB, binV_ss, strOp_neq, pickV, guardV_t, guardV_f, guardV_no, Bool.true_and]
     cases (s == [46]) with
     | true => rfl
     | false =>
      simp only [Bool.not_false, cond_true, oB, binV_ss, strOp_neq, pickV, guardV_t, guardV_f, guardV_no, Bool.true_and]
end Go.Proofs.Ythmkdoaaciamlaa.W
namespace Go.Proofs.Ythmkdoaaciamlaa.W
open Go.Proofs.Ythmkdoaaciamlaa.Ev
def prevLess (p : Option (List UInt8)) (s : List UInt8) : Bool :=
 match p with
 | none => true
 | some q => Op.bytesLess q s
mutual
def mayN : Nd → Bool
 | .mk _ k e d l => if k = 1 then l.isEmpty else if k = 3 then !(d.any (· == 0)) && (!e && l.isEmpty && decide (1 ≤ d.length) && decide (d.length ≤ 255)) else if k = 2 then mayL none l && (!e && (d == [])) else false
def mayL : Option (List UInt8) → List Nd → Bool
 | _, [] => true
 | p, x :: l => (nameOk x.name && mayN x) && prevLess p x.name && mayL (some x.name) l
end
theorem mayN_eq (x : Nd) : mayN x = if x.kind = 1 then x.kids.isEmpty else if x.kind = 3 then !(x.data.any (· == 0)) && (!x.exec && x.kids.isEmpty && decide (1 ≤ x.data.length) && decide (x.data.length ≤ 255)) else if x.kind = 2 then mayL none x.kids && (!x.exec && (x.data == [])) else false := by
 cases x; rw [mayN]; rfl
noncomputable def gMay (x : Nd) : V := .bool (mayN x)
theorem L44d_spec (self : EV) (N : Nat) (nk : Ac → St → Rs) (ek : Nat → Ac → St → Rs) (x : Nd) (b : Nat) (hd : x.data.length ≤ 3000) (S : St) (hx : NodeAt S b x) :
 ∀ (r : List UInt8) (i n : Nat), x.data.drop i = r → r.length < n →
 L44_39 self N nk ek n (.ptr b 0) (.int .i64 (i : Int)) S = bif r.any (· == 0) then some (.ret (.bool false), S) else ek 1 (fr 102 [(1, .ptr b 0)]) S
 | r, i, 0, _, hn => by omega
 | [], i, n + 1, hi, hn => by
  rw [L44_39_eq]
  simp only [faP_ptr, Nat.zero_add, hx.f3, lnStr_sv, oB, binV_ii, intsV_lss, dec_ge (drop_end hi)]
  rfl
 | c :: r, i, n + 1, hi, hn => by
  obtain ⟨hlt, hc, hr, hmem⟩ := drop_at hi
  rw [L44_39_eq]
  simp only [faP_ptr, Nat.zero_add, hx.f3, lnStr_sv, oB, binV_ii, intsV_lss, dec_lt hlt, ifK_bool, cond_true, ixS_sv x.data .i64 i hlt, hc, intsV_eql]
  rw [List.any_cons, u8_eq c 0, show (UInt8.toNat 0) = 0 from rfl]
  cases h2 : decide ((c.toNat : Int) = ((0 : Nat) : Int)) with
  | true =>
   rfl
  | false =>
   simp only [cond_false, binV_ii, intsV_add, oB, wrap_succ (show i < 9223372036854775807 by omega), Bool.false_or]
   exact L44d_spec self N nk ek x b hd S hx r (i + 1) n hr (by simp at hn; omega)
def prevN (all : List Nd) : Nat → Option (List UInt8)
 | 0 => none
 | i + 1 => (all[i]?).map Nd.name
theorem L44k_spec (self : EV) (N : Nat) (nk : Ac → St → Rs) (ek : Nat → Ac → St → Rs) (x : Nd) (b : Nat) (ok : NdOk x) (h68 : ∀ y ∈ x.kids, ∀ s, self.f 68 [sv y.name] s = some (.ret (gName y.name), s))
 (h44 : ∀ y ∈ x.kids, ∀ s, self.f 44 [encN y] s = some (.ret (gMay y), s)) (S : St) (hx : NodeAt S b x) :
 ∀ (r : List Nd) (i n : Nat), x.kids.drop i = r → r.length < n →
 L44_67 self N nk ek n (.ptr b 0) (.int .i64 (i : Int)) S = bif mayL (prevN x.kids i) r then ek 3 (fr 102 [(1, .ptr b 0)]) S else some (.ret (.bool false), S)
 | r, i, 0, _, hn => by omega
 | [], i, n + 1, hi, hn => by
  rw [L44_67_eq]
  simp only [faP_ptr, oB, Nat.zero_add, hx.f4, lnS_kids, binV_ii, intsV_lss, dec_ge (drop_end hi), mayL]
  rfl
 | y :: r, i, n + 1, hi, hn => by
  obtain ⟨hlt, hy, hr, hmem⟩ := drop_at hi
  have hfew := ok.few
  rw [L44_67_eq, mayL]
  simp only [faP_ptr, oB, Nat.zero_add, hx.f4, lnS_kids, binV_ii, intsV_lss, dec_lt hlt, ifK_bool, cond_true, hx.o4, ixP_kids x.kids i hlt, hy, faP_kid, onS_rd, ld1_csv, h68 y hmem, callD_ret, gName, unV, guardV_t, guardV_f, guardV_no, Bool.not_not]
  cases hnm : nameOk y.name with
  | false =>
   simp only [cond_false, Bool.not_false, oB, callD_ret, pickV, cond_true, guardV_t, guardV_f, guardV_no, Bool.not_true, hx.o4, onS_onS]
   rw [endP_rd]
   · simp only [relog_onS hx.on, ifK_bool, cond_true, Bool.false_and, cond_false]
   · rfl
  | true =>
   simp only [cond_true, Bool.not_true, hx.o4, onS_onS, oB, ixP_kids x.kids i hlt, hy, onS_rd, ldA_kid, h44 y hmem, callD_ret, gMay, unV, pickV, cond_false, guardV_t, guardV_f, guardV_no, Bool.not_not]
   cases hmy : mayN y with
   | false =>
    simp only [cond_false, Bool.not_false, oB, cond_true, guardV_t, guardV_f, guardV_no, Bool.not_true, pickV, onS_onS]
    rw [endP_rd]
    · simp only [relog_onS hx.on, ifK_bool, cond_true, Bool.false_and, Bool.and_false, cond_false]
    · rfl
   | true =>
    simp only [cond_true, Bool.not_true, oB, cond_false, guardV_t, guardV_f, guardV_no, Bool.not_false, pickV, binV_ii, intsV_gtr, Bool.and_self, Bool.true_and]
    cases i with
    | zero =>
     simp only [show decide ((0 : Int) < ((0 : Nat) : Int)) = false from rfl, cond_false, oB, onS_onS]
     rw [endP_rd]
     · simp only [relog_onS hx.on, ifK_bool, cond_false, oB, binV_ii, intsV_add, wrap_succ (show 0 < 9223372036854775807 by omega), prevN, prevLess, Bool.true_and]
       rw [L44k_spec self N nk ek x b ok h68 h44 S hx r (0 + 1) n hr (by simp at hn; omega)]
       simp only [prevN, List.getElem?_eq_getElem hlt, hy, Option.map_some]
     · rfl
    | succ j =>
     have hj : j < x.kids.length := by omega
     simp only [show decide ((0 : Int) < ((j + 1 : Nat) : Int)) = true by simp, cond_true, oB, hx.o4, onS_onS, binV_ii, intsV_sub]
     rw [show ((j + 1 : Nat) : Int) - 1 = (j : Int) by omega, wrap_i64 (by omega) (by omega)]
     simp only [oB, ixP_kids x.kids j hj, ixP_kids x.kids (j + 1) hlt, hy, faP_kid, onS_rd, ld1_csv, hx.o4, onS_onS, binV_ss, strOp_geq]
     rw [endP_rd]
     · simp only [relog_onS hx.on, ifK_bool, prevN, prevLess, List.getElem?_eq_getElem hj, Option.map_some]
       cases hbl : Op.bytesLess x.kids[j].name y.name with
       | false => simp only [Bool.not_false, cond_true, Bool.false_and, cond_false]
       | true =>
        simp only [Bool.not_true, cond_false, Bool.true_and, binV_ii, intsV_add, wrap_succ (show j + 1 < 9223372036854775807 by omega), oB]
        rw [L44k_spec self N nk ek x b ok h68 h44 S hx r (j + 1 + 1) n hr (by simp at hn; omega)]
        simp only [prevN, List.getElem?_eq_getElem hlt, hy, Option.map_some]
     · rfl
theorem kn44 {K : FuncId → Option KF} (hK : KnOk Try.prog E0 K) (h68 : K 68 = some (kfText gName)) : KnWell Try.prog E0 44 (kfNode gMay) :=
 knNode_rec hK (fn := Try.f44) (c := C44) (d := B44) gMay (fun _ _ => .bool _) (by kernel_rfl) (by kernel_rfl) (annot_isOf C44 _ (by kernel_rfl)) 1 fun K' hK' x S ok hself ho => by
  obtain ⟨S1, k1, k2, k3, k4⟩ := node_box ho x
  have hok := ok.at
  refine ⟨S1, (?_ : F44 (ev E0 K' 1) rounds (encN x) S = _), k3⟩
  rw [F44_eq, k1]
  simp only [oB, faP_ptr, Nat.zero_add, k2.f1, binV_ii, intsV_eql, ifK_bool]
  rw [gMay, mayN_eq]
  by_cases h1 : x.kind = 1
  · simp only [h1, decide_true, cond_true, k2.f4, oB, lnS_kids, binV_ii, intsV_eql, if_true]
    congr 4
    cases x.kids with
    | nil => rfl
    | cons y l => simp; omega
  · simp only [h1, decide_false, cond_false, if_false]
    by_cases h3 : x.kind = 3
    · have hl := L44d_spec (ev E0 K' 1) rounds (R44_15 (ev E0 K' 1) rounds (R44_2 (ev E0 K' 1) rounds (finN E0 (ev E0 K' 1) Try.f44) noEx) (exB 0 (R44_2 (ev E0 K' 1) rounds (finN E0 (ev E0 K' 1) Try.f44) noEx) noEx)) (exB 1 (R44_15 (ev E0 K' 1) rounds (R44_2 (ev E0 K' 1) rounds (finN E0 (ev E0 K' 1) Try.f44) noEx) (exB 0 (R44_2 (ev E0 K' 1) rounds (finN E0 (ev E0 K' 1) Try.f44) noEx) noEx)) (exB 0 (R44_2 (ev E0 K' 1) rounds (finN E0 (ev E0 K' 1) Try.f44) noEx) noEx)) x S.next hok.data S1 k2 x.data 0 rounds rfl (by have := hok.data; unfold rounds; omega)
      rw [show ((0 : Nat) : Int) = 0 from rfl] at hl
      simp only [h3, decide_true, cond_true, if_true, hl, exB_same]
      cases hz : x.data.any (· == 0) with
      | true => rfl
      | false =>
       rw [R44_15_eq]
       simp only [cond_false, faP_ptr, Nat.zero_add, k2.f2, oB, unV, guardV_t, guardV_f, guardV_no, Bool.not_false, Bool.true_and]
       cases he : x.exec with
       | true => rfl
       | false =>
        simp only [Bool.not_false, cond_true, k2.f4, oB, lnS_kids, binV_ii, intsV_eql, pickV, guardV_t, guardV_f, guardV_no, Bool.true_and]
        rw [show decide ((x.kids.length : Int) = 0) = x.kids.isEmpty by cases x.kids with
         | nil => rfl
         | cons y l => simp; omega]
        cases x.kids.isEmpty with
        | false => rfl
        | true =>
         simp only [cond_true, k2.f3, oB, lnStr_sv, binV_ii, intsV_geq, pickV, guardV_t, guardV_f, guardV_no, Bool.true_and]
         rw [show decide ((1 : Int) ≤ (x.data.length : Int)) = decide (1 ≤ x.data.length) by rw [decide_eq_decide]; omega]
         cases decide (1 ≤ x.data.length) with
         | false => rfl
         | true =>
          simp only [cond_true, k2.f3, oB, lnStr_sv, binV_ii, intsV_leq, pickV, guardV_t, guardV_f, guardV_no, Bool.true_and]
          rw [show decide ((x.data.length : Int) ≤ 255) = decide (x.data.length ≤ 255) by rw [decide_eq_decide]; omega]
    · simp only [h3, decide_false, cond_false, if_false]
      by_cases h2 : x.kind = 2
      · have hl := L44k_spec (ev E0 K' 1) rounds (R44_56 (ev E0 K' 1) rounds (R44_2 (ev E0 K' 1) rounds (finN E0 (ev E0 K' 1) Try.f44) noEx) (exB 0 (R44_2 (ev E0 K' 1) rounds (finN E0 (ev E0 K' 1) Try.f44) noEx) noEx)) (exB 3 (R44_56 (ev E0 K' 1) rounds (R44_2 (ev E0 K' 1) rounds (finN E0 (ev E0 K' 1) Try.f44) noEx) (exB 0 (R44_2 (ev E0 K' 1) rounds (finN E0 (ev E0 K' 1) Try.f44) noEx) noEx)) (exB 0 (R44_2 (ev E0 K' 1) rounds (finN E0 (ev E0 K' 1) Try.f44) noEx) noEx)) x S.next hok
         (fun y hy s => by rw [ev_known (show K' 68 = _ by rw [hK' 68 (by decide)]; exact h68), kfText_run _ _ (hok.kids y hy).at.name]) (fun y hy s => hself y s 0 hy) S1 k2 x.kids 0 rounds rfl (by have := hok.few; unfold rounds; omega)
        rw [show ((0 : Nat) : Int) = 0 from rfl] at hl
        simp only [h2, decide_true, cond_true, if_true, hl, exB_same]
        rw [show prevN x.kids 0 = none from rfl]
        cases mayL none x.kids with
        | false => rfl
        | true =>
         rw [R44_56_eq]
         simp only [cond_true, faP_ptr, Nat.zero_add, k2.f2, oB, unV, guardV_t, guardV_f, guardV_no, Bool.true_and]
         cases he : x.exec with
         | true => rfl
         | false =>
          simp only [Bool.not_false, cond_true, k2.f3, oB, pickV, Bool.true_and]
          simp only [binV_ss, strOp_eql, oB]
      · simp only [h2, decide_false, cond_false, if_false]
        rw [R44_2_eq]
end Go.Proofs.Ythmkdoaaciamlaa.W
