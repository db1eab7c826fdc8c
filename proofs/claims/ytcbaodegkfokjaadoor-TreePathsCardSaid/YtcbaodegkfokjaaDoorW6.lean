/-
  WHAT THE FUNCTIONS COME TO: each is read by the evaluator, printed, and told as a function of data, part 6 of 8 (no condition).
-/
import Derived.Test.YtcbaodegkfokjaaDoorW5
namespace Go.Proofs.YtcbaodegkfokjaaDoor.W
open Go.Proofs.YtcbaodegkfokjaaDoor.Ev
def rowOf (v : V) (b : Nat) : Prop := ∃ n, v = .oslice b 0 n 1
theorem ListAt.row {s : St} {F : Nat → Prop} {e : Nat} {v : V} {acc : List V} (h : ListAt s F e v acc) : ListAt s (rowOf v) e v acc ∧ ∀ b, rowOf v b → F b ∧ b < s.next := by
 rcases h with ⟨h1, rfl⟩ | ⟨h1, r, rfl, h3, h4, h5⟩
 · exact ⟨.inl ⟨h1, rfl⟩, fun b ⟨n, h⟩ => by cases h⟩
 · refine ⟨.inr ⟨h1, r, rfl, h3, ⟨_, rfl⟩, h5⟩, fun b ⟨n, h⟩ => ?_⟩
   cases h
   exact ⟨h4, h5⟩
structure EachI (l p3 : Nat) (O : Nat → Prop) (acc : List (List UInt8)) (S : St) : Prop where
 on : S.on = false
 lt : ∀ b, O b → b < S.next
 hl : ¬ O l
 hp : ¬ O p3
 ne : l ≠ p3
 ll : l < S.next
 lp : p3 < S.next
 rec_ : S.heap.get l = some (O9_32 0 none (.ptr p3 0))
 list : ∃ v, AgAt S p3 32 1 (one v) ∧ ListAt S (fun b => ¬ O b ∧ b ≠ l ∧ b ≠ p3) 9 v (acc.map sv)
theorem each_yd {K : FuncId → Option KF} (l p3 : Nat) : Yd K 1 (.yield l) (EachI l p3) where
 on := fun h => h.on
 lt := fun h => h.lt _
 one := ⟨rfl, rfl, rfl, rfl⟩
 weak := fun h hw => ⟨h.on, fun b hb => h.lt b (hw b hb), fun hb => h.hl (hw _ hb), fun hb => h.hp (hw _ hb), h.ne, h.ll, h.lp, h.rec_, by
  obtain ⟨v, h1, h2⟩ := h.list
  exact ⟨v, h1, h2.mono fun r hr _ => ⟨fun hb => hr.1 (hw _ hb), hr.2⟩⟩⟩
 keep := fun {O acc S S'} h g => by
  have hn := g.next
  have ll := h.ll
  have lp := h.lp
  refine ⟨g.on.trans h.on, fun b hb => ?_, fun hb => ?_, fun hb => ?_, h.ne, by omega, by omega, by rw [g.keep l h.ll h.hl]; exact h.rec_, ?_⟩
  · rcases hb with hb | hb
    · have := h.lt b hb; omega
    · exact hb.2
  · rcases hb with hb | hb
    · exact h.hl hb
    · omega
  · rcases hb with hb | hb
    · exact h.hp hb
    · omega
  · obtain ⟨v, h1, h2⟩ := h.list
    have h2' := h2.mono (F' := fun b => ¬ (O b ∨ (S.next ≤ b ∧ b < S'.next)) ∧ b ≠ l ∧ b ≠ p3) fun r hr hlt => ⟨fun hb => by
     rcases hb with hb | hb
     · exact hr.1 hb
     · omega, hr.2⟩
    exact ⟨v, h1.grew h.lp h.hp g, h2'.grew (fun r hr _ hO => hr.1 (.inl hO)) g⟩
 call := fun {O acc S q x} h okx hq hacc n hn => by
  obtain ⟨k, rfl⟩ : ∃ k, n = k + 1 := ⟨n - 1, by omega⟩
  have ho := h.on
  obtain ⟨v, h1, h2⟩ := h.list
  have hmid : midR l (frR 34 [(3, .ptr p3 0), (6, sv q), (26, sv q), (27, encN x)] l) S = fun k => k (S.put l (O9_32 2 none (.ptr p3 0))) := funext fun k => midR_of ho h.rec_ rfl
  have g2 : Grew (fun b => b = l) S (S.put l (O9_32 2 none (.ptr p3 0))) := grew_put l _
  have hl2 : (S.put l (O9_32 2 none (.ptr p3 0))).heap.get l = some (O9_32 2 none (.ptr p3 0)) := by rw [put_get, if_pos rfl]
  have n2 : (S.put l (O9_32 2 none (.ptr p3 0))).next = S.next := rfl
  generalize S.put l (O9_32 2 none (.ptr p3 0)) = S2 at g2 hl2 n2 hmid
  have on2 := g2.on.trans ho
  have p2 := h1.grew h.lp (fun e => h.ne e.symm) g2
  have l2 := h2.grew (fun r hr _ e => hr.2.1 e) g2
  have ll := h.ll
  have lp := h.lp
  obtain ⟨t, v', u, a1, a2, a3, a4, a5⟩ := l2.add (B := 16) on2 (by rw [List.length_map]; unfold maxCells; omega) (by rw [List.length_map]; unfold big; omega) (one (sv [])) (oneV_sv q)
  have on3 := a4.on.trans on2
  have p3' := p2.grew (by omega) (fun hr => hr.2.2 rfl) a4
  have hl3 : u.heap.get l = some (O9_32 2 none (.ptr p3 0)) := by rw [a4.keep l (by omega) (fun hr => hr.2.1 rfl)]; exact hl2
  obtain ⟨w, b1, b2, b3, b4⟩ := p3'.st_one on3 v' a3.one.size a3.one.cells a3.one.tup
  have on4 := b3.on.trans on3
  have hl4 : w.heap.get l = some (O9_32 2 none (.ptr p3 0)) := by rw [b3.keep l (by omega) h.ne]; exact hl3
  have g5 : Grew (fun b => b = l) w (w.put l (O9_32 0 none (.ptr p3 0))) := grew_put l _
  have n5 : (w.put l (O9_32 0 none (.ptr p3 0))).next = w.next := rfl
  have a3' : ListAt u (fun b => ¬ O b ∧ b ≠ l ∧ b ≠ p3) 9 v' ((acc ++ [q]).map sv) := by
   rw [List.map_append]
   exact a3.mono fun r hr _ => ⟨fun hO => by have := h.lt r hO; omega, by omega, by omega⟩
  refine ⟨w.put l (O9_32 0 none (.ptr p3 0)), ?_, ⟨(g5.on.trans on4), fun b hb => by have := h.lt b hb; omega, h.hl, h.hp, h.ne, by omega, by omega, by rw [put_get, if_pos rfl], v', b2.grew (by omega) (fun e => h.ne e.symm) g5, (a3'.grew (fun r hr _ e => hr.2.2 e) b3).grew (fun r hr _ e => hr.2.1 e) g5⟩, ?_⟩
  · refine round_run (da := DA9_32) (db := DB9_32) ho h.rec_ (annot_isOf YA9_32 _ (by kernel_rfl)) (annot_isOf YB9_32 _ (by kernel_rfl)) (?_ : Y9_32 (ev E0 K k) rounds l (.ptr p3 0) (sv q) (encN x) S = _)
    rw [Y9_32_eq, hmid]
    dsimp only
    rw [AgAt.ld1 on2 p2 big1 (by decide) rfl, oB]
    dsimp only
    rw [a1, oB]
    dsimp only
    rw [a2, oB]
    dsimp only
    rw [b1, oB]
    exact endRound_of on4 hl4
  · refine (((g2.mono fun b _ hb => ?_).trans (a4.mono fun b _ hb => hb.1)).trans (b3.mono fun b _ hb => ?_)).trans (g5.mono fun b _ hb => ?_)
    · rw [hb]; exact h.hl
    · rw [hb]; exact h.hp
    · rw [hb]; exact h.hl
end Go.Proofs.YtcbaodegkfokjaaDoor.W
namespace Go.Proofs.YtcbaodegkfokjaaDoor.W
open Go.Proofs.YtcbaodegkfokjaaDoor.Ev
theorem fin18 {self : EV} {v v3 : V} (S : St) (ho : S.on = false) (bs : List Nat) (hn : bs.Nodup) (h : ∀ b ∈ bs, S.heap.get b = some .defb) : ∃ S', finR E0 self Tryd.f9 (frD 34 [(2, v), (3, v3), (33, v)] (bs.map mkR)) S = some (.ret v, S') ∧ Grew (fun b => b ∈ bs) S S' := by
 have hl : ∀ ds S, leaves E0 self Tryd.f9 (frD 34 [(2, v), (3, v3), (33, v)] ds) [] .ret S = some (.ret v, S) := fun ds S => by kernel_rfl
 cases bs with
 | nil =>
  refine ⟨S, ?_, Grew.refl _ _⟩
  unfold finR
  show resK E0 (frD 34 [(2, v), (3, v3), (33, v)] []) Tryd.f9.results.toList _ S = _
  kernel_rfl
 | cons b bs =>
  obtain ⟨S', h1, h2, _⟩ := leaves_marks (E := E0) (self := self) (fn := Tryd.f9) (a := frD 34 [(2, v), (3, v3), (33, v)] ((b :: bs).map mkR)) (m := .ret) (b :: bs) ho hn h
  refine ⟨S', ?_, h2⟩
  rw [finR_defer (d := mkR b) (ds := bs.map mkR) rfl]
  rw [List.map_cons] at h1
  rw [List.map_cons, h1, hl]
theorem L18_spec {K : FuncId → Option KF} (h39 : K 26 = none) (h67 : K 40 = none) (m N : Nat) (hm : 60 ≤ m) (x : Nd) (hk : ∀ z ∈ x.kids, z.ok ∧ mayN z = true ∧ z.name.length ≤ 56 ∧ deepN 13 z < 13) (hfew : x.kids.length ≤ 3000) (N0 p3 : Nat) (hp3 : N0 ≤ p3) (v2 : V) :
 ∀ (r : List Nd) (i n : Nat) (v : V) (acc : List (List UInt8)) (bs : List Nat) (S : St), x.kids.drop i = r → r.length < n → S.on = false → N0 ≤ S.next → p3 < S.next →
 AgAt S p3 32 1 (one v) → ListAt S (fun b => N0 ≤ b ∧ b ≠ p3 ∧ b ∉ bs) 9 v (acc.map sv) →
 (∀ b ∈ bs, N0 ≤ b ∧ b < S.next ∧ b ≠ p3 ∧ S.heap.get b = some .defb) → bs.Nodup → acc.length + (pathsL r []).length ≤ 3000 →
 ∃ v' S', L9_19 (ev E0 K m) N (R9_12 (ev E0 K m) N (finN E0 (ev E0 K m) Tryd.f9) noEx) (exB 0 (R9_12 (ev E0 K m) N (finN E0 (ev E0 K m) Tryd.f9) noEx) noEx) n (bs.map mkR) v2 (.ptr p3 0) (kidsV (encL x.kids)) (.int .i64 (x.kids.length : Int)) (.int .i64 (i : Int)) S = some (.ret v', S') ∧ ListAt S' (fun b => N0 ≤ b) 9 v' ((acc ++ pathsL r []).map sv) ∧ Grew (fun b => N0 ≤ b) S S'
 | r, i, 0, v, acc, bs, S, _, hn, _, _, _, _, _, _, _, _ => by omega
 | [], i, n + 1, v, acc, bs, S, hi, hn, ho, hN, lp, hv, hla, hbs, hnd, hl => by
  rw [L9_19_eq, binV_ii, intsV_lss, dec_ge (drop_end hi), oB, ifK_bool, cond_false, exB_same, R9_12_eq, AgAt.ld1 ho hv big1 (by decide) rfl, oB]
  dsimp only
  obtain ⟨S', h1, h2⟩ := fin18 (self := ev E0 K m) (v := v) (v3 := .ptr p3 0) S ho bs hnd fun b hb => (hbs b hb).2.2.2
  refine ⟨v, S', h1, ?_, h2.mono fun b _ hb => (hbs b hb).1⟩
  rw [pathsL, List.append_nil]
  exact (hla.grew (fun b hb _ hbb => hb.2.2 hbb) h2).mono fun b hb _ => hb.1
 | z :: r, i, n + 1, v, acc, bs, S, hi, hn, ho, hN, lp, hv, hla, hbs, hnd, hl => by
  obtain ⟨hlt, hz, hr, hmem⟩ := drop_at hi
  obtain ⟨okz, mayz, nmz, dz⟩ := hk z hmem
  obtain ⟨m', rfl⟩ : ∃ m', m = m' + 1 := ⟨m - 1, by omega⟩
  obtain ⟨S1, a1, a2, a3, a4⟩ := node_new ho (Tr.ofListFrom .nil [(sv []), (.int .i64 0), (.bool false), (sv []), .nilslice] 0) z
  have hv1 := hv.grew lp (fun h => h) a3
  have hla1 := hla.grew (fun _ _ _ h => h) a3
  obtain ⟨S2, c1, c2, c3, c4, c5⟩ := f39_run h39 m' z z.name S1 a2.on
  have on2 := c4.on.trans a2.on
  have hv2 := hv1.grew (by omega) (fun h => h) c4
  have hla2 := hla1.grew (fun _ _ _ h => h) c4
  have g3 : Grew (fun _ => False) S2 (nw (nw S2 .defb) (O9_32 0 none (.ptr p3 0))) := (grew_nw on2 _ _).trans (grew_nw (nw_on on2 _) _ _)
  have n3 : (nw (nw S2 .defb) (O9_32 0 none (.ptr p3 0))).next = S2.next + 2 := rfl
  have hd3 : (nw (nw S2 .defb) (O9_32 0 none (.ptr p3 0))).heap.get S2.next = some .defb := by
   rw [nw_get, if_neg (by show S2.next ≠ S2.next + 1; omega), nw_get, if_pos rfl]
  have hl3 : (nw (nw S2 .defb) (O9_32 0 none (.ptr p3 0))).heap.get (S2.next + 1) = some (O9_32 0 none (.ptr p3 0)) := by
   rw [nw_get]; exact if_pos rfl
  have hrange := fun (self : EV) (kn kr : St → Rs) (ke : Nat → St → Rs) (kp : V → St → Rs) => rangeP_fn (s := S2) (self := self) (first := []) (captured := [.ptr (S1.next + 1) 0, .ptr S1.next 0]) (o := O9_32 0 none (.ptr p3 0)) (kn := kn) (kr := kr) (ke := ke) (kp := kp) body67.1 body67.2
  generalize nw (nw S2 .defb) (O9_32 0 none (.ptr p3 0)) = S3 at g3 n3 hd3 hl3 hrange
  have on3 := g3.on.trans on2
  have g03 : Grew (fun _ => False) S S3 := (a3.trans c4).trans g3
  have hv3 := hv2.grew (by omega) (fun h => h) g3
  have hla3 := hla2.grew (fun _ _ _ h => h) g3
  have c2' := c2.grew (by omega) (fun h => h) g3
  have c3' := c3.grew (by omega) (fun h => h) g3
  obtain ⟨hrow, hrowF⟩ := ListAt.row hla
  obtain ⟨hrow3, _⟩ := ListAt.row hla3
  have iin : EachI (S2.next + 1) p3 (fun b => b < S3.next ∧ b ≠ S2.next + 1 ∧ b ≠ p3 ∧ ¬ rowOf v b) acc S3 :=
   ⟨on3, fun b hb => hb.1, fun hb => hb.2.1 rfl, fun hb => hb.2.2.1 rfl, by omega, by omega, by omega, hl3, v, hv3, hrow3.mono fun b hb _ => ⟨fun h => h.2.2.2 hb, by have := (hrowF b hb).2; omega, (hrowF b hb).1.2.1⟩⟩
  have hnew : ∀ b, S.next ≤ b → b < S3.next → b ≠ S2.next + 1 → (b < S3.next ∧ b ≠ S2.next + 1 ∧ b ≠ p3 ∧ ¬ rowOf v b) := fun b h1 h2 h3 => ⟨h2, h3, by omega, fun h => by have := (hrowF b h).2; omega⟩
  rw [pathsL, List.length_append] at hl
  have hpz : pathOf [] z = z.name := by unfold pathOf; rw [if_pos rfl]
  rw [hpz] at hl
  obtain ⟨S4, e1, e2, e3⟩ := walked h39 h67 13 z dz okz mayz z.name 1 (.yield (S2.next + 1)) _ (each_yd (S2.next + 1) p3) _ acc S3 (S1.next + 1) S1.next iin
   (hnew _ (by omega) (by omega) (by omega)) (hnew _ (by omega) (by omega) (by omega)) c3' c2' (by omega) (by omega) (m' + 1) (by omega)
  obtain ⟨v', hv4, hla4⟩ := e2.list
  have on4 := e2.on
  have n34 := e3.next
  have g5 : Grew (fun b => b = S2.next + 1) S4 (S4.put (S2.next + 1) (O9_32 3 none (.ptr p3 0))) := grew_put _ _
  have n5 : (S4.put (S2.next + 1) (O9_32 3 none (.ptr p3 0))).next = S4.next := rfl
  have hend' : ∀ (kn kr : St → Rs) (ke : Nat → St → Rs), endLP (S2.next + 1) S4 kn kr ke = kn (S4.put (S2.next + 1) (O9_32 3 none (.ptr p3 0))) := fun kn kr ke => endLP_norm (kn := kn) (kr := kr) (ke := ke) on4 e2.rec_ (by decide)
  generalize S4.put (S2.next + 1) (O9_32 3 none (.ptr p3 0)) = S5 at g5 n5 hend'
  have on5 := g5.on.trans on4
  have hkeep : ∀ b, b < S3.next → b ≠ S2.next + 1 → b ≠ p3 → ¬ rowOf v b → S5.heap.get b = S3.heap.get b := fun b h0 h1 h2 h3 => by
   rw [g5.keep b (by omega) h1, e3.keep b h0 (fun h => h ⟨h0, h1, h2, h3⟩)]
  have hv5 := hv4.grew (by omega) (fun e => by omega) g5
  have hbs5 : ∀ b ∈ S2.next :: bs, N0 ≤ b ∧ b < S5.next ∧ b ≠ p3 ∧ S5.heap.get b = some .defb := fun b hb => by
   rcases List.mem_cons.1 hb with rfl | hb
   · refine ⟨by omega, by omega, by omega, ?_⟩
     rw [hkeep _ (by omega) (by omega) (by omega) (fun h => by have := (hrowF _ h).2; omega)]
     exact hd3
   · obtain ⟨q1, q2, q3, q4⟩ := hbs b hb
     refine ⟨q1, by omega, q3, ?_⟩
     rw [hkeep b (by omega) (by omega) q3 (fun h => (hrowF b h).1.2.2 hb), g03.keep b q2 (fun h => h)]
     exact q4
  have hnd5 : (S2.next :: bs).Nodup := List.nodup_cons.2 ⟨fun hb => by
   have := (hbs _ hb).2.1
   omega, hnd⟩
  have hla5 : ListAt S5 (fun b => N0 ≤ b ∧ b ≠ p3 ∧ b ∉ S2.next :: bs) 9 v' ((acc ++ pathsN z z.name).map sv) := by
   refine (hla4.grew (fun b hb _ e => hb.2.1 e) g5).mono fun b hb hlt => ?_
   by_cases h3 : b < S3.next
   · have hr : rowOf v b := by
      by_cases hr : rowOf v b
      · exact hr
      · exact absurd ⟨h3, hb.2.1, hb.2.2, hr⟩ hb.1
     obtain ⟨⟨q1, q2, q3⟩, q4⟩ := hrowF b hr
     refine ⟨q1, q2, fun hm => ?_⟩
     rcases List.mem_cons.1 hm with e | hm
     · omega
     · exact q3 hm
   · refine ⟨by omega, by omega, fun hm => ?_⟩
     rcases List.mem_cons.1 hm with e | hm
     · omega
     · have := (hbs b hm).2.1
       omega
  obtain ⟨vf, S6, k1, k2, k3⟩ := L18_spec h39 h67 (m' + 1) N hm x hk hfew N0 p3 hp3 v2 r (i + 1) n v' (acc ++ pathsN z z.name) (S2.next :: bs) S5 hr (by simp at hn; omega) on5 (by omega) (by omega) hv5 hla5 hbs5 hnd5 (by rw [List.length_append]; omega)
  refine ⟨vf, S6, ?_, by rw [pathsL, hpz, ← List.append_assoc]; exact k2, ?_⟩
  · rw [L9_19_eq, binV_ii, intsV_lss, dec_lt hlt, oB, ifK_bool, cond_true, ixP_kids x.kids i hlt, hz, oB, ldA_kid, oB, oB, nwP_fst, a1, oB]
    dsimp only
    rw [a2.fA, oB]
    dsimp only
    rw [faP_ptr, oB, Nat.zero_add, a2.f0, oB]
    dsimp only
    rw [c1, callPF_ret, hrange]
    show onEn ((ev E0 K (m' + 1)).f 40 [.yield (S2.next + 1), .ptr (S1.next + 1) 0, .ptr S1.next 0] S3) _ _ = _
    rw [e1]
    show endLP (S2.next + 1) S4 _ _ _ = _
    rw [hend', R9_21_eq, binV_ii, intsV_add, wrap_succ (show i < 9223372036854775807 by omega), oB, N9_19_eq]
    exact k1
  · refine (((g03.mono fun _ _ h => h.elim).trans (e3.mono fun b hb hnb => ?_)).trans (g5.mono fun b _ hb => by omega)).trans k3
    by_cases h0 : N0 ≤ b
    · exact h0
    · exact absurd ⟨hb, by omega, by omega, fun h => h0 (hrowF b h).1.1⟩ hnb
structure FewIn where
 x : Nd
 ok : x.ok
 may : mayN x = true
 cnt : cntN x ≤ 3000
noncomputable def encFew (p : FewIn) : List V := [encN p.x]
def eachN (x : Nd) : List (List UInt8) := if tooDeepN x then [] else if x.kind = 2 then pathsL x.kids [] else []
noncomputable def gEach (x : Nd) : V := listV ((eachN x).map sv)
noncomputable def kfEach : KF := specKF encFew (fun p : FewIn => En.ret (gEach p.x))
theorem kfEach_run (x : Nd) (ok : x.ok) (may : mayN x = true) (cnt : cntN x ≤ 3000) (S : St) : kfEach.run [encN x] S = some (.ret (gEach x), S) :=
 specKF_run (enc := encFew) (out := fun p : FewIn => En.ret (gEach p.x)) (fun p q h => by
  simp only [encFew, List.cons.injEq, and_true] at h
  rw [encN_inj h]) ⟨x, ok, may, cnt⟩ S
mutual
theorem pathsN_len : ∀ (x : Nd) (p : List UInt8), (pathsN x p).length ≤ cntN x
 | .mk n k e d l, p => by
  have := pathsL_len l p
  rw [pathsN, cntN, List.length_cons]
  split
  · omega
  · simp
theorem pathsL_len : ∀ (l : List Nd) (p : List UInt8), (pathsL l p).length ≤ cntL l
 | [], p => by rw [pathsL, cntL]; simp
 | x :: l, p => by
  have := pathsN_len x (pathOf p x)
  have := pathsL_len l p
  rw [pathsL, cntL, List.length_append]
  omega
end
theorem kn18 {K : FuncId → Option KF} (hK : KnOk Tryd.prog E0 K) (h35 : K 24 = some (kfNode gTooDeep)) (h39 : K 26 = none) (h67 : K 40 = none) : KnWell Tryd.prog E0 9 kfEach :=
 specKF_text (c := C9) (d := B9) E0_ok hK (by kernel_rfl) (by kernel_rfl) (annot_isOf C9 _ (by kernel_rfl)) fun p S ho => by
  obtain ⟨x, ok, may, cnt⟩ := p
  suffices h : ∃ v S', F9 (ev E0 K 60) rounds (encN x) S = some (.ret v, S') ∧ ListAt S' (fun b => S.next ≤ b) 9 v ((eachN x).map sv) ∧ Grew (fun b => S.next ≤ b) S S' by
   obtain ⟨v, S', h1, h2, h3⟩ := h
   refine ⟨60, .ret v, S', h1, h3.mono fun b hb h => by omega, ?_⟩
   exact h2.fz (fun r hr => hr) fun u hu => by
    obtain ⟨q, _, rfl⟩ := List.mem_map.1 hu
    exact ⟨oneV_sv q, .str _ _⟩
  obtain ⟨S1, a1, a2, a3, a4⟩ := node_box ho x
  obtain ⟨b1, b2, b3⟩ := ag_new a2.on 32 1 (one .nilslice)
  have on2 : (nwP 32 1 (one .nilslice) S1).2.on = false := b2.on.trans a2.on
  rw [F9_eq, a1, oB, oB, nwP_fst]
  dsimp only
  generalize (nwP 32 1 (one .nilslice) S1).2 = S2 at b1 b2 b3 on2
  have nx2 := a2.grew (by omega) (fun h => h) b2
  rw [nx2.fA, oB]
  dsimp only
  rw [ev_known h35, kfNode_run _ x ok, callPF_ret, gTooDeep]
  have hgr : Grew (fun b => S.next ≤ b) S S2 := (a3.trans b2).mono fun _ _ h => h.elim
  have hnil : ∀ S : St, ListAt S (fun b => S1.next ≤ b) 9 .nilslice ([] : List V) := fun S => .inl ⟨rfl, rfl⟩
  unfold eachN
  cases ht : tooDeepN x with
  | true =>
   rw [guardV_f, Bool.not_true, oB, cond_false, oB, oB, cond_false, oB, oB, cond_false, oB, pickV_bool, cond_true, oB, ifK_bool, cond_true]
   rw [AgAt.ld1 on2 b1 big1 (by decide) rfl, oB]
   refine ⟨.nilslice, S2, ?_, .inl ⟨rfl, rfl⟩, hgr⟩
   unfold finR
   show resK E0 _ Tryd.f9.results.toList _ S2 = _
   kernel_rfl
  | false =>
   rw [guardV_f, Bool.not_false, oB, cond_true, faP_ptr, Nat.zero_add, oB, oB, cond_true, nx2.f1, oB, oB, cond_true]
   dsimp only
   rw [binV_ii, intsV_neq, oB, pickV_bool, cond_false, oB, ifK_bool]
   by_cases hk : x.kind = 2
   · rw [decide_eq_true hk, Bool.not_true, cond_false, faP_ptr, oB, Nat.zero_add, nx2.f4, oB]
     dsimp only
     rw [lnS_kids, oB]
     dsimp only
     have hnm := may_names may hk
     have hcl := pathsL_len x.kids []
     rw [cntN_eq] at cnt
     have hdeep : deepN 14 x < 14 := by
      unfold tooDeepN at ht
      simp at ht
      omega
     obtain ⟨v, S3, c1, c2, c3⟩ := L18_spec h39 h67 60 rounds (Nat.le_refl _) x (fun z hz => ⟨ok.at.kids z hz, (hnm z hz).1, (nameOk_all (hnm z hz).2).2.1, by
      have : deepN 13 z < deepN 14 x := deep_kid (m := 13) hk hz hdeep
      unfold tooDeepN at ht
      simp at ht
      omega⟩) ok.at.few S.next S1.next (by omega) .nilslice x.kids 0 rounds .nilslice [] [] S2 rfl (by have := ok.at.few; unfold rounds; omega) on2 (by omega) (by omega) b1 (.inl ⟨rfl, rfl⟩) (fun b hb => by cases hb) List.nodup_nil (by rw [List.length_nil]; omega)
     rw [if_neg (by simp), if_pos hk]
     exact ⟨v, S3, c1, by rw [List.nil_append] at c2; exact c2, hgr.trans c3⟩
   · rw [decide_eq_false hk, Bool.not_false, cond_true, AgAt.ld1 on2 b1 big1 (by decide) rfl, oB, if_neg (by simp), if_neg hk]
     refine ⟨.nilslice, S2, ?_, .inl ⟨rfl, rfl⟩, hgr⟩
     unfold finR
     show resK E0 _ Tryd.f9.results.toList _ S2 = _
     kernel_rfl
end Go.Proofs.YtcbaodegkfokjaaDoor.W
namespace Go.Proofs.YtcbaodegkfokjaaDoor.W
open Go.Proofs.YtcbaodegkfokjaaDoor.Ev
theorem nameOk_slash {s : List UInt8} (h : nameOk s = true) : (47 : UInt8) ∉ s := fun hm => by
 have := (nameOk_all h).2.2
 rw [List.any_eq_false] at this
 exact absurd rfl (this 47 hm)
theorem each_len {x : Nd} : (eachN x).length ≤ cntN x := by
 unfold eachN
 split
 · simp
 · split
   · have := pathsL_len x.kids []
     rw [cntN_eq]; omega
   · simp
mutual
theorem pathsN_long : ∀ (x : Nd) (p : List UInt8) (d : Nat), mayN x = true → deepN d x < d → p.length + 57 * d ≤ 10000 → ∀ q ∈ pathsN x p, q.length ≤ 10000
 | .mk n k e d l, p, 0, h, hd, _ => by omega
 | .mk n k e d l, p, m + 1, h, hd, hp => fun q hq => by
  have hx := pathsN_eq (.mk n k e d l) p
  rw [hx] at hq
  rcases List.mem_cons.1 hq with rfl | hq
  · omega
  · rcases mayCase h with ⟨hk, hkids⟩ | ⟨hk, hkids⟩ | ⟨hk, hkids⟩
    · rw [if_neg (by omega)] at hq; cases hq
    · rw [if_neg (by omega)] at hq; cases hq
    · rw [if_pos hk] at hq
      exact pathsL_long l p m (fun y hy => ⟨(mayL_all hkids y hy).1, (mayL_all hkids y hy).2, by have := deep_kid hk hy hd; omega⟩) (by omega) q hq
theorem pathsL_long : ∀ (l : List Nd) (p : List UInt8) (d : Nat), (∀ y ∈ l, nameOk y.name = true ∧ mayN y = true ∧ deepN d y < d) → p.length + 57 + 57 * d ≤ 10000 → ∀ q ∈ pathsL l p, q.length ≤ 10000
 | [], p, d, _, _ => fun q hq => by rw [pathsL] at hq; cases hq
 | y :: l, p, d, h, hp => fun q hq => by
  obtain ⟨h1, h2, h3⟩ := h y (List.mem_cons_self ..)
  rw [pathsL] at hq
  rcases List.mem_append.1 hq with hq | hq
  · refine pathsN_long y (pathOf p y) d h2 h3 ?_ q hq
    have := nameOk_len h1
    unfold pathOf
    split
    · omega
    · rw [List.length_append, List.length_append, List.length_singleton]; omega
  · exact pathsL_long l p d (fun z hz => h z (List.mem_cons_of_mem _ hz)) hp q hq
end
theorem each_long {x : Nd} (hd : tooDeepN x = false) (h : mayN x = true) : ∀ q ∈ eachN x, q.length ≤ 10000 := fun q hq => by
 unfold eachN at hq
 rw [hd, if_neg (by simp)] at hq
 have hdeep : deepN 14 x < 14 := by
  unfold tooDeepN at hd
  simp at hd
  omega
 rcases mayCase h with ⟨hk, hkids⟩ | ⟨hk, hkids⟩ | ⟨hk, hkids⟩
 · rw [if_neg (by omega)] at hq; cases hq
 · rw [if_neg (by omega)] at hq; cases hq
 · rw [if_pos hk] at hq
   refine pathsL_long x.kids [] 13 (fun y hy => ⟨(mayL_all hkids y hy).1, (mayL_all hkids y hy).2, ?_⟩) (by rw [List.length_nil]; omega) q hq
   have : deepN 13 y < deepN 14 x := deep_kid (m := 13) hk hy hdeep
   unfold tooDeepN at hd
   simp at hd
   omega
end Go.Proofs.YtcbaodegkfokjaaDoor.W
namespace Go.Proofs.YtcbaodegkfokjaaDoor.W
open Go.Proofs.YtcbaodegkfokjaaDoor.Ev
section
variable {s : St}
theorem slice_one {N0 : Nat} {v : V} {acc : List Nd} (h : SliceIs s N0 v acc) : v.size = 1 ∧ isTuple v = false ∧ v.cells = one v := by
 rcases h with ⟨_, rfl⟩ | ⟨_, r, rfl, _⟩ <;> exact ⟨rfl, rfl, rfl⟩
theorem fzRow_nds {N : Nat} {c : Tr (Tr V)} : ∀ (l : List Nd) (i : Nat), (∀ (j : Nat) y, l[j]? = some y → c.get (i + j) = some (treeN y)) → FzRow s N c i 5 (l.map encN)
 | [], i, _ => .nil
 | y :: l, i, h => by
  have h0 := h 0 y rfl
  rw [List.map_cons, encN_tree]
  refine .row h0 ?_ (fzRow_nds l (i + 1) fun j z hj => ?_)
  · rw [← encN_tree]
    exact .same (under_encN _ _)
  · have := h (j + 1) z (by simpa using hj)
    rw [show i + 1 + j = i + (j + 1) by omega]; exact this
theorem fin_node (ho : s.on = false) {b0 b1 N0 N : Nat} {nm d : List UInt8} {k : Int} {e : Bool} {w v5 : V} {t1 : Tr V} {kids : List Nd} (hv : VarAt s b0 24 5 [sv nm, .int .i64 k, .bool e, sv d, w]) (hg : AgAt s b1 24 5 t1) (hs : SliceIs s N0 v5 kids) (h01 : b0 ≠ b1) (l0 : b0 < N0) (l1 : b1 < N0) (hN : N ≤ N0) (m0 : b0 < s.next) (m1 : b1 < s.next) :
 ∃ t S5 S6, stP 1 (.ptr b0 4) v5 s = some (.tuple [], S5) ∧ ldA 5 (.ptr b0 0) S5 = some (.agg 5 t, S5) ∧ stP 5 (.ptr b1 0) (.agg 5 t) S5 = some (.tuple [], S6) ∧ ldrA 5 (.ptr b1 0) S6 = some (.agg 5 t, S6) ∧ Fz S6 N (.agg 5 t) (encN (.mk nm k e d kids)) ∧ Grew (fun x => x = b0 ∨ x = b1) s S6 := by
 have hv5 := slice_one hs
 obtain ⟨S5, c1, c2, c3, c4⟩ := hv.st ho (i := 4) (by decide) v5
 have on5 := c3.on.trans ho
 have hst5 : stP 1 (.ptr b0 4) v5 s = some (.tuple [], S5) := by
  show vu (bif Nat.beq v5.size 1 && !isTuple v5 then stK s b0 4 1 v5.cells else none) = _
  rw [hv5.1, hv5.2.1, hv5.2.2, c1]; rfl
 have hg' := hg.grew m1 (fun h => h01 h.symm) c3
 have hs' := hs.grew (fun r hr _ => by omega) c3
 obtain ⟨t, ht, hget⟩ := VarAt.agg c2
 obtain ⟨S6, e1, e2, e3, e4⟩ := hg'.stA on5 big5 t
 have on6 := e3.on.trans on5
 have hs'' := hs'.grew (fun r hr _ => by omega) e3
 refine ⟨t, S5, S6, hst5, ht.ldA on5 big5, e1, e2.ldrA on6 big5, ?_, (c3.mono fun x _ hx => .inl hx).trans (e3.mono fun x _ hx => .inr hx)⟩
 rw [encN_tree]
 have hg : ∀ (i : Nat) v, ([sv nm, .int .i64 k, .bool e, sv d, v5] : List V)[i]? = some v → t.get i = some v := hget
 refine .agg (fun i => (([sv nm, .int .i64 k, .bool e, sv d, v5] : List V)[i]?).getD .nilptr) (fun i v' _ hi => ?_) fun i v' hv' hi => ?_
 · match i, hi with
   | 0, _ => exact hg 0 _ rfl
   | 1, _ => exact hg 1 _ rfl
   | 2, _ => exact hg 2 _ rfl
   | 3, _ => exact hg 3 _ rfl
   | 4, _ => exact hg 4 _ rfl
 · have hv2 : ([sv nm, .int .i64 k, .bool e, sv d, kidsV (encL kids)] : List V)[i]? = some v' := by
    have : (Tr.ofListFrom .nil (cellsN (.mk nm k e d kids)) 0).get i = some v' := hv'
    rwa [Tr.get_ofList] at this
   match i, hi, hv2 with
   | 0, _, hv2 => simp at hv2; subst hv2; exact .same (under_sv _)
   | 1, _, hv2 => simp at hv2; subst hv2; exact .same (.int _ _)
   | 2, _, hv2 => simp at hv2; subst hv2; exact .same (.bool _)
   | 3, _, hv2 => simp at hv2; subst hv2; exact .same (under_sv _)
   | 4, _, hv2 =>
    simp at hv2; subst hv2
    show Fz S6 N v5 (kidsV (encL kids))
    rcases hs'' with ⟨h1, rfl⟩ | ⟨h1, r, rfl, hrow, hNr, hrn⟩
    · rw [h1, encL]; exact .same .nilslice
    · obtain ⟨c, hc1, hc2⟩ := hrow.row
      have hne : kidsV (encL kids) = .list 5 (encL kids) := by
       cases kids with
       | nil => exact absurd rfl h1
       | cons a l => rw [encL]; rfl
      rw [hne, encL_map]
      refine .oslice hc1 (by omega) (by omega) rfl (by rw [List.length_map]) (by rw [List.length_map]; omega) ?_
      rw [Nat.zero_div]
      exact fzRow_nds _ 0 fun j y hj => by
       rw [Nat.zero_add]
       exact hc2 j _ (by rw [List.getElem?_map, hj]; rfl)
end
def cutN : Nat → Rw → Nd
 | 0, x => .mk (x.name.take 30) x.kind x.exec (x.data.take 300) []
 | d + 1, x => .mk (x.name.take 30) x.kind x.exec (x.data.take 300) ((x.kids.take 6).map (cutN d))
def most6 : Nat → Nat
 | 0 => 1
 | d + 1 => 1 + 6 * most6 d
theorem cut_cnt : ∀ (d : Nat) (x : Rw), cntN (cutN d x) ≤ most6 d
 | 0, x => by rw [cutN, cntN, cntL]; exact Nat.le_refl _
 | d + 1, x => by
  rw [cutN, cntN, most6]
  have h := cntL_le (most6 d) ((x.kids.take 6).map (cutN d)) fun y hy => by
   rw [List.mem_map] at hy
   obtain ⟨z, _, rfl⟩ := hy
   exact cut_cnt d z
  rw [List.length_map, List.length_take] at h
  have h2 : min 6 x.kids.length * most6 d ≤ 6 * most6 d := Nat.mul_le_mul_right _ (Nat.min_le_left ..)
  omega
theorem most6_mono {a b : Nat} (h : a ≤ b) : most6 a ≤ most6 b := by
 induction h with
 | refl => exact Nat.le_refl _
 | step _ ih => exact Nat.le_trans ih (by rw [most6]; omega)
theorem cut_ok : ∀ (d : Nat) (x : Rw), d ≤ 16 → DeepOk d x → (cutN d x).ok
 | 0, x, _, h => by
  rw [cutN, Nd.ok]
  exact ⟨by rw [List.length_take]; omega, h.2, by simp; omega, by simp, by simp [cntL], by simp [okL]⟩
 | d + 1, x, hd, h => by
  have hc := cut_cnt (d + 1) x
  have hm := most6_mono hd
  have h16 : most6 16 < 4611686018427387904 := by decide
  rw [cutN, cntN] at hc
  rw [cutN, Nd.ok]
  refine ⟨by rw [List.length_take]; omega, h.1.2, by simp; omega, by simp; omega, by omega, (okL_iff _).2 fun y hy => ?_⟩
  rw [List.mem_map] at hy
  obtain ⟨z, hz, rfl⟩ := hy
  exact cut_ok d z (by omega) (h.2 z (List.mem_of_mem_take hz))
theorem cut_eq : ∀ (d : Nat) (x y : Rw), rwV x = rwV y → cutN d x = cutN d y
 | 0, x, y, h => by
  obtain ⟨h1, h2, h3, h4, _⟩ := rwV_fields h
  rw [cutN, cutN, h1, h2, h3, h4]
 | d + 1, x, y, h => by
  obtain ⟨h1, h2, h3, h4, h5⟩ := rwV_fields h
  rw [cutN, cutN, h1, h2, h3, h4]
  congr 1
  refine map_eq_of (fun a b => cut_eq d a b) ?_
  rw [List.map_take, List.map_take, kidsR_map h5]
structure CutIn where
 d : Nat
 x : Rw
 hd : d ≤ 16
noncomputable def encCut (p : CutIn) : List V := [rwV p.x, .int .i64 (p.d : Int)]
theorem encCut_inj {p q : CutIn} (h : encCut p = encCut q) : rwV p.x = rwV q.x ∧ p.d = q.d := by
 simp only [encCut, List.cons.injEq, V.int.injEq, true_and, and_true] at h
 exact ⟨h.1, by omega⟩
noncomputable def kfCut : KF := specKF encCut (fun p => En.ret (encN (cutN p.d p.x)))
theorem kfCut_run (d : Nat) (x : Rw) (hd : d ≤ 16) (S : St) : kfCut.run [rwV x, .int .i64 (d : Int)] S = some (.ret (encN (cutN d x)), S) :=
 specKF_run (enc := encCut) (out := fun p => En.ret (encN (cutN p.d p.x))) (fun p q h => by obtain ⟨h1, h2⟩ := encCut_inj h; rw [h2, cut_eq q.d _ _ h1]) ⟨d, x, hd⟩ S
def cutKids (d : Nat) (x : Rw) : List Nd := match d with | 0 => [] | d + 1 => (x.kids.take 6).map (cutN d)
theorem cut_fields (d : Nat) (x : Rw) : cutN d x = .mk (x.name.take 30) x.kind x.exec (x.data.take 300) (cutKids d x) := by
 cases d <;> rfl
theorem L19_stop (self : EV) (N : Nat) (nk : Ac → St → Rs) (ek : Nat → Ac → St → Rs) (n : Nat) (x : Rw) (b0 b1 : Nat) (cs : List V) (hcs : cs[4]? = some (kidsR x)) (S : St) (ho : S.on = false) (hv : VarAt S b0 24 5 cs) (d i : Nat) (v5 : V) (h : ¬ (i < x.kids.length ∧ i < 6 ∧ 0 < d)) :
 L19_29 self N nk ek (n + 1) (.int .i64 (d : Int)) (.ptr b0 0) (.ptr b1 0) v5 (.int .i64 (i : Int)) S = ek 0 (fr 52 [(2, .ptr b0 0), (4, .ptr b1 0), (5, v5)]) S := by
 rw [L19_29_eq, faP_ptr, oB, Nat.zero_add, ld1_ptr, hv.ld ho hcs, oB]
 dsimp only
 rw [lnS_kidsR, oB]
 dsimp only
 rw [binV_ii, intsV_lss, oB, guardV_t, oB]
 by_cases h1 : i < x.kids.length
 · rw [dec_lt h1, cond_true, oB, oB, cond_true, binV_ii, intsV_lss, oB]
   by_cases h2 : i < 6
   · rw [show decide ((i : Int) < 6) = true by simp; omega, pickV_bool, cond_true, oB, guardV_t, oB, cond_true, oB, oB, cond_true, binV_ii, intsV_gtr, oB]
     rw [show decide ((0 : Int) < (d : Int)) = false by simp; omega, pickV_bool, cond_true, oB, ifK_bool, cond_false]
   · rw [show decide ((i : Int) < 6) = false by simp; omega, pickV_bool, cond_true, oB, guardV_t, oB, cond_false, oB, oB, cond_false, oB, pickV_bool, cond_false, oB, ifK_bool, cond_false]
 · rw [dec_ge (by omega), cond_false, oB, oB, cond_false, oB, pickV_bool, cond_false, oB, guardV_t, oB, cond_false, oB, oB, cond_false, oB, pickV_bool, cond_false, oB, ifK_bool, cond_false]
theorem L19_spec (self : EV) (N : Nat) (nk : Ac → St → Rs) (ek : Nat → Ac → St → Rs) (x : Rw) (b0 b1 N0 d : Nat) (hd : d < 16) (cs : List V) (hcs : cs[4]? = some (kidsR x)) (hb0 : b0 < N0) (hb1 : b1 < N0)
 (h8 : ∀ y ∈ x.kids, ∀ S, self.f 19 [rwV y, .int .i64 (d : Int)] S = some (.ret (encN (cutN d y)), S)) (t1 : Tr V) :
 ∀ (r : List Rw) (i n : Nat) (S : St) (acc : List Nd) (v5 : V), (x.kids.take 6).drop i = r → r.length < n → i ≤ 6 → acc.length = i → S.on = false → N0 ≤ S.next → VarAt S b0 24 5 cs → AgAt S b1 24 5 t1 → SliceIs S N0 v5 acc →
 ∃ S' v5', L19_29 self N nk ek n (.int .i64 ((d + 1 : Nat) : Int)) (.ptr b0 0) (.ptr b1 0) v5 (.int .i64 (i : Int)) S = ek 0 (fr 52 [(2, .ptr b0 0), (4, .ptr b1 0), (5, v5')]) S' ∧ SliceIs S' N0 v5' (acc ++ r.map (cutN d)) ∧ VarAt S' b0 24 5 cs ∧ AgAt S' b1 24 5 t1 ∧ Grew (fun y => N0 ≤ y) S S'
 | r, i, 0, S, acc, v5, _, hn, _, _, _, _, _, _, _ => by omega
 | [], i, n + 1, S, acc, v5, hi, hn, h20, ha, ho, hN, hv, hg, hs => by
  have hlen := drop_end hi
  rw [List.length_take] at hlen
  exact ⟨S, v5, L19_stop self N nk ek n x b0 b1 cs hcs S ho hv (d + 1) i v5 (by omega), by simpa using hs, hv, hg, Grew.refl _ _⟩
 | y :: r, i, n + 1, S, acc, v5, hi, hn, h20, ha, ho, hN, hv, hg, hs => by
  obtain ⟨hlt, hy, hr, hmem⟩ := drop_at hi
  have hlt2 := hlt
  rw [List.length_take] at hlt2
  have hik : i < x.kids.length := by omega
  have hy2 : x.kids[i] = y := by rw [← hy, List.getElem_take]
  obtain ⟨t, v', u, k1, k2, k3, k4⟩ := hs.add ho hN (by omega) (Tr.ofListFrom .nil [(sv []), (.int .i64 0), (.bool false), (sv []), .nilslice] 0) (cutN d y)
  have hv' := hv.grew (by omega) (by omega) k4
  have hg' := hg.grew (by omega) (by omega) k4
  obtain ⟨S', v5', z1, z2, z3, z4, z5⟩ := L19_spec self N nk ek x b0 b1 N0 d hd cs hcs hb0 hb1 h8 t1 r (i + 1) n u (acc ++ [cutN d y]) v' hr (by simp at hn; omega) (by omega) (by simp [ha]) (k4.on.trans ho) (by have := k4.next; omega) hv' hg' k3
  refine ⟨S', v5', ?_, by simpa using z2, z3, z4, k4.trans z5⟩
  rw [L19_29_eq, faP_ptr, oB, Nat.zero_add, ld1_ptr, hv.ld ho hcs, oB]
  dsimp only
  rw [lnS_kidsR, oB]
  dsimp only
  rw [binV_ii, intsV_lss, oB, guardV_t, oB, dec_lt hik, cond_true, oB, oB, cond_true, binV_ii, intsV_lss, oB]
  rw [show decide ((i : Int) < 6) = true by simp; omega, pickV_bool, cond_true, oB, guardV_t, oB, cond_true, oB, oB, cond_true, binV_ii, intsV_gtr, oB]
  rw [show decide ((0 : Int) < ((d + 1 : Nat) : Int)) = true by simp, pickV_bool, cond_true, oB, ifK_bool, cond_true, oB, ld1_ptr, hv.ld ho hcs, oB]
  dsimp only
  rw [ixP_kidsR x i hik, hy2, oB, ldA_kidR, oB]
  dsimp only
  rw [binV_ii, intsV_sub, show ((d + 1 : Nat) : Int) - 1 = (d : Int) by omega, wrap_i64 (by omega) (by omega), oB, h8 y (List.mem_of_mem_take hmem), callP_ret, k1, oB]
  dsimp only
  rw [k2, oB, binV_ii, intsV_add, wrap_succ (by omega), oB]
  exact z1
theorem take_min (l : List UInt8) (n : Nat) : List.take (min l.length n) l = l.take n := by
 rcases Nat.le_total l.length n with h | h
 · rw [Nat.min_eq_left h, List.take_length, List.take_of_length_le h]
 · rw [Nat.min_eq_right h]
theorem F19_spec (self : EV) (x : Rw) (d : Nat) (hd : d ≤ 16) (S : St) (ho : S.on = false) (h8 : ∀ (m : Nat) y, d = m + 1 → ∀ S, self.f 19 [rwV y, .int .i64 (m : Int)] S = some (.ret (encN (cutN m y)), S)) :
 ∃ (v : V) (S' : St), F19 self rounds (rwV x) (.int .i64 (d : Int)) S = some (.ret v, S') ∧ Fz S' S.next v (encN (cutN d x)) ∧ Grew (fun _ => False) S S' := by
 obtain ⟨S1, k1, k2, k3, k4⟩ := box_new ho 24 (cellsR x)
 have on1 := k3.on.trans ho
 have hv1 := Bx.var k2 (by show 0 < 5; decide) big5
 obtain ⟨a1, a2, a3⟩ := ag_new on1 24 5 (Tr.ofListFrom .nil [(sv []), (.int .i64 0), (.bool false), (sv []), .nilslice] 0)
 generalize hS2 : (nwP 24 5 (Tr.ofListFrom .nil [(sv []), (.int .i64 0), (.bool false), (sv []), .nilslice] 0) S1).2 = S2 at a1 a2 a3
 have on2 := a2.on.trans on1
 have hv2 := hv1.grew (by omega) (fun h => h) a2
 obtain ⟨S2b, d1, d2, d3, d4⟩ := hv2.st on2 (i := 0) (by show 0 < 5; decide) (sv (x.name.take 30))
 have on2b := d3.on.trans on2
 have ha2b := a1.grew (by omega) (by omega) d3
 have hst0 : stP 1 (.ptr S.next 0) (sv (x.name.take 30)) S2 = some (.tuple [], S2b) := by
  show vu (stK S2 S.next 0 1 (one (sv _))) = _
  rw [d1]; rfl
 obtain ⟨S3, b1, b2, b3, b4⟩ := d2.st on2b (i := 3) (by show 3 < 5; decide) (sv (x.data.take 300))
 have on3 := b3.on.trans on2b
 have ha3 := ha2b.grew (by omega) (by omega) b3
 have hst : stP 1 (.ptr S.next 3) (sv (x.data.take 300)) S2b = some (.tuple [], S3) := by
  show vu (stK S2b S.next 3 1 (one (sv _))) = _
  rw [b1]; rfl
 have b2 : VarAt S3 S.next 24 5 [sv (x.name.take 30), .int .i64 x.kind, .bool x.exec, sv (x.data.take 300), kidsR x] := b2
 have hloop : ∃ S4 v5, L19_29 self rounds (R19_21 self rounds (finN E0 self Tryd.f19) noEx) (exB 0 (R19_21 self rounds (finN E0 self Tryd.f19) noEx) noEx) rounds (.int .i64 (d : Int)) (.ptr S.next 0) (.ptr S1.next 0) .nilslice (.int .i64 0) S3 = exB 0 (R19_21 self rounds (finN E0 self Tryd.f19) noEx) noEx 0 (fr 52 [(2, .ptr S.next 0), (4, .ptr S1.next 0), (5, v5)]) S4 ∧
  SliceIs S4 S2.next v5 (cutKids d x) ∧ VarAt S4 S.next 24 5 [sv (x.name.take 30), .int .i64 x.kind, .bool x.exec, sv (x.data.take 300), kidsR x] ∧ AgAt S4 S1.next 24 5 (Tr.ofListFrom .nil [(sv []), (.int .i64 0), (.bool false), (sv []), .nilslice] 0) ∧ Grew (fun y => S2.next ≤ y) S3 S4 := by
  cases d with
  | zero =>
   have := L19_stop self rounds (R19_21 self rounds (finN E0 self Tryd.f19) noEx) (exB 0 (R19_21 self rounds (finN E0 self Tryd.f19) noEx) noEx) (rounds - 1) x S.next S1.next _ rfl S3 on3 b2 0 0 .nilslice (by omega)
   rw [show rounds - 1 + 1 = rounds by unfold rounds; omega] at this
   exact ⟨S3, .nilslice, this, .inl ⟨rfl, rfl⟩, b2, ha3, Grew.refl _ _⟩
  | succ m =>
   obtain ⟨S4, v5, z1, z2, z3, z4, z5⟩ := L19_spec self rounds (R19_21 self rounds (finN E0 self Tryd.f19) noEx) (exB 0 (R19_21 self rounds (finN E0 self Tryd.f19) noEx) noEx) x S.next S1.next S2.next m (by omega) _ rfl (by omega) (by omega) (fun y hy S => h8 m y rfl S) _ (x.kids.take 6) 0 rounds S3 [] .nilslice rfl (by rw [List.length_take]; unfold rounds; omega) (by omega) rfl on3 (by omega) b2 ha3 (.inl ⟨rfl, rfl⟩)
   exact ⟨S4, v5, z1, by rw [List.nil_append] at z2; exact z2, z3, z4, z5⟩
 obtain ⟨S4, v5, z1, z2, z3, z4, z5⟩ := hloop
 have on4 := z5.on.trans on3
 have n5 := z5.next
 obtain ⟨t, S5, S6, f1, f2, f3, f4, f5, f6⟩ := fin_node (N := S.next) on4 z3 z4 z2 (by omega) (by omega) (by omega) (by omega) (by omega) (by omega)
 refine ⟨.agg 5 t, S6, ?_, by rw [cut_fields]; exact f5, ?_⟩
 · rw [F19_eq, rwV_cells, k1, oB, oB]
   dsimp only
   rw [faP_ptr, oB, Nat.zero_add, ld1_ptr, hS2, hv2.ld on2 (show (cellsR x)[0]? = some (sv x.name) from rfl), oB, oB]
   dsimp only
   rw [ld1_ptr, hv2.ld on2 (show (cellsR x)[0]? = some (sv x.name) from rfl), oB]
   dsimp only
   rw [lnStr_sv, oB]
   dsimp only
   rw [foldK_min, show min (x.name.length : Int) 30 = ((min x.name.length 30 : Nat) : Int) by omega, oB]
   dsimp only
   rw [slice_sv und9 x.name (bounds_hi .i64 (Nat.min_le_left ..)) (Nat.min_le_left ..), oB, oB]
   dsimp only
   rw [List.drop_zero, Nat.sub_zero, take_min, hst0, oB]
   dsimp only
   rw [faP_ptr, oB, Nat.zero_add, ld1_ptr, d2.ld on2b (show ((cellsR x).set 0 (sv (x.name.take 30)))[3]? = some (sv x.data) from rfl), oB, oB]
   dsimp only
   rw [ld1_ptr, d2.ld on2b (show ((cellsR x).set 0 (sv (x.name.take 30)))[3]? = some (sv x.data) from rfl), oB]
   dsimp only
   rw [lnStr_sv, oB]
   dsimp only
   rw [foldK_min, show min (x.data.length : Int) 300 = ((min x.data.length 300 : Nat) : Int) by omega, oB]
   dsimp only
   rw [slice_sv und9 x.data (bounds_hi .i64 (Nat.min_le_left ..)) (Nat.min_le_left ..), oB, oB]
   dsimp only
   rw [List.drop_zero, Nat.sub_zero, take_min, hst, oB, nwP_fst]
   dsimp only
   rw [z1, exB_same, R19_21_eq, faP_ptr, oB, Nat.zero_add, f1, oB]
   dsimp only
   rw [f2, oB]
   dsimp only
   rw [f3, oB]
   dsimp only
   rw [f4]
   rfl
 · have n6 := f6.next
   refine ⟨by omega, by rw [f6.on, on4, ho], fun y hy _ => ?_⟩
   rw [f6.keep y (by omega) (by omega), z5.keep y (by omega) (by omega), b3.keep y (by omega) (by omega), d3.keep y (by omega) (by omega), a2.keep y (by omega) (fun h => h), k3.keep y hy (fun h => h)]
theorem kn19 {K : FuncId → Option KF} (hK : KnOk Tryd.prog E0 K) : KnWell Tryd.prog E0 19 kfCut :=
 specKF_rec (fn := Tryd.f19) (c := C19) (d := B19) (fun p : CutIn => p.d) (fun p q h => by obtain ⟨h1, h2⟩ := encCut_inj h; rw [h2, cut_eq q.d _ _ h1]; exact ⟨rfl, rfl⟩) E0_ok hK (by kernel_rfl) (by kernel_rfl) (annot_isOf C19 _ (by kernel_rfl)) fun K' _ p S hself ho => by
  obtain ⟨d, x, hd⟩ := p
  obtain ⟨v, S', h1, h2, h3⟩ := F19_spec (ev E0 K' 1) x d hd S ho fun m y hm S => hself ⟨m, y, by omega⟩ S 0 (by show m < d; omega)
  exact ⟨1, .ret v, S', h1, h3, h2⟩
end Go.Proofs.YtcbaodegkfokjaaDoor.W
namespace Go.Proofs.YtcbaodegkfokjaaDoor.W
open Go.Proofs.YtcbaodegkfokjaaDoor.Ev
mutual
def fewN : Nd → Nat → Nd × Nat
 | .mk n k e d l, c => (.mk n k e d (fewL l c).1, (fewL l c).2)
def fewL : List Nd → Nat → List Nd × Nat
 | [], c => ([], c)
 | _ :: _, 0 => ([], 0)
 | y :: l, c + 1 => ((fewN y c).1 :: (fewL l (fewN y c).2).1, (fewL l (fewN y c).2).2)
end
theorem fewN_eq (x : Nd) (c : Nat) : fewN x c = (.mk x.name x.kind x.exec x.data (fewL x.kids c).1, (fewL x.kids c).2) := by cases x; rw [fewN]; rfl
mutual
theorem fewN_cnt : ∀ (x : Nd) (c : Nat), cntN (fewN x c).1 + (fewN x c).2 ≤ 1 + c
 | .mk n k e d l, c => by
  have := fewL_cnt l c
  rw [fewN, cntN]
  simp only
  omega
theorem fewL_cnt : ∀ (l : List Nd) (c : Nat), cntL (fewL l c).1 + (fewL l c).2 ≤ c
 | [], c => by rw [fewL]; simp only [cntL]; omega
 | y :: l, 0 => by rw [fewL]; simp only [cntL]; omega
 | y :: l, c + 1 => by
  have h1 := fewN_cnt y c
  have h2 := fewL_cnt l (fewN y c).2
  rw [fewL]
  simp only [cntL]
  omega
end
theorem fewL_len : ∀ (l : List Nd) (c : Nat), (fewL l c).1.length ≤ l.length
 | [], c => by rw [fewL]; exact Nat.le_refl _
 | y :: l, 0 => by rw [fewL]; simp
 | y :: l, c + 1 => by
  have := fewL_len l (fewN y c).2
  rw [fewL]
  simp only [List.length_cons]
  omega
mutual
theorem fewN_ok : ∀ (x : Nd) (c : Nat), c ≤ 3000 → x.ok → (fewN x c).1.ok
 | .mk n k e d l, c, hc, h => by
  rw [Nd.ok] at h
  obtain ⟨h1, h2, h3, h4, h5, h6⟩ := h
  have := fewL_cnt l c
  have := fewL_len l c
  rw [fewN]
  simp only
  rw [Nd.ok]
  exact ⟨h1, h2, h3, by omega, by omega, fewL_ok l c hc h6⟩
theorem fewL_ok : ∀ (l : List Nd) (c : Nat), c ≤ 3000 → okL l → okL (fewL l c).1
 | [], c, hc, h => by rw [fewL]; exact h
 | y :: l, 0, hc, h => by rw [fewL]; simp only [okL]
 | y :: l, c + 1, hc, h => by
  rw [okL] at h
  have := fewN_cnt y c
  rw [fewL]
  simp only [okL]
  exact ⟨fewN_ok y c (by omega) h.1, fewL_ok l _ (by omega) h.2⟩
end
section
variable {s : St}
theorem bx_sto (ho : s.on = false) {b e : Nat} {x v : V} (h : Bx s b e [x]) (h1 : v.size = 1) (h2 : v.cells = one v) (h3 : isTuple v = false) : stP 1 (.ptr b 0) v s = some (.tuple [], s.put b (bxO e [v])) := by
 show vu (bif Nat.beq v.size 1 && !isTuple v then stK s b 0 1 v.cells else none) = _
 rw [h1, h2, h3]
 have : stK s b 0 1 (one v) = some (s.put b (bxO e [v])) := by
  unfold stK
  rw [h]
  simp only [List.length_cons, List.length_nil, show Nat.ble (0 + 1) ((0 + 1) * 1) = true from rfl, blt_true.2 (show (0 + 1) * 1 < big by unfold big; decide), Bool.and_self, Bool.not_false, cond_true]
  unfold elemTo
  simp only [show Nat.beq 1 (0 + 1) = true from rfl, Nat.zero_mod, show Nat.beq 0 0 = true from rfl, Bool.and_self, cond_true, Nat.zero_div, Tr.setC_eq, set_one, oB, note_off ho]
  rfl
 rw [this]; rfl
theorem one_new (ho : s.on = false) (e : Nat) (z v : V) (h1 : v.size = 1) (h2 : v.cells = one v) (h3 : isTuple v = false) : ∃ t, stP 1 (.ptr s.next 0) v (nwP e 1 (one z) s).2 = some (.tuple [], t) ∧ Bx t s.next e [v] ∧ Grew (fun _ => False) s t ∧ t.next = s.next + 1 := by
 have hg := grew_nw ho (fun _ => False) (.cells e 1 1 false (Tr.ofListFrom .nil [one z] 0))
 have hb : Bx (nwP e 1 (one z) s).2 s.next e [z] := by
  show (newCells s e 1 [one z]).heap.get s.next = _
  unfold newCells
  rw [nw_get, if_pos rfl]; rfl
 have hon : (nwP e 1 (one z) s).2.on = false := nw_on ho _
 exact ⟨_, bx_sto hon hb h1 h2 h3, bx_put s.next e [v], hg.own (Nat.le_refl _) (grew_put _ _), rfl⟩
end
theorem L20_stop (self : EV) (N : Nat) (nk : Ac → St → Rs) (ek : Nat → Ac → St → Rs) (n : Nat) (x : Nd) (b0 b1 p k : Nat) (cs : List V) (hcs : cs[4]? = some (kidsV (encL x.kids))) (S : St) (ho : S.on = false) (hv : VarAt S b0 24 5 cs) (hp : Bx S p 3 [.int .i64 (k : Int)]) (i : Nat) (v5 : V) (h : ¬ (i < x.kids.length ∧ 0 < k)) :
 L20_11 self N nk ek (n + 1) (.ptr p 0) (.ptr b0 0) (.ptr b1 0) v5 (.int .i64 (i : Int)) S = ek 0 (fr 39 [(2, .ptr b0 0), (4, .ptr b1 0), (5, v5)]) S := by
 rw [L20_11_eq, faP_ptr, oB, Nat.zero_add, ld1_ptr, hv.ld ho hcs, oB]
 dsimp only
 rw [lnS_kids, oB]
 dsimp only
 rw [binV_ii, intsV_lss, oB, guardV_t, oB]
 by_cases h1 : i < x.kids.length
 · have hk : k = 0 := by omega
   subst hk
   rw [dec_lt h1, cond_true, oB, oB, cond_true, show nilCheckV (.ptr p 0) = some (.ptr p 0) from rfl, oB, oB, cond_true, Bx.ld1 ho hp 0 (by show 0 < 1; decide) big1, oB, oB, cond_true]
   dsimp only
   rw [show ([V.int .i64 ((0 : Nat) : Int)] : List V)[0]'(by show 0 < 1; decide) = .int .i64 ((0 : Nat) : Int) from rfl, binV_ii, intsV_gtr, oB, pickV_bool, cond_true, oB, ifK_bool]
   rfl
 · rw [dec_ge (by omega), cond_false, oB, oB, cond_false, oB, oB, cond_false, oB, oB, cond_false, oB, pickV_bool, cond_false, oB, ifK_bool, cond_false]
theorem L20_spec (self : EV) (N : Nat) (nk : Ac → St → Rs) (ek : Nat → Ac → St → Rs) (x : Nd) (hfew : x.kids.length ≤ 3000) (b0 b1 p N0 : Nat) (cs : List V) (hcs : cs[4]? = some (kidsV (encL x.kids))) (hb0 : b0 < N0) (hb1 : b1 < N0) (hp0 : p < N0) (h0 : p ≠ b0) (h1 : p ≠ b1)
 (h20 : ∀ y ∈ x.kids, ∀ c : Nat, c ≤ 300 → ∀ S, S.on = false → Bx S p 3 [.int .i64 (c : Int)] → self.f 20 [encN y, .ptr p 0] S = some (.ret (encN (fewN y c).1), S.put p (bxO 3 [.int .i64 ((fewN y c).2 : Int)]))) (t1 : Tr V) :
 ∀ (r : List Nd) (i n : Nat) (S : St) (acc : List Nd) (v5 : V) (c : Nat), x.kids.drop i = r → r.length < n → acc.length = i → c ≤ 300 → S.on = false → N0 ≤ S.next → VarAt S b0 24 5 cs → AgAt S b1 24 5 t1 → Bx S p 3 [.int .i64 (c : Int)] → SliceIs S N0 v5 acc →
 ∃ S' v5', L20_11 self N nk ek n (.ptr p 0) (.ptr b0 0) (.ptr b1 0) v5 (.int .i64 (i : Int)) S = ek 0 (fr 39 [(2, .ptr b0 0), (4, .ptr b1 0), (5, v5')]) S' ∧ SliceIs S' N0 v5' (acc ++ (fewL r c).1) ∧ VarAt S' b0 24 5 cs ∧ AgAt S' b1 24 5 t1 ∧ Bx S' p 3 [.int .i64 ((fewL r c).2 : Int)] ∧ Grew (fun y => N0 ≤ y ∨ y = p) S S'
 | r, i, 0, S, acc, v5, c, _, hn, _, _, _, _, _, _, _, _ => by omega
 | [], i, n + 1, S, acc, v5, c, hi, hn, ha, hc, ho, hN, hv, hg, hp, hs => by
  have hlen := drop_end hi
  rw [fewL]
  exact ⟨S, v5, L20_stop self N nk ek n x b0 b1 p c cs hcs S ho hv hp i v5 (by omega), by simpa using hs, hv, hg, hp, Grew.refl _ _⟩
 | y :: r, i, n + 1, S, acc, v5, 0, hi, hn, ha, hc, ho, hN, hv, hg, hp, hs => by
  rw [fewL]
  exact ⟨S, v5, L20_stop self N nk ek n x b0 b1 p 0 cs hcs S ho hv hp i v5 (by omega), by simpa using hs, hv, hg, hp, Grew.refl _ _⟩
 | y :: r, i, n + 1, S, acc, v5, c + 1, hi, hn, ha, hc, ho, hN, hv, hg, hp, hs => by
  obtain ⟨hlt, hy, hr, hmem⟩ := drop_at hi
  have g1 : Grew (fun b => b = p) S (S.put p (bxO 3 [.int .i64 (c : Int)])) := grew_put p _
  have hp1 := bx_put (s := S) p 3 [.int .i64 (c : Int)]
  have hst := bx_sto ho hp (v := .int .i64 (c : Int)) rfl rfl rfl
  have n1 : (S.put p (bxO 3 [.int .i64 (c : Int)])).next = S.next := rfl
  generalize S.put p (bxO 3 [.int .i64 (c : Int)]) = S1 at g1 hp1 hst n1
  have on1 := g1.on.trans ho
  have hv1 := hv.grew (by omega) (fun e => h0 e.symm) g1
  have hg1 := hg.grew (by omega) (fun e => h1 e.symm) g1
  have hs1 := hs.grew (fun r hr _ => by omega) g1
  have hcall := h20 y hmem c (by omega) S1 on1 hp1
  have g2 : Grew (fun b => b = p) S1 (S1.put p (bxO 3 [.int .i64 ((fewN y c).2 : Int)])) := grew_put p _
  have hp2 := bx_put (s := S1) p 3 [.int .i64 ((fewN y c).2 : Int)]
  have n2 : (S1.put p (bxO 3 [.int .i64 ((fewN y c).2 : Int)])).next = S1.next := rfl
  generalize S1.put p (bxO 3 [.int .i64 ((fewN y c).2 : Int)]) = S2 at g2 hp2 hcall n2
  have on2 := g2.on.trans on1
  have hv2 := hv1.grew (by omega) (fun e => h0 e.symm) g2
  have hg2 := hg1.grew (by omega) (fun e => h1 e.symm) g2
  have hs2 := hs1.grew (fun r hr _ => by omega) g2
  have hcnt := fewN_cnt y c
  obtain ⟨t, v', u, k1, k2, k3, k4⟩ := hs2.add on2 (by omega) (by omega) (Tr.ofListFrom .nil [(sv []), (.int .i64 0), (.bool false), (sv []), .nilslice] 0) (fewN y c).1
  have hv' := hv2.grew (by omega) (by omega) k4
  have hg' := hg2.grew (by omega) (by omega) k4
  have hp' := hp2.grew (by omega) (by omega) k4
  obtain ⟨S', v5', z1, z2, z3, z4, z5, z6⟩ := L20_spec self N nk ek x hfew b0 b1 p N0 cs hcs hb0 hb1 hp0 h0 h1 h20 t1 r (i + 1) n u (acc ++ [(fewN y c).1]) v' (fewN y c).2 hr (by simp at hn; omega) (by simp [ha]) (by omega) (k4.on.trans on2) (by have := k4.next; omega) hv' hg' hp' k3
  refine ⟨S', v5', ?_, by rw [fewL]; simpa using z2, z3, z4, by rw [fewL]; exact z5, (((g1.mono fun b _ hb => .inr hb).trans (g2.mono fun b _ hb => .inr hb)).trans (k4.mono fun b _ hb => .inl hb)).trans z6⟩
  rw [L20_11_eq, faP_ptr, oB, Nat.zero_add, ld1_ptr, hv.ld ho hcs, oB]
  dsimp only
  rw [lnS_kids, oB]
  dsimp only
  rw [binV_ii, intsV_lss, oB, guardV_t, oB, dec_lt hlt, cond_true, oB, oB, cond_true, show nilCheckV (.ptr p 0) = some (.ptr p 0) from rfl, oB, oB, cond_true, Bx.ld1 ho hp 0 (by show 0 < 1; decide) big1, oB, oB, cond_true]
  dsimp only
  rw [show ([V.int .i64 ((c + 1 : Nat) : Int)] : List V)[0]'(by show 0 < 1; decide) = .int .i64 ((c + 1 : Nat) : Int) from rfl, binV_ii, intsV_gtr, show decide ((0 : Int) < ((c + 1 : Nat) : Int)) = true by simp, oB, pickV_bool, cond_true, oB, ifK_bool, cond_true, oB, Bx.ld1 ho hp 0 (by show 0 < 1; decide) big1, oB]
  dsimp only
  rw [show ([V.int .i64 ((c + 1 : Nat) : Int)] : List V)[0]'(by show 0 < 1; decide) = .int .i64 ((c + 1 : Nat) : Int) from rfl, binV_ii, intsV_sub, show ((c + 1 : Nat) : Int) - 1 = (c : Int) by omega, wrap_i64 (by omega) (by omega), oB, oB, hst, oB, oB]
  dsimp only
  rw [ld1_ptr, hv1.ld on1 hcs, oB]
  dsimp only
  rw [ixP_kids x.kids i hlt, hy, oB, ldA_kid, oB]
  dsimp only
  rw [hcall, callP_ret, k1, oB]
  dsimp only
  rw [k2, oB]
  dsimp only
  rw [binV_ii, intsV_add, wrap_succ (by omega), oB]
  exact z1
theorem F20_spec (self : EV) (x : Nd) (ok : NdOk x) (p c : Nat) (hc : c ≤ 300) (S : St) (ho : S.on = false) (hp : Bx S p 3 [.int .i64 (c : Int)]) (lp : p < S.next)
 (h20 : ∀ y ∈ x.kids, ∀ c : Nat, c ≤ 300 → ∀ S, S.on = false → Bx S p 3 [.int .i64 (c : Int)] → self.f 20 [encN y, .ptr p 0] S = some (.ret (encN (fewN y c).1), S.put p (bxO 3 [.int .i64 ((fewN y c).2 : Int)]))) :
 ∃ (v : V) (S' : St), F20 self rounds (encN x) (.ptr p 0) S = some (.ret v, S') ∧ Fz S' S.next v (encN (fewN x c).1) ∧ Bx S' p 3 [.int .i64 ((fewN x c).2 : Int)] ∧ Grew (fun b => b = p) S S' := by
 obtain ⟨S1, k1, k2, k3, k4⟩ := box_new ho 24 (cellsN x)
 have on1 := k3.on.trans ho
 have hv1 := Bx.var k2 (by show 0 < 5; decide) big5
 have hp1 := hp.grew lp (fun h => h) k3
 obtain ⟨a1, a2, a3⟩ := ag_new on1 24 5 (Tr.ofListFrom .nil [(sv []), (.int .i64 0), (.bool false), (sv []), .nilslice] 0)
 generalize hS2 : (nwP 24 5 (Tr.ofListFrom .nil [(sv []), (.int .i64 0), (.bool false), (sv []), .nilslice] 0) S1).2 = S2 at a1 a2 a3
 have on2 := a2.on.trans on1
 have hv2 : VarAt S2 S.next 24 5 [sv x.name, .int .i64 x.kind, .bool x.exec, sv x.data, kidsV (encL x.kids)] := hv1.grew (by omega) (fun h => h) a2
 have hp2 := hp1.grew (by omega) (fun h => h) a2
 obtain ⟨S4, v5, z1, z2, z3, z4, z5, z6⟩ := L20_spec self rounds (R20_3 self rounds (finN E0 self Tryd.f20) noEx) (exB 0 (R20_3 self rounds (finN E0 self Tryd.f20) noEx) noEx) x ok.few S.next S1.next p S2.next _ rfl (by omega) (by omega) (by omega) (by omega) (by omega) h20 _ x.kids 0 rounds S2 [] .nilslice c rfl (by have := ok.few; unfold rounds; omega) rfl hc on2 (Nat.le_refl _) hv2 a1 hp2 (.inl ⟨rfl, rfl⟩)
 have on4 := z6.on.trans on2
 have n5 := z6.next
 rw [List.nil_append] at z2
 obtain ⟨t, S5, S6, f1, f2, f3, f4, f5, f6⟩ := fin_node (N := S.next) on4 z3 z4 z2 (by omega) (by omega) (by omega) (by omega) (by omega) (by omega)
 have n6 := f6.next
 refine ⟨.agg 5 t, S6, ?_, by rw [fewN_eq]; exact f5, by rw [fewN_eq]; exact z5.grew (by omega) (by omega) f6, ?_⟩
 · rw [F20_eq, encN_cells, k1, oB, oB, nwP_fst]
   dsimp only
   rw [hS2, show (V.int .i64 0) = .int .i64 ((0 : Nat) : Int) from rfl, z1, exB_same, R20_3_eq, faP_ptr, oB, Nat.zero_add, f1, oB]
   dsimp only
   rw [f2, oB]
   dsimp only
   rw [f3, oB]
   dsimp only
   rw [f4]
   rfl
 · refine ⟨by omega, by rw [f6.on, on4, ho], fun y hy hne => ?_⟩
   rw [f6.keep y (by omega) (by omega), z6.keep y (by omega) (by omega), a2.keep y (by omega) (fun h => h), k3.keep y hy (fun h => h)]
structure FewerIn where
 x : Nd
 ok : x.ok
 b : Nat
 c : Nat
 hc : c ≤ 300
noncomputable def encFewer (p : FewerIn) : List V := [encN p.x, .ptr p.b 0]
noncomputable def preFewer (p : FewerIn) : List (Nat × O) := [(p.b, bxO 3 [.int .i64 (p.c : Int)])]
noncomputable def postFewer (p : FewerIn) : List (Nat × O) := [(p.b, bxO 3 [.int .i64 ((fewN p.x p.c).2 : Int)])]
noncomputable def outFewer (p : FewerIn) : En := .ret (encN (fewN p.x p.c).1)
theorem effU_Fewer : EffU encFewer preFewer := fun p q s h h1 h2 => by
 simp only [encFewer, List.cons.injEq, V.ptr.injEq, and_true] at h
 obtain ⟨hx, hb⟩ := h
 have hx := encN_inj hx
 have e1 := h1 (p.b, bxO 3 [.int .i64 (p.c : Int)]) (List.mem_singleton.2 rfl)
 have e2 := h2 (q.b, bxO 3 [.int .i64 (q.c : Int)]) (List.mem_singleton.2 rfl)
 simp only at e1 e2
 rw [hb] at e1
 rw [e1, oS] at e2
 have e3 := bxO_inj e2
 simp only [List.cons.injEq, V.int.injEq, true_and, and_true] at e3
 have hc : p.c = q.c := by omega
 cases p; cases q
 simp only at hx hb hc
 subst hx hb hc
 rfl
noncomputable def kfFewer : KF := effKF encFewer preFewer postFewer outFewer
theorem kfFewer_run {S : St} (ho : S.on = false) {x : Nd} (ok : x.ok) {b c : Nat} (hc : c ≤ 300) (hB : Bx S b 3 [.int .i64 (c : Int)]) : kfFewer.run [encN x, .ptr b 0] S = some (.ret (encN (fewN x c).1), S.put b (bxO 3 [.int .i64 ((fewN x c).2 : Int)])) :=
 effKF_run (enc := encFewer) (pre := preFewer) (post := postFewer) (out := outFewer) effU_Fewer ho ⟨x, ok, b, c, hc⟩ (fun p hp => by
  rw [preFewer, List.mem_singleton] at hp
  subst hp
  exact hB)
theorem kn20 {K : FuncId → Option KF} (hK : KnOk Tryd.prog E0 K) : KnWell Tryd.prog E0 20 kfFewer :=
 effKF_rec (fn := Tryd.f20) (c := C20) (d := B20) (fun p : FewerIn => SizeOf.sizeOf p.x) effU_Fewer (fun x N hx p hp => by
  rw [postFewer, List.mem_singleton] at hp
  subst hp
  exact ⟨hx (x.b, bxO 3 [.int .i64 (x.c : Int)]) (List.mem_singleton.2 rfl), bxO_under fun v hv => by
   rw [List.mem_singleton] at hv
   subst hv
   exact .int _ _⟩) (fun x p hp => by
  rw [preFewer, List.mem_singleton] at hp
  subst hp
  rfl) E0_ok hK (by kernel_rfl) (by kernel_rfl) (annot_isOf C20 _ (by kernel_rfl)) fun K' hK' p S hself ho hh hl => by
  obtain ⟨v, S', h1, h2, h3, h4⟩ := F20_spec (ev E0 K' 1) p.x p.ok.at p.b p.c p.hc S ho (hh (p.b, bxO 3 [.int .i64 (p.c : Int)]) (List.mem_singleton.2 rfl)) (hl (p.b, bxO 3 [.int .i64 (p.c : Int)]) (List.mem_singleton.2 rfl))
   (fun y hy c hc S ho hB => hself ⟨y, p.ok.at.kids y hy, p.b, c, hc⟩ S 0 (kid_size hy) ho (fun q hq => by
    rw [preFewer, List.mem_singleton] at hq
    subst hq
    exact hB))
  refine ⟨1, .ret v, S', h1, h4.mono fun y _ hy => ⟨_, List.mem_singleton.2 rfl, hy.symm⟩, fun q hq => ?_, h2⟩
  rw [postFewer, List.mem_singleton] at hq
  subst hq
  exact h3
def smallN (r : Rw) : Nd := (fewN (cutN 16 r) 300).1
theorem small_ok (r : Rw) (h : DeepOk 16 r) : (smallN r).ok := fewN_ok _ _ (by omega) (cut_ok 16 r (Nat.le_refl _) h)
theorem small_cnt (r : Rw) : cntN (smallN r) ≤ 301 := by
 have := fewN_cnt (cutN 16 r) 300
 unfold smallN
 omega
structure SmallIn where
 r : Rw
 ok : DeepOk 16 r
noncomputable def encSmall (p : SmallIn) : List V := [rwV p.r]
noncomputable def kfSmall : KF := specKF encSmall (fun p => En.ret (encN (smallN p.r)))
theorem encSmall_eq {p q : SmallIn} (h : encSmall p = encSmall q) : smallN p.r = smallN q.r := by
 simp only [encSmall, List.cons.injEq, and_true] at h
 unfold smallN
 rw [cut_eq 16 _ _ h]
theorem kfSmall_run (r : Rw) (h : DeepOk 16 r) (S : St) : kfSmall.run [rwV r] S = some (.ret (encN (smallN r)), S) :=
 specKF_run (enc := encSmall) (out := fun p => En.ret (encN (smallN p.r))) (fun p q h => by rw [encSmall_eq h]) ⟨r, h⟩ S
theorem kn6 {K : FuncId → Option KF} (hK : KnOk Tryd.prog E0 K) (h19 : K 19 = some kfCut) (h20 : K 20 = some kfFewer) : KnWell Tryd.prog E0 6 kfSmall :=
 specKF_text (fn := Tryd.f6) (c := C6) (d := B6) E0_ok hK (by kernel_rfl) (by kernel_rfl) (annot_isOf C6 _ (by kernel_rfl)) fun p S ho => by
  obtain ⟨r, hr⟩ := p
  have okc := cut_ok 16 r (Nat.le_refl _) hr
  obtain ⟨S1, k1, k2, k3, k4⟩ := box_new ho 24 (cellsR r)
  have on1 := k3.on.trans ho
  obtain ⟨a1, a2, a3⟩ := ag_new on1 24 5 (Tr.ofListFrom .nil [(sv []), (.int .i64 0), (.bool false), (sv []), .nilslice] 0)
  generalize hS2 : (nwP 24 5 (Tr.ofListFrom .nil [(sv []), (.int .i64 0), (.bool false), (sv []), .nilslice] 0) S1).2 = S2 at a1 a2 a3
  have on2 := a2.on.trans on1
  have k2' := k2.grew (by omega) (fun h => h) a2
  have q1 : ldA 5 (.ptr S.next 0) S2 = some (vAgg (cellsR r), S2) := Bx.ldA on2 k2' rfl big5
  obtain ⟨t1, p1, _⟩ := VarAt.agg (Bx.var k2' (by show 0 < 5; decide) big5)
  have p1 : AgAt S2 S.next 24 5 t1 := p1
  obtain ⟨S3, b1, b2, b3, b4⟩ := p1.stA on2 big5 (treeN (cutN 16 r))
  have on3 := b3.on.trans on2
  have a1' := a1.grew (by omega) (by omega) b3
  obtain ⟨S4, c1, c2, c3, c4⟩ := one_new on3 3 (.int .i64 0) (.int .i64 300) rfl rfl rfl
  have on4 := c3.on.trans on3
  have b2' := b2.grew (by omega) (fun h => h) c3
  have a1'' := a1'.grew (by omega) (fun h => h) c3
  have l1 : ldA 5 (.ptr S.next 0) S4 = some (encN (cutN 16 r), S4) := by rw [encN_tree]; exact b2'.ldA on4 big5
  have hrun := kfFewer_run on4 okc (b := S3.next) (c := 300) (Nat.le_refl _) c2
  have g5 : Grew (fun b => b = S3.next) S4 (S4.put S3.next (bxO 3 [.int .i64 ((fewN (cutN 16 r) 300).2 : Int)])) := grew_put _ _
  have n5 : (S4.put S3.next (bxO 3 [.int .i64 ((fewN (cutN 16 r) 300).2 : Int)])).next = S4.next := rfl
  generalize S4.put S3.next (bxO 3 [.int .i64 ((fewN (cutN 16 r) 300).2 : Int)]) = S5 at g5 hrun n5
  have on5 := g5.on.trans on4
  have a5 := a1''.grew (by omega) (by omega) g5
  obtain ⟨S6, e1, e2, e3, e4⟩ := a5.stA on5 big5 (treeN (smallN r))
  have on6 := e3.on.trans on5
  refine ⟨1, .ret (encN (smallN r)), S6, (?_ : F6 (ev E0 K 1) rounds (rwV r) S = _), ?_, Fz.same (under_encN _ _)⟩
  · rw [F6_eq, rwV_cells, k1, oB, oB, nwP_fst]
    dsimp only
    rw [hS2, q1, oB]
    dsimp only
    rw [← rwV_cells, show (V.int .i64 16) = .int .i64 ((16 : Nat) : Int) from rfl, ev_known h19, kfCut_run 16 r (Nat.le_refl _), callP_ret, encN_tree, b1, oB]
    dsimp only
    rw [oB, nwP_fst]
    rw [c1, oB]
    dsimp only
    rw [l1, oB]
    dsimp only
    rw [ev_known h20, hrun, callP_ret]
    show (stP 5 (.ptr S1.next 0) (encN (smallN r)) S5).bind _ = _
    rw [encN_tree, e1, oB]
    dsimp only
    rw [e2.ldrA on6 big5, oB]
  · refine ⟨by have := k3.next; have := a2.next; have := b3.next; have := c3.next; have := e3.next; omega, on6.trans ho.symm, fun y hy _ => ?_⟩
    rw [e3.keep y (by omega) (by omega), g5.keep y (by omega) (by omega), c3.keep y (by omega) (fun h => h), b3.keep y (by omega) (by omega), a2.keep y (by omega) (fun h => h), k3.keep y hy (fun h => h)]
end Go.Proofs.YtcbaodegkfokjaaDoor.W
