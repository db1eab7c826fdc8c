/-
  WHAT THE FUNCTIONS COME TO: each is read by the evaluator, printed, and told as a function of data, part 8 of 9 (no condition).
-/
import Derived.Test.YthmkdoaaciamlaaW7
namespace Go.Proofs.Ythmkdoaaciamlaa.W
open Go.Proofs.Ythmkdoaaciamlaa.Ev
theorem body67 : E0.ext.get 67 = none ∧ hasBody E0 67 = true := ⟨by kernel_rfl, by kernel_rfl⟩
theorem f39_run {K : FuncId → Option KF} (h39 : K 39 = none) (m : Nat) (x : Nd) (q : List UInt8) (S : St) (ho : S.on = false) :
 ∃ S', (ev E0 K (m + 1)).f 39 [encN x, sv q] S = some (.ret (.fn (.func 67) [] [.ptr (S.next + 1) 0, .ptr S.next 0]), S') ∧ NodeAt S' S.next x ∧ Bx S' (S.next + 1) 9 [sv q] ∧ Grew (fun _ => False) S S' ∧ S'.next = S.next + 2 := by
 obtain ⟨S1, a1, a2, a3, a4⟩ := node_box ho x
 obtain ⟨S2, b1, b2, b3, b4⟩ := box_one a2.on 9 (oneV_sv q)
 rw [a4] at b1 b2
 refine ⟨S2, ev_read (c := C39) (d := B39) (by kernel_rfl) (by kernel_rfl) (annot_isOf C39 _ (by kernel_rfl)) h39 (?_ : F39 (ev E0 K m) rounds (encN x) (sv q) S = _), a2.grew (by omega) (fun h => h) b3, b2, a3.trans b3, by omega⟩
 rw [F39_eq, a1, oB]
 dsimp only
 rw [b1, oB]
theorem fin67 {self : EV} {a : Ac} (S : St) (ho : S.on = false) (bs : List Nat) (hd : a.defers = bs.map mkR) (hn : bs.Nodup) (h : ∀ b ∈ bs, S.heap.get b = some .defb) : ∃ S', finR E0 self Try.f67 a S = some (.ret (.tuple []), S') ∧ Grew (fun b => b ∈ bs) S S' := by
 have hl : ∀ S, leaves E0 self Try.f67 a [] .ret S = some (.ret (.tuple []), S) := fun S => by kernel_rfl
 cases bs with
 | nil =>
  refine ⟨S, ?_, Grew.refl _ _⟩
  unfold finR
  rw [hd]
  show resK E0 a Try.f67.results.toList _ S = _
  kernel_rfl
 | cons b bs =>
  obtain ⟨S', h1, h2, _⟩ := leaves_marks (E := E0) (self := self) (fn := Try.f67) (a := a) (m := .ret) (b :: bs) ho hn h
  refine ⟨S', ?_, h2⟩
  rw [finR_defer (d := mkR b) (ds := bs.map mkR) (by rw [hd]; rfl)]
  rw [List.map_cons] at h1
  rw [h1, hl]
section
variable {K : FuncId → Option KF}
def Walked (K : FuncId → Option KF) (d : Nat) : Prop :=
 ∀ (x : Nd), deepN d x < d → x.ok → mayN x = true → ∀ (p : List UInt8) (n0 : Nat) (y : V) (I : (Nat → Prop) → List (List UInt8) → St → Prop), Yd K n0 y I →
 ∀ (O : Nat → Prop) (acc : List (List UInt8)) (S : St) (pp px : Nat), I O acc S → O pp → O px → Bx S pp 9 [sv p] → NodeAt S px x → acc.length + (pathsN x p).length ≤ 3000 → p.length + 60 * d ≤ 10000 →
 ∀ n, n0 + 4 * d ≤ n → ∃ S', (ev E0 K n).f 67 [y, .ptr pp 0, .ptr px 0] S = some (.ret (.tuple []), S') ∧ I O (acc ++ pathsN x p) S' ∧ Grew (fun b => ¬ O b) S S'
theorem L67_spec (h39 : K 39 = none) {d : Nat} (ih : Walked K d) (m N : Nat) (x : Nd) (hk : ∀ z ∈ x.kids, z.ok ∧ mayN z = true ∧ z.name.length ≤ 56 ∧ deepN d z < d) (hfew : x.kids.length ≤ 3000) (p : List UInt8) (hp : p.length + 60 * (d + 1) ≤ 10000) (n0 : Nat) (hm : n0 + 4 * d + 1 ≤ m) (y : V) (I : (Nat → Prop) → List (List UInt8) → St → Prop) (hY : Yd K n0 y I)
 (nk : Ac → St → Rs) (O0 : Nat → Prop) (N0 p0 pp : Nat) (hO0 : ∀ b, O0 b → b < N0) (hp0 : ¬ O0 p0) :
 ∀ (r : List Nd) (i n : Nat) (O : Nat → Prop) (acc : List (List UInt8)) (bs : List Nat) (S : St), x.kids.drop i = r → r.length < n → I O acc S → O p0 → O pp → (∀ b, O0 b → O b) → N0 ≤ S.next →
 (∀ b ∈ bs, O b ∧ N0 ≤ b ∧ S.heap.get b = some .defb) → bs.Nodup → Bx S p0 85 [y] → Bx S pp 9 [sv p] → acc.length + (pathsL r p).length ≤ 3000 →
 ∃ S', L67_15 (ev E0 K m) N (finN E0 (ev E0 K m) Try.f67) (exB 0 (finN E0 (ev E0 K m) Try.f67) noEx) n (bs.map mkR) (.ptr pp 0) (.ptr p0 0) (kidsV (encL x.kids)) (.int .i64 (x.kids.length : Int)) (.int .i64 (i : Int)) S = some (.ret (.tuple []), S') ∧ I O0 (acc ++ pathsL r p) S' ∧ Grew (fun b => ¬ O0 b) S S'
 | r, i, 0, O, acc, bs, S, _, hn, _, _, _, _, _, _, _, _, _, _ => by omega
 | [], i, n + 1, O, acc, bs, S, hi, hn, hI, o0, op, oO, hN, hbs, hnd, b0, bp, hl => by
  rw [L67_15_eq, binV_ii, intsV_lss, dec_ge (drop_end hi), oB, ifK_bool, cond_false, exB_same]
  obtain ⟨S', h1, h2⟩ := fin67 (self := ev E0 K m) (a := frD 46 [] (bs.map mkR)) S (hY.on hI) bs rfl hnd fun b hb => (hbs b hb).2.2
  refine ⟨S', h1, ?_, h2.mono fun b _ hb hO => ?_⟩
  · rw [pathsL, List.append_nil]
    exact hY.weak (hY.keepO hI (h2.mono fun b _ hb => (hbs b hb).1)) oO
  · have := (hbs b hb).2.1
    have := hO0 b hO
    omega
 | z :: r, i, n + 1, O, acc, bs, S, hi, hn, hI, o0, op, oO, hN, hbs, hnd, b0, bp, hl => by
  obtain ⟨hlt, hz, hr, hmem⟩ := drop_at hi
  obtain ⟨okz, mayz, nmz, dz⟩ := hk z hmem
  have ho := hY.on hI
  have l0 := hY.lt hI o0
  have lp := hY.lt hI op
  obtain ⟨m', rfl⟩ : ∃ m', m = m' + 1 := ⟨m - 1, by omega⟩
  obtain ⟨S1, a1, a2, a3, a4⟩ := node_new ho (Tr.ofListFrom .nil [(sv []), (.int .i64 0), (.bool false), (sv []), .nilslice] 0) z
  have bp1 := bp.grew lp (fun h => h) a3
  have b01 := b0.grew l0 (fun h => h) a3
  obtain ⟨S2, c1, c2, c3, c4, c5⟩ := f39_run h39 m' z (pathOf p z) S1 a2.on
  have on2 := c4.on.trans a2.on
  have b02 := b01.grew (by omega) (fun h => h) c4
  have bp2 := bp1.grew (by omega) (fun h => h) c4
  have g3 : Grew (fun _ => False) S2 (nw (nw S2 .defb) (O67_38 0 none (.ptr p0 0))) := (grew_nw on2 _ _).trans (grew_nw (nw_on on2 _) _ _)
  have n3 : (nw (nw S2 .defb) (O67_38 0 none (.ptr p0 0))).next = S2.next + 2 := rfl
  have hd3 : (nw (nw S2 .defb) (O67_38 0 none (.ptr p0 0))).heap.get S2.next = some .defb := by
   rw [nw_get, if_neg (by show S2.next ≠ S2.next + 1; omega), nw_get, if_pos rfl]
  have hl3 : (nw (nw S2 .defb) (O67_38 0 none (.ptr p0 0))).heap.get (S2.next + 1) = some (O67_38 0 none (.ptr p0 0)) := by
   rw [nw_get]; exact if_pos rfl
  have hrange := fun (self : EV) (kn kr : St → Rs) (ke : Nat → St → Rs) (kp : V → St → Rs) => rangeP_fn (s := S2) (self := self) (first := []) (captured := [.ptr (S1.next + 1) 0, .ptr S1.next 0]) (o := O67_38 0 none (.ptr p0 0)) (kn := kn) (kr := kr) (ke := ke) (kp := kp) body67.1 body67.2
  generalize nw (nw S2 .defb) (O67_38 0 none (.ptr p0 0)) = S3 at g3 n3 hd3 hl3 hrange
  have on3 := g3.on.trans on2
  have g03 : Grew (fun _ => False) S S3 := (a3.trans c4).trans g3
  have i3 := hY.keep hI (g03.mono fun _ _ h => h.elim)
  have hO3 : ∀ b, S.next ≤ b → b < S3.next → (O b ∨ (S.next ≤ b ∧ b < S3.next)) := fun b h1 h2 => .inr ⟨h1, h2⟩
  have b03 := b02.grew (by omega) (fun h => h) g3
  have bp3 := bp2.grew (by omega) (fun h => h) g3
  have c2' := c2.grew (by omega) (fun h => h) g3
  have c3' := c3.grew (by omega) (fun h => h) g3
  have hO1 : ∀ b, O b → b < S.next := fun b hb => hY.lt hI hb
  have iin : Inner I (S2.next + 1) p0 y (fun b => (O b ∨ (S.next ≤ b ∧ b < S3.next)) ∧ b ≠ S2.next + 1 ∧ b ≠ p0) acc S3 :=
   ⟨_, i3, fun b hb => hb.1, .inr ⟨by omega, by omega⟩, .inl o0, fun hb => hb.2.1 rfl, fun hb => hb.2.2 rfl, by omega, hl3, b03⟩
  have hpl : (pathOf p z).length + 60 * d ≤ 10000 := by
   unfold pathOf
   split
   · omega
   · rw [List.length_append, List.length_append, List.length_singleton]; omega
  rw [pathsL, List.length_append] at hl
  obtain ⟨S4, e1, e2, e3⟩ := ih z dz okz mayz (pathOf p z) (n0 + 1) (.yield (S2.next + 1)) _ (yd_inner hY (S2.next + 1) p0) _ acc S3 (S1.next + 1) S1.next iin
   ⟨.inr ⟨by omega, by omega⟩, by omega, by omega⟩ ⟨.inr ⟨by omega, by omega⟩, by omega, by omega⟩ c3' c2' (by omega) hpl (m' + 1) (by omega)
  obtain ⟨O4, j1, j2, j3, j4, _, _, _, j8, j9⟩ := e2
  have on4 := e3.on.trans on3
  have n34 := e3.next
  have g5 : Grew (fun b => b = S2.next + 1) S4 (S4.put (S2.next + 1) (O67_38 3 none (.ptr p0 0))) := grew_put _ _
  have n5 : (S4.put (S2.next + 1) (O67_38 3 none (.ptr p0 0))).next = S4.next := rfl
  have hend := fun (kn kr : St → Rs) (ke : Nat → St → Rs) => endLP_norm (kn := kn) (kr := kr) (ke := ke) on4 j8 (by decide)
  have hend' : ∀ (kn kr : St → Rs) (ke : Nat → St → Rs), endLP (S2.next + 1) S4 kn kr ke = kn (S4.put (S2.next + 1) (O67_38 3 none (.ptr p0 0))) := hend
  clear hend
  generalize S4.put (S2.next + 1) (O67_38 3 none (.ptr p0 0)) = S5 at g5 n5 hend'
  have i5 := hY.keepO j1 (g5.mono fun b _ hb => by rw [hb]; exact j3)
  have hO4 : ∀ b, (O b ∨ (S.next ≤ b ∧ b < S3.next)) → O4 b := fun b hb => by
   by_cases h1 : b = S2.next + 1
   · rw [h1]; exact j3
   · by_cases h2 : b = p0
     · rw [h2]; exact j4
     · exact j2 b ⟨hb, h1, h2⟩
  have hkeep : ∀ b, (O b ∨ (S.next ≤ b ∧ b < S3.next)) → b ≠ S2.next + 1 → b ≠ p0 → S5.heap.get b = S3.heap.get b := fun b hb h1 h2 => by
   have hlt : b < S3.next := by
    rcases hb with hb | hb
    · have := hO1 b hb; omega
    · exact hb.2
   rw [g5.keep b (by omega) h1, e3.keep b hlt (fun h => h ⟨hb, h1, h2⟩)]
  have bp5 : Bx S5 pp 9 [sv p] := by
   by_cases e : pp = p0
   · exfalso
     rw [e] at bp
     unfold Bx at bp b0
     rw [bp] at b0
     simp at b0
   · unfold Bx
     rw [hkeep pp (.inl op) (by omega) e]; exact bp3
  have b05 : Bx S5 p0 85 [y] := j9.grew (by omega) (by omega) g5
  have hbs5 : ∀ b ∈ S2.next :: bs, O4 b ∧ N0 ≤ b ∧ S5.heap.get b = some .defb := fun b hb => by
   rcases List.mem_cons.1 hb with rfl | hb
   · refine ⟨hO4 _ (.inr ⟨by omega, by omega⟩), by omega, ?_⟩
     rw [hkeep _ (.inr ⟨by omega, by omega⟩) (by omega) (by omega)]
     exact hd3
   · obtain ⟨q1, q2, q3⟩ := hbs b hb
     have q4 := hO1 b q1
     refine ⟨hO4 b (.inl q1), q2, ?_⟩
     have hne : b ≠ p0 := fun e => by
      unfold Bx at b0
      rw [e, b0] at q3
      cases q3
     rw [hkeep b (.inl q1) (by omega) hne, g03.keep b q4 (fun h => h)]
     exact q3
  have hnd5 : (S2.next :: bs).Nodup := List.nodup_cons.2 ⟨fun hb => by
   have := hO1 _ (hbs _ hb).1
   omega, hnd⟩
  obtain ⟨S6, k1, k2, k3⟩ := L67_spec h39 ih (m' + 1) N x hk hfew p hp n0 hm y I hY nk O0 N0 p0 pp hO0 hp0 r (i + 1) n O4 (acc ++ pathsN z (pathOf p z)) (S2.next :: bs) S5 hr (by simp at hn; omega) i5 (hO4 _ (.inl o0)) (hO4 _ (.inl op)) (fun b hb => hO4 b (.inl (oO b hb))) (by omega) hbs5 hnd5 b05 bp5 (by rw [List.length_append]; omega)
  refine ⟨S6, ?_, by rw [pathsL, ← List.append_assoc]; exact k2, ?_⟩
  · -- the text
    have tail : ∀ (a1 : Ac) (a2 a3 : V → St → Ac), (callPF E0 (ev E0 K (m' + 1)) Try.f67 a1 ((ev E0 K (m' + 1)).f 39 [encN z, sv (pathOf p z)] S1) fun t51 S51 =>
     rangeP E0 (ev E0 K (m' + 1)) t51 (O67_38 0 none (.ptr p0 0)) S51 (fun S53 =>
     R67_17 (ev E0 K (m' + 1)) N (N67_15 (ev E0 K (m' + 1)) N (finN E0 (ev E0 K (m' + 1)) Try.f67) (exB 0 (finN E0 (ev E0 K (m' + 1)) Try.f67) noEx) n) (exB 0 (finN E0 (ev E0 K (m' + 1)) Try.f67) noEx) (frD 46 [(1, .ptr pp 0), (3, .ptr p0 0), (20, kidsV (encL x.kids)), (21, .int .i64 (x.kids.length : Int)), (22, .int .i64 (i : Int))] (mkR S51.next :: bs.map mkR)) S53) (fun s => finR E0 (ev E0 K (m' + 1)) Try.f67 (a2 t51 S51) s) (fun i s => (exB 2 (R67_17 (ev E0 K (m' + 1)) N (N67_15 (ev E0 K (m' + 1)) N (finN E0 (ev E0 K (m' + 1)) Try.f67) (exB 0 (finN E0 (ev E0 K (m' + 1)) Try.f67) noEx) n) (exB 0 (finN E0 (ev E0 K (m' + 1)) Try.f67) noEx)) (exB 1 (R67_17 (ev E0 K (m' + 1)) N (N67_15 (ev E0 K (m' + 1)) N (finN E0 (ev E0 K (m' + 1)) Try.f67) (exB 0 (finN E0 (ev E0 K (m' + 1)) Try.f67) noEx) n) (exB 0 (finN E0 (ev E0 K (m' + 1)) Try.f67) noEx)) (exB 0 (finN E0 (ev E0 K (m' + 1)) Try.f67) noEx))) i (a2 t51 S51) s) (fun v s => leaves E0 (ev E0 K (m' + 1)) Try.f67 (a3 t51 S51) (mkR S51.next :: bs.map mkR) (.pan v) s)) = some (.ret (.tuple []), S6) := fun a1 a2 a3 => by
     rw [c1, callPF_ret, hrange]
     show onEn ((ev E0 K (m' + 1)).f 67 [.yield (S2.next + 1), .ptr (S1.next + 1) 0, .ptr S1.next 0] S3) _ _ = _
     rw [e1]
     show endLP (S2.next + 1) S4 _ _ _ = _
     rw [hend', R67_17_eq, binV_ii, intsV_add, wrap_succ (show i < 9223372036854775807 by omega), oB, N67_15_eq]
     exact k1
    rw [L67_15_eq, binV_ii, intsV_lss, dec_lt hlt, oB, ifK_bool, cond_true, ixP_kids x.kids i hlt, hz, oB, ldA_kid, oB, oB, nwP_fst, a1, oB]
    dsimp only
    rw [faP_ptr, oB, Nat.zero_add, a2.f0, oB]
    dsimp only
    rw [Bx.ld1 a2.on bp1 0 (by show 0 < 1; decide) big1, oB]
    dsimp only
    rw [show ([sv p] : List V)[0]'(by show 0 < 1; decide) = sv p from rfl, show (sv []) = sv ([] : List UInt8) from rfl, binV_ss, strOp_neq, oB, ifK_bool]
    by_cases hpe : p = []
    · have : pathOf p z = z.name := by unfold pathOf; rw [if_pos hpe]
      rw [beq_iff_eq.2 hpe, Bool.not_true, cond_false, a2.fA, oB]
      dsimp only
      rw [this] at tail
      exact tail _ _ _
    · have : pathOf p z = p ++ [47] ++ z.name := by unfold pathOf; rw [if_neg hpe]
      rw [beq_false_of_ne hpe, Bool.not_false, cond_true, Bx.ld1 a2.on bp1 0 (by show 0 < 1; decide) big1, oB]
      dsimp only
      rw [show ([sv p] : List V)[0]'(by show 0 < 1; decide) = sv p from rfl, binV_ss, strOp_add _ _ (by rw [show ([47] : List UInt8).length = 1 from rfl]; omega), oB, oB, a2.f0, oB]
      dsimp only
      rw [binV_ss, strOp_add _ _ (by rw [List.length_append, show ([47] : List UInt8).length = 1 from rfl]; omega), oB, a2.fA, oB]
      dsimp only
      rw [this] at tail
      exact tail _ _ _
  · refine ((g03.mono fun _ _ h => h.elim).trans ((e3.mono fun b hb hnb hO => ?_).trans (g5.mono fun b _ hb hO => ?_))).trans k3
    · refine hnb ⟨.inl (oO b hO), ?_, ?_⟩
      · have := hO0 b hO; omega
      · intro e; rw [e] at hO; exact hp0 hO
    · rw [hb] at hO
      have := hO0 _ hO
      omega
theorem may_names {x : Nd} (h : mayN x = true) (hk : x.kind = 2) : ∀ z ∈ x.kids, mayN z = true ∧ nameOk z.name = true := by
 rw [mayN_eq, if_neg (by omega), if_neg (by omega), if_pos hk] at h
 simp only [Bool.and_eq_true] at h
 have key : ∀ (l : List Nd) (p : Option (List UInt8)), mayL p l = true → ∀ z ∈ l, mayN z = true ∧ nameOk z.name = true := fun l => by
  induction l with
  | nil => intro p _ z hz; cases hz
  | cons x l ih =>
   intro p h z hz
   rw [mayL] at h
   simp only [Bool.and_eq_true] at h
   rcases List.mem_cons.1 hz with rfl | hz
   · exact ⟨h.1.1.2, h.1.1.1⟩
   · exact ih _ h.2 z hz
 exact key _ _ h.1
theorem nameOk_all {s : List UInt8} (h : nameOk s = true) : 1 ≤ s.length ∧ s.length ≤ 56 ∧ s.any badByte = false := by
 unfold nameOk at h
 simp only [Bool.and_eq_true, decide_eq_true_eq, Bool.not_eq_true'] at h
 exact ⟨h.1.1.1.1, h.1.1.1.2, h.1.1.2⟩
theorem walked (h39 : K 39 = none) (h67 : K 67 = none) : ∀ d, Walked K d
 | 0 => fun x hd => by omega
 | d + 1 => fun x hd ok may p n0 y I hY O acc S pp px hI op ox bp nx hl hp n hn => by
  have ih := walked h39 h67 d
  obtain ⟨m, rfl⟩ : ∃ m, n = m + 1 := ⟨n - 1, by omega⟩
  have ho := hY.on hI
  have lp := hY.lt hI op
  have lx := hY.lt hI ox
  have hO : ∀ b, O b → b < S.next := fun b hb => hY.lt hI hb
  suffices h : ∃ S', F67 (ev E0 K m) rounds y (.ptr pp 0) (.ptr px 0) S = some (.ret (.tuple []), S') ∧ I O (acc ++ pathsN x p) S' ∧ Grew (fun b => ¬ O b) S S' by
   obtain ⟨S', h1, h2, h3⟩ := h
   exact ⟨S', ev_read (c := C67) (d := B67) (by kernel_rfl) (by kernel_rfl) (annot_isOf C67 _ (by kernel_rfl)) h67 h1, h2, h3⟩
  obtain ⟨S1, a1, a2, a3, a4⟩ := box_one ho 85 hY.one
  have on1 := a3.on.trans ho
  have i1 := hY.keep hI (a3.mono fun _ _ h => h.elim)
  have bp1 := bp.grew lp (fun h => h) a3
  have nx1 := nx.grew lx (fun h => h) a3
  rw [pathsN_eq, List.length_cons] at hl
  obtain ⟨S2, b1, b2, b3⟩ := hY.call i1 ok (q := p) (by omega) (by omega) m (by omega)
  have on2 := b3.on.trans on1
  have c0 : Bx S2 S.next 85 [y] := a2.grew (by omega) (fun h => h (.inr ⟨by omega, by omega⟩)) b3
  have bp2 := bp1.grew (by omega) (fun h => h (.inl op)) b3
  have nx2 := nx1.grew (by omega) (fun h => h (.inl ox)) b3
  have n2 := b3.next
  have g02 : Grew (fun b => ¬ O b) S S2 := (a3.mono fun _ _ h => h.elim).trans (b3.mono fun b _ hb h => hb (.inl h))
  rw [F67_eq, a1, oB]
  dsimp only
  rw [Bx.ld1 on1 a2 0 (by show 0 < 1; decide) big1, oB]
  dsimp only
  rw [Bx.ld1 on1 bp1 0 (by show 0 < 1; decide) big1, oB]
  dsimp only
  rw [nx1.fA, oB]
  dsimp only
  rw [show ([y] : List V)[0]'(by show 0 < 1; decide) = y from rfl, show ([sv p] : List V)[0]'(by show 0 < 1; decide) = sv p from rfl, b1, callPF_ret, unV_not, oB, Bool.not_true, show guardV false (.bool false) = some true from rfl, oB, cond_true, faP_ptr, oB, oB, cond_true, Nat.zero_add, nx2.f1, oB, oB, cond_true]
  dsimp only
  rw [binV_ii, intsV_neq, oB, pickV_bool, cond_false, oB, ifK_bool]
  by_cases hk : x.kind = 2
  · rw [decide_eq_true hk, Bool.not_true, cond_false, faP_ptr, oB, Nat.zero_add, nx2.f4, oB]
    dsimp only
    rw [lnS_kids, oB]
    dsimp only
    have hnm := may_names may hk
    rw [if_pos hk] at hl
    obtain ⟨S3, c1, c2, c3⟩ := L67_spec h39 ih m rounds x (fun z hz => ⟨ok.at.kids z hz, (hnm z hz).1, (nameOk_all (hnm z hz).2).2.1, by have := deep_kid hk hz hd; omega⟩) ok.at.few p hp n0 (by omega) y I hY (fun _ _ => none) O S.next S.next pp hO (fun h => by have := hO _ h; omega)
     x.kids 0 rounds _ (acc ++ [p]) [] S2 rfl (by have := ok.at.few; unfold rounds; omega) b2 (.inr ⟨by omega, by omega⟩) (.inl op) (fun b hb => .inl hb) (by omega) (fun _ h => by cases h) List.nodup_nil c0 bp2 (by rw [List.length_append, List.length_singleton]; omega)
    rw [show ((0 : Nat) : Int) = 0 from rfl] at c1
    refine ⟨S3, c1, ?_, g02.trans c3⟩
    rw [pathsN_eq, if_pos hk]
    rw [List.append_assoc] at c2
    exact c2
  · rw [decide_eq_false hk, Bool.not_false, cond_true]
    obtain ⟨S3, c1, c2⟩ := fin67 (self := ev E0 K m) (a := frD 46 [(0, y), (1, .ptr pp 0), (2, .ptr px 0), (3, .ptr S.next 0), (9, y), (10, sv p), (11, encN x), (12, .bool true), (13, .bool false), (14, .bool false), (15, .ptr px 1), (16, .int .i64 x.kind), (17, .bool true), (18, .bool true)] []) S2 on2 [] rfl List.nodup_nil (fun _ h => by cases h)
    refine ⟨S3, c1, ?_, g02.trans (c2.mono fun _ _ h => by cases h)⟩
    rw [pathsN_eq, if_neg hk]
    exact hY.weak (hY.keepO b2 (c2.mono fun _ _ h => by cases h)) fun b hb => .inl hb
end
end Go.Proofs.Ythmkdoaaciamlaa.W
namespace Go.Proofs.Ythmkdoaaciamlaa.W
open Go.Proofs.Ythmkdoaaciamlaa.Ev
mutual
def dataN : Nd → Nat
 | .mk _ _ _ d l => d.length + dataL l
def dataL : List Nd → Nat
 | [] => 0
 | x :: l => dataN x + dataL l
end
theorem dataN_eq (x : Nd) : dataN x = x.data.length + dataL x.kids := by cases x; rw [dataN]; rfl
mutual
def namN : Nd → Nat
 | .mk _ _ _ _ l => namL l
def namL : List Nd → Nat
 | [] => 0
 | x :: l => x.name.length + namN x + namL l
end
theorem namN_eq (x : Nd) : namN x = namL x.kids := by cases x; rw [namN]; rfl
theorem digs_one {n : Nat} (h : n < 128) : (digs n).length = 1 := by
 rw [digs_eq, Nat.div_eq_of_lt h, digsA_zero]; rfl
theorem digs_two {n : Nat} (h : n < 16384) : (digs n).length ≤ 2 := by
 rw [digs_eq, List.length_append, List.length_singleton]
 have h1 : n / 128 < 128 := by omega
 by_cases h0 : n / 128 = 0
 · rw [h0, digsA_zero]; simp
 · rw [digsA_pos h0, Nat.div_eq_of_lt h1, digsA_zero]; simp
theorem put_len (t : List UInt8) : (putText [] t).length = (digs t.length).length + t.length := by
 unfold putText
 rw [List.nil_append, List.length_append]
structure LayLen (x : Nd) : Prop where
 low : dataN x + namN x + cntN x ≤ (layN [] x).length
 high : (layN [] x).length + 2 ≤ dataN x + namN x + 8 * cntN x
theorem layL_size : ∀ (l : List Nd), (∀ y ∈ l, LayLen y ∧ y.name.length < 128) → dataL l + namL l + cntL l ≤ (layL [] l).length ∧ (layL [] l).length ≤ dataL l + namL l + 8 * cntL l
 | [], _ => by rw [layL, dataL, namL, cntL]; simp
 | x :: l, h => by
  obtain ⟨h1, h2⟩ := h x (List.mem_cons_self ..)
  obtain ⟨h3, h4⟩ := layL_size l fun y hy => h y (List.mem_cons_of_mem _ hy)
  have := h1.low
  have := h1.high
  rw [layL_cons, dataL, namL, cntL, List.length_append, List.length_append, put_len, digs_one h2]
  omega
theorem layN_size : ∀ (m : Nat) (x : Nd), m ≤ 14 → x.ok → mayN x = true → deepN m x < m → LayLen x
 | 0, x, _, _, _, h => by omega
 | m + 1, x, hm, ok, may, h => by
  have hok := ok.at
  have hdata := hok.data
  have hfew := hok.few
  rcases mayCase may with ⟨hk, hkids⟩ | ⟨hk, hkids⟩ | ⟨hk, hkids⟩
  · have hl := layN_nil x
    rw [if_pos hk, hk] at hl
    have h1 : (digs (Int.toNat 1)).length = 1 := digs_one (by decide)
    have h2 : (digs (if x.exec then 1 else 0)).length = 1 := digs_one (by cases x.exec <;> decide)
    have h3 := digs_two (show x.data.length < 16384 by omega)
    have h4 := digs_pos x.data.length
    constructor
    · rw [hl, dataN_eq, namN_eq, cntN_eq, hkids, dataL, namL, cntL, List.length_append, List.length_append, put_len]
      omega
    · rw [hl, dataN_eq, namN_eq, cntN_eq, hkids, dataL, namL, cntL, List.length_append, List.length_append, put_len]
      omega
  · have hl := layN_nil x
    rw [if_neg (by omega), if_pos hk, hk] at hl
    have h1 : (digs (Int.toNat 3)).length = 1 := digs_one (by decide)
    have h3 := digs_two (show x.data.length < 16384 by omega)
    have h4 := digs_pos x.data.length
    constructor
    · rw [hl, dataN_eq, namN_eq, cntN_eq, hkids, dataL, namL, cntL, List.length_append, put_len]
      omega
    · rw [hl, dataN_eq, namN_eq, cntN_eq, hkids, dataL, namL, cntL, List.length_append, put_len]
      omega
  · have hl := layN_nil x
    rw [if_neg (by omega), if_neg (by omega), hk] at hl
    have hm0 : m ≠ 0 := by
     intro h0
     subst h0
     rw [deepN, if_pos (.inr rfl)] at h
     omega
    have h0 := (mayN_dir may hk).2.2
    rw [deep_dir hk hm0] at h
    have hkid : ∀ y ∈ x.kids, LayLen y ∧ y.name.length < 128 := fun y hy => by
     have hle := (foldl_max_ge (f := deepN m) x.kids 1).2 y hy
     have hny := nameOk_len (mayL_all hkids y hy).1
     exact ⟨layN_size m y (by omega) (hok.kids y hy) (mayL_all hkids y hy).2 (by omega), by omega⟩
    obtain ⟨k1, k2⟩ := layL_size x.kids hkid
    have h1 : (digs (Int.toNat 2)).length = 1 := digs_one (by decide)
    have h3 := digs_two (show x.kids.length < 16384 by omega)
    have h4 := digs_pos x.kids.length
    constructor
    · rw [hl, dataN_eq, namN_eq, cntN_eq, h0, List.length_append, List.length_append, List.length_nil]
      omega
    · rw [hl, dataN_eq, namN_eq, cntN_eq, h0, List.length_append, List.length_append, List.length_nil]
      omega
mutual
theorem dataN_le : ∀ x : Nd, x.ok → dataN x ≤ 3000 * cntN x
 | .mk n k e d l, h => by
  rw [Nd.ok] at h
  have := dataL_le l h.2.2.2.2.2
  have := h.2.2.1
  rw [dataN, cntN]
  omega
theorem dataL_le : ∀ l : List Nd, okL l → dataL l ≤ 3000 * cntL l
 | [], _ => by rw [dataL]; omega
 | x :: l, h => by
  rw [okL] at h
  have := dataN_le x h.1
  have := dataL_le l h.2
  rw [dataL, cntL]
  omega
end
theorem sizeL_data : ∀ (l : List Nd) (a : Int × Int) (c : Nat), a.2 = (c : Int) → (∀ y ∈ l, tooDeepN y = false ∧ (sizeN y).2 = (dataN y : Int)) → c + dataL l < 9223372036854775808 → (sizeL l a).2 = ((c + dataL l : Nat) : Int)
 | [], a, c, ha, _, _ => by rw [sizeL, dataL]; exact ha
 | x :: l, a, c, ha, h, hb => by
  obtain ⟨h1, h2⟩ := h x (List.mem_cons_self ..)
  rw [dataL] at hb ⊢
  rw [sizeL, h1]
  simp only [Bool.false_eq_true, if_false]
  rw [sizeL_data l _ (c + dataN x) (by
   show wr (a.2 + (sizeN x).2) = _
   rw [ha, h2]
   show IntKind.i64.wrap _ = _
   rw [wrap_i64 (by omega) (by omega)]; omega) (fun y hy => h y (List.mem_cons_of_mem _ hy)) (by omega)]
  congr 1
  omega
theorem size_data : ∀ (m : Nat) (x : Nd), m ≤ 14 → x.ok → mayN x = true → deepN m x < m → deepN m x ≤ 12 → cntN x ≤ 3000000000 → (sizeN x).2 = (dataN x : Int)
 | 0, x, _, _, _, h, _, _ => by omega
 | m + 1, x, hm, ok, may, h, h12, hc => by
  have hok := ok.at
  have hle := dataN_le x ok
  rcases mayCase may with ⟨hk, hkids⟩ | ⟨hk, hkids⟩ | ⟨hk, hkids⟩
  · rw [sizeN_eq, dataN_eq, hkids, sizeL, dataL]
    rfl
  · rw [sizeN_eq, dataN_eq, hkids, sizeL, dataL]
    rfl
  · have hm0 : m ≠ 0 := by
     intro h0
     subst h0
     rw [deepN, if_pos (.inr rfl)] at h
     omega
    rw [deep_dir hk hm0] at h h12
    have hkid : ∀ y ∈ x.kids, (sizeN y).2 = (dataN y : Int) ∧ tooDeepN y = false := fun y hy => by
     have hle := (foldl_max_ge (f := deepN m) x.kids 1).2 y hy
     have hcy := cntL_mem hy
     rw [cntN_eq] at hc
     refine ⟨size_data m y (by omega) (hok.kids y hy) (mayL_all hkids y hy).2 (by omega) (by omega) (by omega), ?_⟩
     have hst := deep_stable' (m := m) (x := y) (by omega) (14 - m)
     rw [show m + (14 - m) = 14 by omega] at hst
     unfold tooDeepN
     rw [hst]
     simp; omega
    rw [sizeN_eq, dataN_eq]
    rw [dataN_eq] at hle
    exact sizeL_data x.kids _ x.data.length rfl (fun y hy => ⟨(hkid y hy).2, (hkid y hy).1⟩) (by omega)
structure Sized (x : Nd) (s : List UInt8) : Prop where
 deep : tooDeepN x = false
 size : sizeT x = ((cntN x : Int), (dataN x : Int))
 may : mayN x = true
 cnt : cntN x ≤ 2000
 data : dataN x ≤ 6000000
 low : dataN x + namN x + cntN x ≤ s.length
 high : s.length ≤ dataN x + namN x + 8 * cntN x + 20
 long : s.length ≤ 60000
theorem sized {x : Nd} {s : List UInt8} (ok : x.ok) (h0 : (encodeN x).2 = 0) (hs : (encodeN x).1 = s) : Sized x s := by
 have t := taken ok h0 hs
 have htd : tooDeepN x = false := by
  unfold tooDeepN
  have := t.deep
  simp; omega
 have hl := layN_size 14 x (by omega) ok t.may (by have := t.deep; omega)
 have hm : (putText [] magicN).length ≤ 20 := by rw [put_len, digs_one (by decide)]; decide
 have hb : s.length = (putText [] magicN).length + (layN [] x).length := by rw [t.bytes, List.length_append]
 have hd := dataN_le x ok
 have hc := t.cnt
 refine ⟨htd, ?_, t.may, hc, by omega, by have := hl.low; omega, by have := hl.high; omega, t.fit⟩
 unfold sizeT
 rw [htd, if_neg (by simp)]
 exact Prod.ext (size_cnt 14 x (by omega) ok t.may (by have := t.deep; omega) t.deep) (size_data 14 x (by omega) ok t.may (by have := t.deep; omega) t.deep (by omega))
end Go.Proofs.Ythmkdoaaciamlaa.W
namespace Go.Proofs.Ythmkdoaaciamlaa.W
open Go.Proofs.Ythmkdoaaciamlaa.Ev
def rowOf (v : V) (b : Nat) : Prop := ∃ n, v = .oslice b 0 n 1
theorem ListAt.row {s : St} {F : Nat → Prop} {e : Nat} {v : V} {acc : List V} (h : ListAt s F e v acc) : ListAt s (rowOf v) e v acc ∧ ∀ b, rowOf v b → F b ∧ b < s.next := by
 rcases h with ⟨h1, rfl⟩ | ⟨h1, r, rfl, h3, h4, h5⟩
 · exact ⟨.inl ⟨h1, rfl⟩, fun b ⟨n, h⟩ => by cases h⟩
 · refine ⟨.inr ⟨h1, r, rfl, h3, ⟨_, rfl⟩, h5⟩, fun b ⟨n, h⟩ => ?_⟩
   cases h
   exact ⟨h4, h5⟩
structure EachI (l p3 : Nat) (O : Nat → Prop) (acc : List (List UInt8)) (S : St) : Prop where
 on : S.on = false
 lt : ∀ b, O b → b < S.next
 hl : ¬ O l
 hp : ¬ O p3
 ne : l ≠ p3
 ll : l < S.next
 lp : p3 < S.next
 rec_ : S.heap.get l = some (O18_32 0 none (.ptr p3 0))
 list : ∃ v, AgAt S p3 41 1 (one v) ∧ ListAt S (fun b => ¬ O b ∧ b ≠ l ∧ b ≠ p3) 9 v (acc.map sv)
theorem each_yd {K : FuncId → Option KF} (l p3 : Nat) : Yd K 1 (.yield l) (EachI l p3) where
 on := fun h => h.on
 lt := fun h => h.lt _
 one := ⟨rfl, rfl, rfl, rfl⟩
 weak := fun h hw => ⟨h.on, fun b hb => h.lt b (hw b hb), fun hb => h.hl (hw _ hb), fun hb => h.hp (hw _ hb), h.ne, h.ll, h.lp, h.rec_, by
  obtain ⟨v, h1, h2⟩ := h.list
  exact ⟨v, h1, h2.mono fun r hr _ => ⟨fun hb => hr.1 (hw _ hb), hr.2⟩⟩⟩
 keep := fun {O acc S S'} h g => by
  have hn := g.next
  have ll := h.ll
  have lp := h.lp
  refine ⟨g.on.trans h.on, fun b hb => ?_, fun hb => ?_, fun hb => ?_, h.ne, by omega, by omega, by rw [g.keep l h.ll h.hl]; exact h.rec_, ?_⟩
  · rcases hb with hb | hb
    · have := h.lt b hb; omega
    · exact hb.2
  · rcases hb with hb | hb
    · exact h.hl hb
    · omega
  · rcases hb with hb | hb
    · exact h.hp hb
    · omega
  · obtain ⟨v, h1, h2⟩ := h.list
    have h2' := h2.mono (F' := fun b => ¬ (O b ∨ (S.next ≤ b ∧ b < S'.next)) ∧ b ≠ l ∧ b ≠ p3) fun r hr hlt => ⟨fun hb => by
     rcases hb with hb | hb
     · exact hr.1 hb
     · omega, hr.2⟩
    exact ⟨v, h1.grew h.lp h.hp g, h2'.grew (fun r hr _ hO => hr.1 (.inl hO)) g⟩
 call := fun {O acc S q x} h okx hq hacc n hn => by
  obtain ⟨k, rfl⟩ : ∃ k, n = k + 1 := ⟨n - 1, by omega⟩
  have ho := h.on
  obtain ⟨v, h1, h2⟩ := h.list
  have hmid : midR l (frR 34 [(3, .ptr p3 0), (6, sv q), (26, sv q), (27, encN x)] l) S = fun k => k (S.put l (O18_32 2 none (.ptr p3 0))) := funext fun k => midR_of ho h.rec_ rfl
  have g2 : Grew (fun b => b = l) S (S.put l (O18_32 2 none (.ptr p3 0))) := grew_put l _
  have hl2 : (S.put l (O18_32 2 none (.ptr p3 0))).heap.get l = some (O18_32 2 none (.ptr p3 0)) := by rw [put_get, if_pos rfl]
  have n2 : (S.put l (O18_32 2 none (.ptr p3 0))).next = S.next := rfl
  generalize S.put l (O18_32 2 none (.ptr p3 0)) = S2 at g2 hl2 n2 hmid
  have on2 := g2.on.trans ho
  have p2 := h1.grew h.lp (fun e => h.ne e.symm) g2
  have l2 := h2.grew (fun r hr _ e => hr.2.1 e) g2
  have ll := h.ll
  have lp := h.lp
  obtain ⟨t, v', u, a1, a2, a3, a4, a5⟩ := l2.add (B := 16) on2 (by rw [List.length_map]; unfold maxCells; omega) (by rw [List.length_map]; unfold big; omega) (one (sv [])) (oneV_sv q)
  have on3 := a4.on.trans on2
  have p3' := p2.grew (by omega) (fun hr => hr.2.2 rfl) a4
  have hl3 : u.heap.get l = some (O18_32 2 none (.ptr p3 0)) := by rw [a4.keep l (by omega) (fun hr => hr.2.1 rfl)]; exact hl2
  obtain ⟨w, b1, b2, b3, b4⟩ := p3'.st_one on3 v' a3.one.size a3.one.cells a3.one.tup
  have on4 := b3.on.trans on3
  have hl4 : w.heap.get l = some (O18_32 2 none (.ptr p3 0)) := by rw [b3.keep l (by omega) h.ne]; exact hl3
  have g5 : Grew (fun b => b = l) w (w.put l (O18_32 0 none (.ptr p3 0))) := grew_put l _
  have n5 : (w.put l (O18_32 0 none (.ptr p3 0))).next = w.next := rfl
  have a3' : ListAt u (fun b => ¬ O b ∧ b ≠ l ∧ b ≠ p3) 9 v' ((acc ++ [q]).map sv) := by
   rw [List.map_append]
   exact a3.mono fun r hr _ => ⟨fun hO => by have := h.lt r hO; omega, by omega, by omega⟩
  refine ⟨w.put l (O18_32 0 none (.ptr p3 0)), ?_, ⟨(g5.on.trans on4), fun b hb => by have := h.lt b hb; omega, h.hl, h.hp, h.ne, by omega, by omega, by rw [put_get, if_pos rfl], v', b2.grew (by omega) (fun e => h.ne e.symm) g5, (a3'.grew (fun r hr _ e => hr.2.2 e) b3).grew (fun r hr _ e => hr.2.1 e) g5⟩, ?_⟩
  · refine round_run (da := DA18_32) (db := DB18_32) ho h.rec_ (annot_isOf YA18_32 _ (by kernel_rfl)) (annot_isOf YB18_32 _ (by kernel_rfl)) (?_ : Y18_32 (ev E0 K k) rounds l (.ptr p3 0) (sv q) (encN x) S = _)
    rw [Y18_32_eq, hmid]
    dsimp only
    rw [AgAt.ld1 on2 p2 big1 (by decide) rfl, oB]
    dsimp only
    rw [a1, oB]
    dsimp only
    rw [a2, oB]
    dsimp only
    rw [b1, oB]
    exact endRound_of on4 hl4
  · refine (((g2.mono fun b _ hb => ?_).trans (a4.mono fun b _ hb => hb.1)).trans (b3.mono fun b _ hb => ?_)).trans (g5.mono fun b _ hb => ?_)
    · rw [hb]; exact h.hl
    · rw [hb]; exact h.hp
    · rw [hb]; exact h.hl
end Go.Proofs.Ythmkdoaaciamlaa.W
namespace Go.Proofs.Ythmkdoaaciamlaa.W
open Go.Proofs.Ythmkdoaaciamlaa.Ev
theorem fin18 {self : EV} {v v3 : V} (S : St) (ho : S.on = false) (bs : List Nat) (hn : bs.Nodup) (h : ∀ b ∈ bs, S.heap.get b = some .defb) : ∃ S', finR E0 self Try.f18 (frD 34 [(2, v), (3, v3), (33, v)] (bs.map mkR)) S = some (.ret v, S') ∧ Grew (fun b => b ∈ bs) S S' := by
 have hl : ∀ ds S, leaves E0 self Try.f18 (frD 34 [(2, v), (3, v3), (33, v)] ds) [] .ret S = some (.ret v, S) := fun ds S => by kernel_rfl
 cases bs with
 | nil =>
  refine ⟨S, ?_, Grew.refl _ _⟩
  unfold finR
  show resK E0 (frD 34 [(2, v), (3, v3), (33, v)] []) Try.f18.results.toList _ S = _
  kernel_rfl
 | cons b bs =>
  obtain ⟨S', h1, h2, _⟩ := leaves_marks (E := E0) (self := self) (fn := Try.f18) (a := frD 34 [(2, v), (3, v3), (33, v)] ((b :: bs).map mkR)) (m := .ret) (b :: bs) ho hn h
  refine ⟨S', ?_, h2⟩
  rw [finR_defer (d := mkR b) (ds := bs.map mkR) rfl]
  rw [List.map_cons] at h1
  rw [List.map_cons, h1, hl]
theorem L18_spec {K : FuncId → Option KF} (h39 : K 39 = none) (h67 : K 67 = none) (m N : Nat) (hm : 60 ≤ m) (x : Nd) (hk : ∀ z ∈ x.kids, z.ok ∧ mayN z = true ∧ z.name.length ≤ 56 ∧ deepN 13 z < 13) (hfew : x.kids.length ≤ 3000) (N0 p3 : Nat) (hp3 : N0 ≤ p3) (v2 : V) :
 ∀ (r : List Nd) (i n : Nat) (v : V) (acc : List (List UInt8)) (bs : List Nat) (S : St), x.kids.drop i = r → r.length < n → S.on = false → N0 ≤ S.next → p3 < S.next →
 AgAt S p3 41 1 (one v) → ListAt S (fun b => N0 ≤ b ∧ b ≠ p3 ∧ b ∉ bs) 9 v (acc.map sv) →
 (∀ b ∈ bs, N0 ≤ b ∧ b < S.next ∧ b ≠ p3 ∧ S.heap.get b = some .defb) → bs.Nodup → acc.length + (pathsL r []).length ≤ 3000 →
 ∃ v' S', L18_19 (ev E0 K m) N (R18_12 (ev E0 K m) N (finN E0 (ev E0 K m) Try.f18) noEx) (exB 0 (R18_12 (ev E0 K m) N (finN E0 (ev E0 K m) Try.f18) noEx) noEx) n (bs.map mkR) v2 (.ptr p3 0) (kidsV (encL x.kids)) (.int .i64 (x.kids.length : Int)) (.int .i64 (i : Int)) S = some (.ret v', S') ∧ ListAt S' (fun b => N0 ≤ b) 9 v' ((acc ++ pathsL r []).map sv) ∧ Grew (fun b => N0 ≤ b) S S'
 | r, i, 0, v, acc, bs, S, _, hn, _, _, _, _, _, _, _, _ => by omega
 | [], i, n + 1, v, acc, bs, S, hi, hn, ho, hN, lp, hv, hla, hbs, hnd, hl => by
  rw [L18_19_eq, binV_ii, intsV_lss, dec_ge (drop_end hi), oB, ifK_bool, cond_false, exB_same, R18_12_eq, AgAt.ld1 ho hv big1 (by decide) rfl, oB]
  dsimp only
  obtain ⟨S', h1, h2⟩ := fin18 (self := ev E0 K m) (v := v) (v3 := .ptr p3 0) S ho bs hnd fun b hb => (hbs b hb).2.2.2
  refine ⟨v, S', h1, ?_, h2.mono fun b _ hb => (hbs b hb).1⟩
  rw [pathsL, List.append_nil]
  exact (hla.grew (fun b hb _ hbb => hb.2.2 hbb) h2).mono fun b hb _ => hb.1
 | z :: r, i, n + 1, v, acc, bs, S, hi, hn, ho, hN, lp, hv, hla, hbs, hnd, hl => by
  obtain ⟨hlt, hz, hr, hmem⟩ := drop_at hi
  obtain ⟨okz, mayz, nmz, dz⟩ := hk z hmem
  obtain ⟨m', rfl⟩ : ∃ m', m = m' + 1 := ⟨m - 1, by omega⟩
  obtain ⟨S1, a1, a2, a3, a4⟩ := node_new ho (Tr.ofListFrom .nil [(sv []), (.int .i64 0), (.bool false), (sv []), .nilslice] 0) z
  have hv1 := hv.grew lp (fun h => h) a3
  have hla1 := hla.grew (fun _ _ _ h => h) a3
  obtain ⟨S2, c1, c2, c3, c4, c5⟩ := f39_run h39 m' z z.name S1 a2.on
  have on2 := c4.on.trans a2.on
  have hv2 := hv1.grew (by omega) (fun h => h) c4
  have hla2 := hla1.grew (fun _ _ _ h => h) c4
  have g3 : Grew (fun _ => False) S2 (nw (nw S2 .defb) (O18_32 0 none (.ptr p3 0))) := (grew_nw on2 _ _).trans (grew_nw (nw_on on2 _) _ _)
  have n3 : (nw (nw S2 .defb) (O18_32 0 none (.ptr p3 0))).next = S2.next + 2 := rfl
  have hd3 : (nw (nw S2 .defb) (O18_32 0 none (.ptr p3 0))).heap.get S2.next = some .defb := by
   rw [nw_get, if_neg (by show S2.next ≠ S2.next + 1; omega), nw_get, if_pos rfl]
  have hl3 : (nw (nw S2 .defb) (O18_32 0 none (.ptr p3 0))).heap.get (S2.next + 1) = some (O18_32 0 none (.ptr p3 0)) := by
   rw [nw_get]; exact if_pos rfl
  have hrange := fun (self : EV) (kn kr : St → Rs) (ke : Nat → St → Rs) (kp : V → St → Rs) => rangeP_fn (s := S2) (self := self) (first := []) (captured := [.ptr (S1.next + 1) 0, .ptr S1.next 0]) (o := O18_32 0 none (.ptr p3 0)) (kn := kn) (kr := kr) (ke := ke) (kp := kp) body67.1 body67.2
  generalize nw (nw S2 .defb) (O18_32 0 none (.ptr p3 0)) = S3 at g3 n3 hd3 hl3 hrange
  have on3 := g3.on.trans on2
  have g03 : Grew (fun _ => False) S S3 := (a3.trans c4).trans g3
  have hv3 := hv2.grew (by omega) (fun h => h) g3
  have hla3 := hla2.grew (fun _ _ _ h => h) g3
  have c2' := c2.grew (by omega) (fun h => h) g3
  have c3' := c3.grew (by omega) (fun h => h) g3
  obtain ⟨hrow, hrowF⟩ := ListAt.row hla
  obtain ⟨hrow3, _⟩ := ListAt.row hla3
  have iin : EachI (S2.next + 1) p3 (fun b => b < S3.next ∧ b ≠ S2.next + 1 ∧ b ≠ p3 ∧ ¬ rowOf v b) acc S3 :=
   ⟨on3, fun b hb => hb.1, fun hb => hb.2.1 rfl, fun hb => hb.2.2.1 rfl, by omega, by omega, by omega, hl3, v, hv3, hrow3.mono fun b hb _ => ⟨fun h => h.2.2.2 hb, by have := (hrowF b hb).2; omega, (hrowF b hb).1.2.1⟩⟩
  have hnew : ∀ b, S.next ≤ b → b < S3.next → b ≠ S2.next + 1 → (b < S3.next ∧ b ≠ S2.next + 1 ∧ b ≠ p3 ∧ ¬ rowOf v b) := fun b h1 h2 h3 => ⟨h2, h3, by omega, fun h => by have := (hrowF b h).2; omega⟩
  rw [pathsL, List.length_append] at hl
  have hpz : pathOf [] z = z.name := by unfold pathOf; rw [if_pos rfl]
  rw [hpz] at hl
  obtain ⟨S4, e1, e2, e3⟩ := walked h39 h67 13 z dz okz mayz z.name 1 (.yield (S2.next + 1)) _ (each_yd (S2.next + 1) p3) _ acc S3 (S1.next + 1) S1.next iin
   (hnew _ (by omega) (by omega) (by omega)) (hnew _ (by omega) (by omega) (by omega)) c3' c2' (by omega) (by omega) (m' + 1) (by omega)
  obtain ⟨v', hv4, hla4⟩ := e2.list
  have on4 := e2.on
  have n34 := e3.next
  have g5 : Grew (fun b => b = S2.next + 1) S4 (S4.put (S2.next + 1) (O18_32 3 none (.ptr p3 0))) := grew_put _ _
  have n5 : (S4.put (S2.next + 1) (O18_32 3 none (.ptr p3 0))).next = S4.next := rfl
  have hend' : ∀ (kn kr : St → Rs) (ke : Nat → St → Rs), endLP (S2.next + 1) S4 kn kr ke = kn (S4.put (S2.next + 1) (O18_32 3 none (.ptr p3 0))) := fun kn kr ke => endLP_norm (kn := kn) (kr := kr) (ke := ke) on4 e2.rec_ (by decide)
  generalize S4.put (S2.next + 1) (O18_32 3 none (.ptr p3 0)) = S5 at g5 n5 hend'
  have on5 := g5.on.trans on4
  have hkeep : ∀ b, b < S3.next → b ≠ S2.next + 1 → b ≠ p3 → ¬ rowOf v b → S5.heap.get b = S3.heap.get b := fun b h0 h1 h2 h3 => by
   rw [g5.keep b (by omega) h1, e3.keep b h0 (fun h => h ⟨h0, h1, h2, h3⟩)]
  have hv5 := hv4.grew (by omega) (fun e => by omega) g5
  have hbs5 : ∀ b ∈ S2.next :: bs, N0 ≤ b ∧ b < S5.next ∧ b ≠ p3 ∧ S5.heap.get b = some .defb := fun b hb => by
   rcases List.mem_cons.1 hb with rfl | hb
   · refine ⟨by omega, by omega, by omega, ?_⟩
     rw [hkeep _ (by omega) (by omega) (by omega) (fun h => by have := (hrowF _ h).2; omega)]
     exact hd3
   · obtain ⟨q1, q2, q3, q4⟩ := hbs b hb
     refine ⟨q1, by omega, q3, ?_⟩
     rw [hkeep b (by omega) (by omega) q3 (fun h => (hrowF b h).1.2.2 hb), g03.keep b q2 (fun h => h)]
     exact q4
  have hnd5 : (S2.next :: bs).Nodup := List.nodup_cons.2 ⟨fun hb => by
   have := (hbs _ hb).2.1
   omega, hnd⟩
  have hla5 : ListAt S5 (fun b => N0 ≤ b ∧ b ≠ p3 ∧ b ∉ S2.next :: bs) 9 v' ((acc ++ pathsN z z.name).map sv) := by
   refine (hla4.grew (fun b hb _ e => hb.2.1 e) g5).mono fun b hb hlt => ?_
   by_cases h3 : b < S3.next
   · have hr : rowOf v b := by
      by_cases hr : rowOf v b
      · exact hr
      · exact absurd ⟨h3, hb.2.1, hb.2.2, hr⟩ hb.1
     obtain ⟨⟨q1, q2, q3⟩, q4⟩ := hrowF b hr
     refine ⟨q1, q2, fun hm => ?_⟩
     rcases List.mem_cons.1 hm with e | hm
     · omega
     · exact q3 hm
   · refine ⟨by omega, by omega, fun hm => ?_⟩
     rcases List.mem_cons.1 hm with e | hm
     · omega
     · have := (hbs b hm).2.1
       omega
  obtain ⟨vf, S6, k1, k2, k3⟩ := L18_spec h39 h67 (m' + 1) N hm x hk hfew N0 p3 hp3 v2 r (i + 1) n v' (acc ++ pathsN z z.name) (S2.next :: bs) S5 hr (by simp at hn; omega) on5 (by omega) (by omega) hv5 hla5 hbs5 hnd5 (by rw [List.length_append]; omega)
  refine ⟨vf, S6, ?_, by rw [pathsL, hpz, ← List.append_assoc]; exact k2, ?_⟩
  · rw [L18_19_eq, binV_ii, intsV_lss, dec_lt hlt, oB, ifK_bool, cond_true, ixP_kids x.kids i hlt, hz, oB, ldA_kid, oB, oB, nwP_fst, a1, oB]
    dsimp only
    rw [a2.fA, oB]
    dsimp only
    rw [faP_ptr, oB, Nat.zero_add, a2.f0, oB]
    dsimp only
    rw [c1, callPF_ret, hrange]
    show onEn ((ev E0 K (m' + 1)).f 67 [.yield (S2.next + 1), .ptr (S1.next + 1) 0, .ptr S1.next 0] S3) _ _ = _
    rw [e1]
    show endLP (S2.next + 1) S4 _ _ _ = _
    rw [hend', R18_21_eq, binV_ii, intsV_add, wrap_succ (show i < 9223372036854775807 by omega), oB, N18_19_eq]
    exact k1
  · refine (((g03.mono fun _ _ h => h.elim).trans (e3.mono fun b hb hnb => ?_)).trans (g5.mono fun b _ hb => by omega)).trans k3
    by_cases h0 : N0 ≤ b
    · exact h0
    · exact absurd ⟨hb, by omega, by omega, fun h => h0 (hrowF b h).1.1⟩ hnb
structure FewIn where
 x : Nd
 ok : x.ok
 may : mayN x = true
 cnt : cntN x ≤ 3000
noncomputable def encFew (p : FewIn) : List V := [encN p.x]
def eachN (x : Nd) : List (List UInt8) := if tooDeepN x then [] else if x.kind = 2 then pathsL x.kids [] else []
noncomputable def gEach (x : Nd) : V := listV ((eachN x).map sv)
noncomputable def kfEach : KF := specKF encFew (fun p : FewIn => En.ret (gEach p.x))
theorem kfEach_run (x : Nd) (ok : x.ok) (may : mayN x = true) (cnt : cntN x ≤ 3000) (S : St) : kfEach.run [encN x] S = some (.ret (gEach x), S) :=
 specKF_run (enc := encFew) (out := fun p : FewIn => En.ret (gEach p.x)) (fun p q h => by
  simp only [encFew, List.cons.injEq, and_true] at h
  rw [encN_inj h]) ⟨x, ok, may, cnt⟩ S
mutual
theorem pathsN_len : ∀ (x : Nd) (p : List UInt8), (pathsN x p).length ≤ cntN x
 | .mk n k e d l, p => by
  have := pathsL_len l p
  rw [pathsN, cntN, List.length_cons]
  split
  · omega
  · simp
theorem pathsL_len : ∀ (l : List Nd) (p : List UInt8), (pathsL l p).length ≤ cntL l
 | [], p => by rw [pathsL, cntL]; simp
 | x :: l, p => by
  have := pathsN_len x (pathOf p x)
  have := pathsL_len l p
  rw [pathsL, cntL, List.length_append]
  omega
end
theorem kn18 {K : FuncId → Option KF} (hK : KnOk Try.prog E0 K) (h35 : K 35 = some (kfNode gTooDeep)) (h39 : K 39 = none) (h67 : K 67 = none) : KnWell Try.prog E0 18 kfEach :=
 specKF_text (c := C18) (d := B18) E0_ok hK (by kernel_rfl) (by kernel_rfl) (annot_isOf C18 _ (by kernel_rfl)) fun p S ho => by
  obtain ⟨x, ok, may, cnt⟩ := p
  suffices h : ∃ v S', F18 (ev E0 K 60) rounds (encN x) S = some (.ret v, S') ∧ ListAt S' (fun b => S.next ≤ b) 9 v ((eachN x).map sv) ∧ Grew (fun b => S.next ≤ b) S S' by
   obtain ⟨v, S', h1, h2, h3⟩ := h
   refine ⟨60, .ret v, S', h1, h3.mono fun b hb h => by omega, ?_⟩
   exact h2.fz (fun r hr => hr) fun u hu => by
    obtain ⟨q, _, rfl⟩ := List.mem_map.1 hu
    exact ⟨oneV_sv q, .str _ _⟩
  obtain ⟨S1, a1, a2, a3, a4⟩ := node_box ho x
  obtain ⟨b1, b2, b3⟩ := ag_new a2.on 41 1 (one .nilslice)
  have on2 : (nwP 41 1 (one .nilslice) S1).2.on = false := b2.on.trans a2.on
  rw [F18_eq, a1, oB, oB, nwP_fst]
  dsimp only
  generalize (nwP 41 1 (one .nilslice) S1).2 = S2 at b1 b2 b3 on2
  have nx2 := a2.grew (by omega) (fun h => h) b2
  rw [nx2.fA, oB]
  dsimp only
  rw [ev_known h35, kfNode_run _ x ok, callPF_ret, gTooDeep]
  have hgr : Grew (fun b => S.next ≤ b) S S2 := (a3.trans b2).mono fun _ _ h => h.elim
  have hnil : ∀ S : St, ListAt S (fun b => S1.next ≤ b) 9 .nilslice ([] : List V) := fun S => .inl ⟨rfl, rfl⟩
  unfold eachN
  cases ht : tooDeepN x with
  | true =>
   rw [guardV_f, Bool.not_true, oB, cond_false, oB, oB, cond_false, oB, oB, cond_false, oB, pickV_bool, cond_true, oB, ifK_bool, cond_true]
   rw [AgAt.ld1 on2 b1 big1 (by decide) rfl, oB]
   refine ⟨.nilslice, S2, ?_, .inl ⟨rfl, rfl⟩, hgr⟩
   unfold finR
   show resK E0 _ Try.f18.results.toList _ S2 = _
   kernel_rfl
  | false =>
   rw [guardV_f, Bool.not_false, oB, cond_true, faP_ptr, Nat.zero_add, oB, oB, cond_true, nx2.f1, oB, oB, cond_true]
   dsimp only
   rw [binV_ii, intsV_neq, oB, pickV_bool, cond_false, oB, ifK_bool]
   by_cases hk : x.kind = 2
   · rw [decide_eq_true hk, Bool.not_true, cond_false, faP_ptr, oB, Nat.zero_add, nx2.f4, oB]
     dsimp only
     rw [lnS_kids, oB]
     dsimp only
     have hnm := may_names may hk
     have hcl := pathsL_len x.kids []
     rw [cntN_eq] at cnt
     have hdeep : deepN 14 x < 14 := by
      unfold tooDeepN at ht
      simp at ht
      omega
     obtain ⟨v, S3, c1, c2, c3⟩ := L18_spec h39 h67 60 rounds (Nat.le_refl _) x (fun z hz => ⟨ok.at.kids z hz, (hnm z hz).1, (nameOk_all (hnm z hz).2).2.1, by
      have : deepN 13 z < deepN 14 x := deep_kid (m := 13) hk hz hdeep
      unfold tooDeepN at ht
      simp at ht
      omega⟩) ok.at.few S.next S1.next (by omega) .nilslice x.kids 0 rounds .nilslice [] [] S2 rfl (by have := ok.at.few; unfold rounds; omega) on2 (by omega) (by omega) b1 (.inl ⟨rfl, rfl⟩) (fun b hb => by cases hb) List.nodup_nil (by rw [List.length_nil]; omega)
     rw [if_neg (by simp), if_pos hk]
     exact ⟨v, S3, c1, by rw [List.nil_append] at c2; exact c2, hgr.trans c3⟩
   · rw [decide_eq_false hk, Bool.not_false, cond_true, AgAt.ld1 on2 b1 big1 (by decide) rfl, oB, if_neg (by simp), if_neg hk]
     refine ⟨.nilslice, S2, ?_, .inl ⟨rfl, rfl⟩, hgr⟩
     unfold finR
     show resK E0 _ Try.f18.results.toList _ S2 = _
     kernel_rfl
end Go.Proofs.Ythmkdoaaciamlaa.W
namespace Go.Proofs.Ythmkdoaaciamlaa.W
open Go.Proofs.Ythmkdoaaciamlaa.Ev
def cutAt (q : List UInt8) : Nat → Nat
 | 0 => 0
 | k + 1 => if q[k]? = some 47 then k + 1 else cutAt q k
theorem cutAt_le (q : List UInt8) : ∀ k, cutAt q k ≤ k
 | 0 => Nat.le_refl _
 | k + 1 => by
  have := cutAt_le q k
  unfold cutAt
  split <;> omega
theorem cutAt_run (pre name : List UInt8) (h : (47 : UInt8) ∉ name) : ∀ k, k ≤ name.length → cutAt (pre ++ name) (pre.length + k) = cutAt (pre ++ name) pre.length
 | 0, _ => rfl
 | k + 1, hk => by
  rw [show pre.length + (k + 1) = pre.length + k + 1 by omega, cutAt, if_neg, cutAt_run pre name h k (by omega)]
  rw [List.getElem?_append_right (by omega), show pre.length + k - pre.length = k by omega]
  intro e
  exact h (List.mem_of_getElem? e)
theorem cutAt_path (p : List UInt8) (y : Nd) (h : (47 : UInt8) ∉ y.name) : (pathOf p y).length - cutAt (pathOf p y) (pathOf p y).length = y.name.length := by
 unfold pathOf
 by_cases hp : p = []
 · rw [if_pos hp]
   have := cutAt_run [] y.name h y.name.length (Nat.le_refl _)
   rw [List.nil_append, List.length_nil, Nat.zero_add] at this
   rw [this, cutAt]; omega
 · rw [if_neg hp]
   have := cutAt_run (p ++ [47]) y.name h y.name.length (Nat.le_refl _)
   rw [← List.length_append] at this
   rw [this, (by simp : (p ++ [(47 : UInt8)]).length = p.length + 1), cutAt, if_pos (by rw [List.getElem?_append_left (by simp), List.getElem?_append_right (by simp)]; simp)]
   rw [List.length_append, List.length_append, List.length_singleton]; omega
def lastL (q : List UInt8) : Nat := q.length - cutAt q q.length
def sumL : List (List UInt8) → Nat
 | [] => 0
 | q :: l => lastL q + sumL l
theorem sumL_append : ∀ l m : List (List UInt8), sumL (l ++ m) = sumL l + sumL m
 | [], m => by rw [List.nil_append, sumL, Nat.zero_add]
 | q :: l, m => by rw [List.cons_append, sumL, sumL, sumL_append l m]; omega
theorem nameOk_slash {s : List UInt8} (h : nameOk s = true) : (47 : UInt8) ∉ s := fun hm => by
 have := (nameOk_all h).2.2
 rw [List.any_eq_false] at this
 exact absurd rfl (this 47 hm)
mutual
theorem sum_pathsN : ∀ (x : Nd) (p : List UInt8), mayN x = true → sumL (pathsN x p) = lastL p + namN x
 | .mk n k e d l, p, h => by
  have hx := pathsN_eq (.mk n k e d l) p
  rcases mayCase h with ⟨hk, hkids⟩ | ⟨hk, hkids⟩ | ⟨hk, hkids⟩
  · rw [hx, if_neg (by omega), sumL, sumL, namN_eq, hkids, namL]
  · rw [hx, if_neg (by omega), sumL, sumL, namN_eq, hkids, namL]
  · rw [hx, if_pos hk, sumL, namN_eq]
    exact congrArg _ (sum_pathsL l p (mayL_all hkids))
theorem sum_pathsL : ∀ (l : List Nd) (p : List UInt8), (∀ y ∈ l, nameOk y.name = true ∧ mayN y = true) → sumL (pathsL l p) = namL l
 | [], p, _ => by rw [pathsL, sumL, namL]
 | y :: l, p, h => by
  obtain ⟨h1, h2⟩ := h y (List.mem_cons_self ..)
  rw [pathsL, sumL_append, sum_pathsN y _ h2, sum_pathsL l p fun z hz => h z (List.mem_cons_of_mem _ hz), namL]
  unfold lastL
  rw [cutAt_path p y (nameOk_slash h1)]
end
theorem sum_each {x : Nd} (hd : tooDeepN x = false) (h : mayN x = true) : sumL (eachN x) = namN x := by
 unfold eachN
 rw [hd, if_neg (by simp)]
 rcases mayCase h with ⟨hk, hkids⟩ | ⟨hk, hkids⟩ | ⟨hk, hkids⟩
 · rw [if_neg (by omega), sumL, namN_eq, hkids, namL]
 · rw [if_neg (by omega), sumL, namN_eq, hkids, namL]
 · rw [if_pos hk, namN_eq]
   exact sum_pathsL x.kids [] (mayL_all hkids)
theorem each_len {x : Nd} : (eachN x).length ≤ cntN x := by
 unfold eachN
 split
 · simp
 · split
   · have := pathsL_len x.kids []
     rw [cntN_eq]; omega
   · simp
mutual
theorem pathsN_long : ∀ (x : Nd) (p : List UInt8) (d : Nat), mayN x = true → deepN d x < d → p.length + 57 * d ≤ 10000 → ∀ q ∈ pathsN x p, q.length ≤ 10000
 | .mk n k e d l, p, 0, h, hd, _ => by omega
 | .mk n k e d l, p, m + 1, h, hd, hp => fun q hq => by
  have hx := pathsN_eq (.mk n k e d l) p
  rw [hx] at hq
  rcases List.mem_cons.1 hq with rfl | hq
  · omega
  · rcases mayCase h with ⟨hk, hkids⟩ | ⟨hk, hkids⟩ | ⟨hk, hkids⟩
    · rw [if_neg (by omega)] at hq; cases hq
    · rw [if_neg (by omega)] at hq; cases hq
    · rw [if_pos hk] at hq
      exact pathsL_long l p m (fun y hy => ⟨(mayL_all hkids y hy).1, (mayL_all hkids y hy).2, by have := deep_kid hk hy hd; omega⟩) (by omega) q hq
theorem pathsL_long : ∀ (l : List Nd) (p : List UInt8) (d : Nat), (∀ y ∈ l, nameOk y.name = true ∧ mayN y = true ∧ deepN d y < d) → p.length + 57 + 57 * d ≤ 10000 → ∀ q ∈ pathsL l p, q.length ≤ 10000
 | [], p, d, _, _ => fun q hq => by rw [pathsL] at hq; cases hq
 | y :: l, p, d, h, hp => fun q hq => by
  obtain ⟨h1, h2, h3⟩ := h y (List.mem_cons_self ..)
  rw [pathsL] at hq
  rcases List.mem_append.1 hq with hq | hq
  · refine pathsN_long y (pathOf p y) d h2 h3 ?_ q hq
    have := nameOk_len h1
    unfold pathOf
    split
    · omega
    · rw [List.length_append, List.length_append, List.length_singleton]; omega
  · exact pathsL_long l p d (fun z hz => h z (List.mem_cons_of_mem _ hz)) hp q hq
end
theorem each_long {x : Nd} (hd : tooDeepN x = false) (h : mayN x = true) : ∀ q ∈ eachN x, q.length ≤ 10000 := fun q hq => by
 unfold eachN at hq
 rw [hd, if_neg (by simp)] at hq
 have hdeep : deepN 14 x < 14 := by
  unfold tooDeepN at hd
  simp at hd
  omega
 rcases mayCase h with ⟨hk, hkids⟩ | ⟨hk, hkids⟩ | ⟨hk, hkids⟩
 · rw [if_neg (by omega)] at hq; cases hq
 · rw [if_neg (by omega)] at hq; cases hq
 · rw [if_pos hk] at hq
   refine pathsL_long x.kids [] 13 (fun y hy => ⟨(mayL_all hkids y hy).1, (mayL_all hkids y hy).2, ?_⟩) (by rw [List.length_nil]; omega) q hq
   have : deepN 13 y < deepN 14 x := deep_kid (m := 13) hk hy hdeep
   unfold tooDeepN at hd
   simp at hd
   omega
theorem L7b_spec (self : EV) (N : Nat) (nk : Ac → St → Rs) (ek : Nat → Ac → St → Rs) (v3 v5 v6 v7 : V) (l : List (List UInt8)) (i : Nat) (hi : i < l.length) (hq : l[i].length ≤ 10000) (S : St) :
 ∀ (k n : Nat), k ≤ l[i].length → k < n → L7_83 self N nk ek n v3 v5 v6 v7 (listV (l.map sv)) (.int .i64 (i : Int)) (.int .i64 (k : Int)) S = ek 2 (fr 89 [(3, v3), (5, v5), (6, v6), (7, v7), (8, listV (l.map sv)), (9, .int .i64 (i : Int)), (10, .int .i64 (cutAt l[i] k : Int))]) S
 | k, 0, _, hn => by omega
 | 0, n + 1, _, _ => by
  rw [L7_83_eq, binV_ii, intsV_gtr, show decide ((0 : Int) < ((0 : Nat) : Int)) = false from rfl, oB, guardV_t, oB, cond_false, oB, oB, cond_false, oB, oB, cond_false, oB, oB, cond_false, oB, oB, cond_false, oB, oB, cond_false, oB, oB, cond_false, oB, oB, cond_false, oB, pickV_bool, cond_false, oB, ifK_bool, cond_false, cutAt]
 | k + 1, n + 1, hk, hn => by
  have hix : ixP 1 (listV (l.map sv)) (.int .i64 (i : Int)) = some (.cptr (sv l[i])) := by
   rw [ixP_listV _ i (by rw [List.length_map]; exact hi), List.getElem_map]
  rw [L7_83_eq, binV_ii, intsV_gtr, show decide ((0 : Int) < ((k + 1 : Nat) : Int)) = true from by rw [decide_eq_true_iff]; omega, oB, guardV_t, oB, cond_true, oB, oB, cond_true, oB, oB, cond_true, hix, oB, oB, cond_true, ld1_csv, oB, oB, cond_true, oB, oB, cond_true, binV_ii, intsV_sub, wrap_i64 (by omega) (by omega), show ((k + 1 : Nat) : Int) - 1 = (k : Int) by omega, oB, oB, cond_true]
  dsimp only
  rw [ixS_sv l[i] .i64 k (by omega), oB, oB, cond_true, binV_ii, intsV_neq, oB, pickV_bool, cond_true, oB, ifK_bool, cutAt]
  have hg : l[i][k]? = some (l[i][k]'(by omega)) := List.getElem?_eq_getElem _
  by_cases h47 : (l[i][k]'(by omega)) = 47
  · rw [h47, show decide (((47 : UInt8).toNat : Int) = 47) = true from rfl, Bool.not_true, cond_false, if_pos (by rw [hg, h47])]
  · have hne : decide (((l[i][k]'(by omega)).toNat : Int) = 47) = false := by
     rw [decide_eq_false_iff_not]
     intro e
     refine h47 (UInt8.toNat_inj.1 ?_)
     show _ = 47
     omega
    rw [hne, Bool.not_false, cond_true, if_neg (by rw [hg]; intro e; exact h47 (Option.some.inj e)), oB]
    exact L7b_spec self N nk ek v3 v5 v6 v7 l i hi hq S k n (by omega) (by omega)
theorem L7_spec (self : EV) (nk : Ac → St → Rs) (ek : Nat → Ac → St → Rs) (v3 v5 v6 : V) (all : List (List UInt8)) (hlen : all.length ≤ 2000) (hq : ∀ q ∈ all, q.length ≤ 10000) (S : St) :
 ∀ (r : List (List UInt8)) (i n a : Nat), all.drop i = r → r.length < n → a + sumL r < 4611686018427387904 →
 L7_57 self rounds nk ek n v3 v5 v6 (.int .i64 (a : Int)) (listV (all.map sv)) (.int .i64 (i : Int)) S = ek 0 (fr 89 [(3, v3), (5, v5), (6, v6), (7, .int .i64 ((a + sumL r : Nat) : Int))]) S
 | r, i, 0, a, _, hn, _ => by omega
 | [], i, n + 1, a, hi, hn, _ => by
  rw [L7_57_eq, lnS_listV, oB]
  dsimp only
  rw [List.length_map, binV_ii, intsV_lss, dec_ge (drop_end hi), oB, ifK_bool, cond_false, sumL, Nat.add_zero]
 | q :: r, i, n + 1, a, hi, hn, ha => by
  obtain ⟨hlt, hx, hr, hmem⟩ := drop_at hi
  have hix : ixP 1 (listV (all.map sv)) (.int .i64 (i : Int)) = some (.cptr (sv all[i])) := by
   rw [ixP_listV _ i (by rw [List.length_map]; exact hlt), List.getElem_map]
  have hql := hq q hmem
  have hcut := cutAt_le q q.length
  rw [sumL] at ha
  have hlast : lastL q = q.length - cutAt q q.length := rfl
  rw [L7_57_eq, lnS_listV, oB]
  dsimp only
  rw [List.length_map, binV_ii, intsV_lss, dec_lt hlt, oB, ifK_bool, cond_true, hix, oB, ld1_csv, oB]
  dsimp only
  rw [lnStr_sv, oB]
  dsimp only
  rw [L7b_spec self rounds _ _ v3 v5 v6 _ all i hlt (by rw [hx]; exact hql) S all[i].length rounds (Nat.le_refl _) (by rw [hx]; unfold rounds; omega), exB_same, R7_72_eq, hix, oB, ld1_csv, oB]
  dsimp only
  rw [lnStr_sv, oB]
  dsimp only
  rw [hx, binV_ii, intsV_add, wrap_i64 (by omega) (by omega), oB, binV_ii, intsV_sub, wrap_i64 (by omega) (by omega), oB, R7_62_eq, binV_ii, intsV_add, wrap_succ (by omega), oB, N7_57_eq, show (a : Int) + (q.length : Int) - (cutAt q q.length : Int) = ((a + lastL q : Nat) : Int) by omega,
   L7_spec self nk ek v3 v5 v6 all hlen hq S r (i + 1) n (a + lastL q) hr (by simp at hn; omega) (by omega), sumL, show a + (lastL q + sumL r) = a + lastL q + sumL r by omega]
end Go.Proofs.Ythmkdoaaciamlaa.W
