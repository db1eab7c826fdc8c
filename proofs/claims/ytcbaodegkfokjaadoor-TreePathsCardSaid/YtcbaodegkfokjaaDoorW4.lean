/-
  WHAT THE FUNCTIONS COME TO: each is read by the evaluator, printed, and told as a function of data, part 4 of 8 (no condition).
-/
import Derived.Test.YtcbaodegkfokjaaDoorW3
namespace Go.Proofs.YtcbaodegkfokjaaDoor.W
open Go.Proofs.YtcbaodegkfokjaaDoor.Ev
theorem ixA_ptr (len z : Nat) (g : Bool) (k : Nat) (ik : IntKind) {b off n : Nat} (h : n < len) : ixA len z g k (.ptr b off) (.int ik (n : Int)) = some (.ptr b (off + n * z)) := by
 show (bif Nat.blt n len then some (V.ptr b (off + n * z)) else none) = _
 rw [blt_true.2 h]; rfl
theorem big256 : 256 < big := by unfold big; decide
theorem F81_spec (self : EV) (N : Nat) {b e : Nat} {t : Tr V} (c : UInt8) (S : St) (ho : S.on = false) (h : AgAt S b e 256 t) {v : V} (ht : t.get c.toNat = some v) : F63 self N (.ptr b 0) (.int .u8 (c.toNat : Int)) S = some (.ret v, S) := by
 have hc := c.toNat_lt
 rw [F63_eq, show nilCheckV (.ptr b 0) = some (.ptr b 0) from rfl, oB, ixA_ptr 256 1 false 1 .u8 hc, oB, Nat.zero_add, Nat.mul_one, h.ld1 ho big256 hc ht]
 rfl
def IsSet (t : Tr V) : Prop := ∀ c : UInt8, t.get c.toNat = some (.bool (badByte c))
theorem F80_new (self : EV) (N : Nat) (x0 : V) (S : St) : F62 self N x0 S = (some (nwP 80 256 (Tr.ofListFrom .nil (List.replicate 256 (.bool false)) 0) S)).bind fun p0 =>
 L62_8 self N (R62_2 self N (finN E0 self Tryd.f62) noEx) (exB 0 (R62_2 self N (finN E0 self Tryd.f62) noEx) noEx) N x0 p0.1 (.int .i64 0) p0.2 := by kernel_rfl
theorem isSet_made : IsSet (((Tr.ofListFrom .nil (List.replicate 256 (.bool false)) 0).set (.bool true) 47).set (.bool true) 0) := fun c => by
 have hc := c.toNat_lt
 rw [Tr.get_set, Tr.get_set, Tr.get_ofList]
 unfold badByte
 rw [u8_eq c 47, u8_eq c 0, show UInt8.toNat 47 = 47 from rfl, show UInt8.toNat 0 = 0 from rfl]
 by_cases h0 : c.toNat = 0
 · rw [if_pos h0, h0]; rfl
 · rw [if_neg h0]
   by_cases h1 : c.toNat = 47
   · rw [if_pos h1, h1]; rfl
   · rw [if_neg h1, List.getElem?_replicate, if_pos hc]
     have e1 : decide ((c.toNat : Int) = ((47 : Nat) : Int)) = false := by simp; omega
     have e2 : decide ((c.toNat : Int) = ((0 : Nat) : Int)) = false := by simp; omega
     rw [e1, e2]; rfl
theorem L80_step (self : EV) (N : Nat) (nk : Ac → St → Rs) (ek : Nat → Ac → St → Rs) (n i : Nat) (hi : i < 2) {b e : Nat} {t : Tr V} (S : St) (ho : S.on = false) (h : AgAt S b e 256 t) :
 ∃ S', L62_8 self N nk ek (n + 1) (sv bad2) (.ptr b 0) (.int .i64 (i : Int)) S = L62_8 self N nk ek n (sv bad2) (.ptr b 0) (.int .i64 ((i + 1 : Nat) : Int)) S' ∧ AgAt S' b e 256 (t.set (.bool true) (bad2[i]'hi).toNat) ∧ Grew (fun x => x = b) S S' := by
 obtain ⟨S', h1, h2, h3, _⟩ := h.st1 (i := (bad2[i]'hi).toNat) (v := .bool true) ho big256 (by omega) (bad2[i]'hi).toNat_lt rfl rfl rfl
 refine ⟨S', ?_, h2, h3⟩
 have hlt : decide (((bad2[i]'hi).toNat : Int) ≥ 128) = false := by
  match i, hi with
  | 0, _ => rfl
  | 1, _ => rfl
 rw [L62_8_eq, lnStr_sv, oB, binV_ii, intsV_lss, dec_lt (show i < bad2.length from hi), oB, ifK_bool, cond_true, ixS_sv bad2 .i64 i hi, oB, binV_ii, intsV_geq]
 rw [show decide ((128 : Int) ≤ ((bad2[i]'hi).toNat : Int)) = false from hlt, oB, ifK_bool, cond_false, ixA_ptr 256 1 false 1 .u8 (bad2[i]'hi).toNat_lt, oB, Nat.zero_add, Nat.mul_one, h1, oB, binV_ii, intsV_add, wrap_succ (by omega), oB]
theorem AgAt.stSame {s : St} (ho : s.on = false) {b e z : Nat} {t : Tr V} (h : AgAt s b e z t) (hz : z < big) : ∃ w, stP z (.ptr b 0) (.agg z t) s = some (.tuple [], w) ∧ AgAt w b e z t ∧ Grew (fun x => x = b) s w := by
 obtain ⟨w, h1, h2, h3, _⟩ := h.stA ho hz t
 exact ⟨w, h1, h2, h3⟩
theorem F80_spec (self : EV) (m : Nat) (S : St) (ho : S.on = false) : ∃ t S', F62 self (m + 3) (sv bad2) S = some (.ret (.tuple [.agg 256 t, .bool true]), S') ∧ IsSet t ∧ Grew (fun _ => False) S S' := by
 obtain ⟨k1, k2, k3⟩ := ag_new ho 80 256 (Tr.ofListFrom .nil (List.replicate 256 (.bool false)) 0)
 have hset := isSet_made
 have hon : (nwP 80 256 (Tr.ofListFrom .nil (List.replicate 256 (.bool false)) 0) S).2.on = false := nw_on ho _
 rw [F80_new, oB, nwP_fst]
 generalize (nwP 80 256 (Tr.ofListFrom .nil (List.replicate 256 (.bool false)) 0) S).2 = S1 at *
 obtain ⟨S2, a1, a2, a3⟩ := L80_step self (m + 3) (R62_2 self (m + 3) (finN E0 self Tryd.f62) noEx) (exB 0 (R62_2 self (m + 3) (finN E0 self Tryd.f62) noEx) noEx) (m + 2) 0 (by decide) S1 hon k1
 obtain ⟨S3, b1, b2, b3⟩ := L80_step self (m + 3) (R62_2 self (m + 3) (finN E0 self Tryd.f62) noEx) (exB 0 (R62_2 self (m + 3) (finN E0 self Tryd.f62) noEx) noEx) (m + 1) 1 (by decide) S2 (a3.on.trans hon) a2
 have on3 := b3.on.trans (a3.on.trans hon)
 obtain ⟨S4, c1, c2, c3⟩ := b2.stSame on3 big256
 refine ⟨_, S4, ?_, hset, k2.own (Nat.le_refl _) (a3.trans (b3.trans c3))⟩
 rw [show (V.int .i64 0) = .int .i64 ((0 : Nat) : Int) from rfl, a1, b1, L62_8_eq, lnStr_sv, oB, binV_ii, intsV_lss, dec_ge (show bad2.length ≤ 1 + 1 by decide), oB, ifK_bool, cond_false, exB_same, R62_2_eq, b2.ldA on3 big256, oB]
 dsimp only
 rw [c1, oB]
 dsimp only
 rw [c2.ldrA (c3.on.trans on3) big256]
 rfl
theorem L77_55_spec (self : EV) (N : Nat) (nk : Ac → St → Rs) (ek : Nat → Ac → St → Rs) (s : List UInt8) (hs : s.length < 9223372036854775808) (b : Nat) (S : St) (h81 : ∀ c : UInt8, self.f 63 [.ptr b 0, .int .u8 (c.toNat : Int)] S = some (.ret (.bool (badByte c)), S)) :
 ∀ (r : List UInt8) (i n : Nat), s.drop i = r → r.length < n → outAny (L56_55 self N nk ek n (sv s) (.ptr b 0) (.int .i64 (i : Int)) S) (fun S => ek 0 (fr 55 []) S) (anyAt s i) S
 | r, i, 0, _, hn => by omega
 | [], i, n + 1, hi, hn => by
  rw [anyAt_end (drop_end hi), L56_55_eq, lnStr_sv, oB, binV_ii, intsV_lss, dec_ge (drop_end hi)]
  rfl
 | c :: r, i, n + 1, hi, hn => by
  obtain ⟨hlt, hc, hr, hmem⟩ := drop_at hi
  rw [L56_55_eq, lnStr_sv, oB, binV_ii, intsV_lss, dec_lt hlt, oB, ifK_bool, cond_true, ixS_sv s .i64 i hlt, hc, oB, h81 c, callP_ret, ifK_bool]
  cases hb : badByte c with
  | true =>
   rw [anyAt_hit hlt (by rw [hc]; exact hb)]
   rfl
  | false =>
   rw [anyAt_one hlt (by rw [hc]; exact hb), cond_false, binV_ii, intsV_add, wrap_succ (by omega), oB]
   exact L77_55_spec self N nk ek s hs b S h81 r (i + 1) n hr (by simp at hn; omega)
def outI (o : Option Nat) : Int := match o with | some j => (j : Int) | none => -1
theorem F77_short (self : EV) (m : Nat) (s : List UInt8) (hs : s.length < m) (S : St) (ho : S.on = false)
 (h78 : ∀ (r : Nat) S, r ≤ 1114111 → self.f 60 [sv bad2, .int .i32 (r : Int)] S = some (.ret (.int .i64 (ixR r)), S)) :
 ∃ S', R56_22 self m (finN E0 self Tryd.f56) noEx (fr 55 [(0, sv s), (1, sv bad2)]) S = some (.ret (.int .i64 (outI (anyAt s 0))), S') ∧ Grew (fun _ => False) S S' := by
 have hg := grew_nw ho (fun _ => False) (.siter s.length (pack s) 0)
 obtain ⟨S', h1, h2⟩ := L77_spec self m (R56_23 self m (fun a s => projK [4] a fun a => finN E0 self Tryd.f56 a s) noEx) (exB 2 (R56_23 self m (fun a s => projK [4] a fun a => finN E0 self Tryd.f56 a s) noEx) noEx) s S.next h78 s.length 0 m (nw S (.siter s.length (pack s) 0)) (by omega) hs (by omega) (nw_on ho _) (by rw [nw_get, if_pos rfl])
 refine ⟨S', ?_, hg.own (Nat.le_refl _) h2⟩
 rw [R56_22_eq, rangeStr_sv, oB]
 unfold outAny at h1
 unfold outI
 cases hx : anyAt s 0 with
 | some j => rw [hx] at h1; exact h1
 | none =>
  rw [hx] at h1
  exact h1.trans (by dsimp only; rw [exB_same, R56_23_eq])
theorem F77_new (self : EV) (N : Nat) (x0 x1 : V) (S : St) : F56 self N x0 x1 S =
(binV E0 .eql 9 false true x1 (sv [])).bind fun t2 =>
ifK t2 (
some (.ret (.int .i64 (-1)), S)) (
(lnStr x1 S).bind fun p5 =>
(binV E0 .eql 3 false true p5.1 (.int .i64 1)).bind fun t6 =>
ifK t6 (
(ixS x1 (.int .i64 0)).bind fun t8 =>
(cvI .i32 t8 p5.2).bind fun p9 =>
(binV E0 .geq 21 false true p9.1 (.int .i32 128)).bind fun t12 =>
ifK t12 (
callP (self.f 60 [x0, (.int .i32 65533)] p9.2) fun t16 S16 =>
some (.ret t16, S16)) (
callP (self.f 60 [x0, p9.1] p9.2) fun t20 S20 =>
some (.ret t20, S20))) (
(lnStr x0 p5.2).bind fun p41 =>
callP (self.f 61 [p41.1] p41.2) fun t42 S42 =>
ifK t42 (
callP (self.f 62 [x1] S42) fun t44 S44 =>
(extractV t44 0).bind fun t46 =>
(extractV t44 1).bind fun t47 =>
(some (nwP 80 256 (Tr.ofListFrom .nil (List.replicate 256 (V.bool false)) 0) S44)).bind fun p48 =>
(stP 256 p48.1 t46 p48.2).bind fun p49 =>
ifK t47 (
L56_55 self N (R56_52 self N (R56_22 self N (finN E0 self Tryd.f56) noEx) noEx) (exB 0 (R56_52 self N (R56_22 self N (finN E0 self Tryd.f56) noEx) noEx) noEx) N x0 p48.1 (.int .i64 0) p49.2) (
R56_22 self N (finN E0 self Tryd.f56) noEx (fr 55 [(0, x0), (1, x1)]) p49.2)) (
R56_22 self N (finN E0 self Tryd.f56) noEx (fr 55 [(0, x0), (1, x1)]) S42))) := by kernel_rfl
theorem ag_lay {s : St} (ho : s.on = false) (e : Nat) (t0 u : Tr V) : ∃ w, stP 256 (.ptr s.next 0) (.agg 256 u) (nwP e 256 t0 s).2 = some (.tuple [], w) ∧ AgAt w s.next e 256 u ∧ Grew (fun _ => False) s w := by
 obtain ⟨k1, k2, _⟩ := ag_new ho e 256 t0
 obtain ⟨w, h1, h2, h3, _⟩ := k1.stA (nw_on ho _) big256 u
 exact ⟨w, h1, h2, k2.own (Nat.le_refl _) h3⟩
theorem F77_spec (self : EV) (m : Nat) (s : List UInt8) (hs : s.length < m + 3) (hs2 : s.length < 9223372036854775808) (S : St) (ho : S.on = false)
 (h78 : ∀ (r : Nat) S, r ≤ 1114111 → self.f 60 [sv bad2, .int .i32 (r : Int)] S = some (.ret (.int .i64 (ixR r)), S))
 (h79 : ∀ S, self.f 61 [.int .i64 (s.length : Int)] S = some (.ret (.bool (decide ((8 : Int) < (s.length : Int)))), S))
 (h80 : ∀ S, S.on = false → ∃ t S', self.f 62 [sv bad2] S = some (.ret (.tuple [.agg 256 t, .bool true]), S') ∧ IsSet t ∧ Grew (fun _ => False) S S')
 (h81 : ∀ (c : UInt8) S b e t, S.on = false → AgAt S b e 256 t → IsSet t → self.f 63 [.ptr b 0, .int .u8 (c.toNat : Int)] S = some (.ret (.bool (badByte c)), S)) :
 ∃ S', F56 self (m + 3) (sv s) (sv bad2) S = some (.ret (.int .i64 (outI (anyAt s 0))), S') ∧ Grew (fun _ => False) S S' := by
 rw [F77_new, binV_ss, strOp_eql, show (bad2 == []) = false from rfl, oB, ifK_bool, cond_false, lnStr_sv, oB, binV_ii, intsV_eql, show decide ((bad2.length : Int) = 1) = false by decide, oB, ifK_bool, cond_false, lnStr_sv, oB, h79, callP_ret, ifK_bool]
 cases decide ((8 : Int) < (s.length : Int)) with
 | false =>
  rw [cond_false]
  exact F77_short self (m + 3) s hs S ho h78
 | true =>
  obtain ⟨t, S1, k1, k2, k3⟩ := h80 S ho
  have on1 := k3.on.trans ho
  obtain ⟨S2, l1, l2, l3⟩ := ag_lay on1 80 (Tr.ofListFrom .nil (List.replicate 256 (V.bool false)) 0) t
  have on2 := l3.on.trans on1
  have hL := L77_55_spec self (m + 3) (R56_52 self (m + 3) (R56_22 self (m + 3) (finN E0 self Tryd.f56) noEx) noEx) (exB 0 (R56_52 self (m + 3) (R56_22 self (m + 3) (finN E0 self Tryd.f56) noEx) noEx) noEx) s hs2 S1.next S2 (fun c => h81 c S2 _ _ t on2 l2 k2) s 0 (m + 3) rfl hs
  refine ⟨S2, ?_, k3.trans l3⟩
  rw [cond_true, k1, callP_ret, show extractV (.tuple [.agg 256 t, .bool true]) 0 = some (.agg 256 t) from rfl, oB, show extractV (.tuple [.agg 256 t, .bool true]) 1 = some (.bool true) from rfl, oB, oB, nwP_fst, l1, oB, ifK_bool, cond_true]
  unfold outAny at hL
  unfold outI
  cases hx : anyAt s 0 with
  | some j => rw [hx] at hL; exact hL
  | none =>
   rw [hx] at hL
   exact hL.trans (by dsimp only; rw [exB_same, R56_52_eq])
theorem outI_any (s : List UInt8) : decide (0 ≤ outI (anyAt s 0)) = s.any badByte := by
 unfold anyAt outI
 rw [List.drop_zero]
 cases h : s.findIdx? badByte with
 | none =>
  rw [List.findIdx?_eq_none_iff] at h
  have : s.any badByte = false := by
   rw [List.any_eq_false]
   intro x hx
   rw [h x hx]; simp
  rw [this]; rfl
 | some j =>
  have : s.any badByte = true := by
   rw [List.any_eq_true]
   rw [List.findIdx?_eq_some_iff_getElem] at h
   obtain ⟨h1, h2, _⟩ := h
   exact ⟨_, List.getElem_mem h1, h2⟩
  rw [this]
  simp
noncomputable def kfAny : KF := specKF (fun p : TextIn => [sv p.s, sv bad2]) (fun p => En.ret (.bool (p.s.any badByte)))
theorem kfAny_run (s : List UInt8) (hs : s.length < 9223372036854775808) (S : St) : kfAny.run [sv s, sv bad2] S = some (.ret (.bool (s.any badByte)), S) :=
 specKF_run (enc := fun p : TextIn => [sv p.s, sv bad2]) (out := fun p => En.ret (.bool (p.s.any badByte))) (fun p q h => by
  simp only [List.cons.injEq, and_true] at h
  rw [sv_inj h]) ⟨s, hs⟩ S
theorem kn74 {K : FuncId → Option KF} (hK : KnOk Tryd.prog E0 K) (h78 : K 60 = some kfIndexRune) (h77 : K 56 = none) (h79 : K 61 = none) (h80 : K 62 = none) (h81 : K 63 = none) : KnWell Tryd.prog E0 49 kfAny :=
 specKF_text (fn := Tryd.f49) (c := C49) (d := B49) E0_ok hK (by kernel_rfl) (by kernel_rfl) (annot_isOf C49 _ (by kernel_rfl)) fun p S ho => by
  obtain ⟨S', h1, h2⟩ := F77_spec (ev E0 K 1) (rounds - 3) p.s (by have := p.hs; unfold rounds; omega) p.hs S ho (fun r S hr => by rw [ev_known h78, kfIndexRune_run r hr])
   (fun S => ev_read (c := C61) (d := B61) (by kernel_rfl) (by kernel_rfl) (annot_isOf C61 _ (by kernel_rfl)) h79 (show F61 (ev E0 K 0) rounds _ S = _ by rw [F61_eq, binV_ii, intsV_gtr]; rfl))
   (fun S ho => by
    obtain ⟨t, S', h1, h2, h3⟩ := F80_spec (ev E0 K 0) (rounds - 3) S ho
    rw [show rounds - 3 + 3 = rounds by unfold rounds; omega] at h1
    exact ⟨t, S', ev_read (c := C62) (d := B62) (by kernel_rfl) (by kernel_rfl) (annot_isOf C62 _ (by kernel_rfl)) h80 h1, h2, h3⟩)
   (fun c S b e t ho h hs => ev_read (c := C63) (d := B63) (by kernel_rfl) (by kernel_rfl) (annot_isOf C63 _ (by kernel_rfl)) h81 (F81_spec (ev E0 K 0) rounds c S ho h (hs c)))
  rw [show rounds - 3 + 3 = rounds by unfold rounds; omega] at h1
  refine ⟨2, .ret (.bool (p.s.any badByte)), S', (?_ : F49 (ev E0 K 2) rounds (sv p.s) (sv bad2) S = _), h2, Fz.same (.bool _)⟩
  rw [F49_eq, ev_read (c := C56) (d := B56) (by kernel_rfl) (by kernel_rfl) (annot_isOf C56 _ (by kernel_rfl)) h77 h1, callP_ret, binV_ii, intsV_geq, outI_any]
  rfl
end Go.Proofs.YtcbaodegkfokjaaDoor.W
namespace Go.Proofs.YtcbaodegkfokjaaDoor.W
open Go.Proofs.YtcbaodegkfokjaaDoor.Ev
theorem kn66 {K : FuncId → Option KF} (hK : KnOk Tryd.prog E0 K) (h74 : K 49 = some kfAny) : KnWell Tryd.prog E0 39 (kfText gName) :=
 knText hK (fn := Tryd.f39) (c := C39) (d := B39) gName (fun _ _ => .bool _) (by kernel_rfl) (by kernel_rfl) (annot_isOf C39 _ (by kernel_rfl)) 1 fun s S hs ho => by
  refine ⟨S, (?_ : F39 (ev E0 K 1) rounds (sv s) S = _), Grew.refl _ _⟩
  have h := kfAny_run s hs S
  rw [F39_eq, lnStr_sv, oB, binV_ii, intsV_geq, oB, guardV_t, oB, gName, nameOk]
  rw [show decide ((1 : Int) ≤ (s.length : Int)) = decide (1 ≤ s.length) by rw [decide_eq_decide]; omega]
  cases decide (1 ≤ s.length) with
  | false => rfl
  | true =>
   simp only [cond_true, lnStr_sv, oB, binV_ii, intsV_leq, pickV, guardV_t, Bool.true_and]
   rw [show decide ((s.length : Int) ≤ 56) = decide (s.length ≤ 56) by rw [decide_eq_decide]; omega]
   cases decide (s.length ≤ 56) with
   | false => rfl
   | true =>
    simp only [cond_true, oB, Bool.true_and]
    rw [show (sv [47, 0]) = sv bad2 from rfl, ev_known h74, h, callP_ret]
    simp only [unV, oB, pickV, guardV_t, cond_true]
    cases s.any badByte with
    | true => rfl
    | false =>
     simp only [Bool.not_false, cond_true, oB, binV_ss, strOp_neq, pickV, guardV_t, Bool.true_and]
     cases (s == [46]) with
     | true => rfl
     | false =>
      simp only [Bool.not_false, cond_true, oB, binV_ss, strOp_neq, pickV, guardV_t, Bool.true_and]
end Go.Proofs.YtcbaodegkfokjaaDoor.W
namespace Go.Proofs.YtcbaodegkfokjaaDoor.W
open Go.Proofs.YtcbaodegkfokjaaDoor.Ev
theorem L65_spec (self : EV) (N : Nat) (nk : Ac → St → Rs) (ek : Nat → Ac → St → Rs) (x : Nd) (b : Nat) (ok : NdOk x) (h66 : ∀ y ∈ x.kids, ∀ s, self.f 39 [sv y.name] s = some (.ret (gName y.name), s))
 (h36 : ∀ y ∈ x.kids, ∀ s, self.f 25 [encN y] s = some (.ret (gMay y), s)) :
 ∀ (r : List Nd) (i n : Nat) (S : St), x.kids.drop i = r → r.length < n → NodeAt S b x → b < S.next →
 ∃ S', L38_7 self N nk ek n (.ptr b 0) (kidsV (encL x.kids)) (.int .i64 (x.kids.length : Int)) (.int .i64 (i : Int)) S = (bif mayL (prevN x.kids i) r then ek 0 (fr 38 []) S' else some (.ret (.bool false), S')) ∧ Grew (fun _ => False) S S'
 | r, i, 0, S, _, hn, _, _ => by omega
 | [], i, n + 1, S, hi, hn, hx, hb => by
  refine ⟨S, ?_, Grew.refl _ _⟩
  rw [L38_7_eq, binV_ii, intsV_lss, dec_ge (drop_end hi), mayL]
  rfl
 | y :: r, i, n + 1, S, hi, hn, hx, hb => by
  obtain ⟨hlt, hy, hr, hmem⟩ := drop_at hi
  have hfew := ok.few
  obtain ⟨S1, k1, k2, k3, k4⟩ := node_new hx.on (Tr.ofListFrom .nil [(sv []), (.int .i64 0), (.bool false), (sv []), .nilslice] 0) y
  have hx1 := hx.grew hb (fun h => h) k3
  rw [L38_7_eq, mayL, binV_ii, intsV_lss, dec_lt hlt]
  simp only [oB, ifK_bool, cond_true]
  rw [ixP_kids x.kids i hlt, hy]
  simp only [oB, ldA_kid, nwP_fst]
  rw [k1]
  simp only [oB, faP_ptr, Nat.zero_add, k2.o0, onS_rd, h66 y hmem, callD_ret, gName, unV]
  cases hnm : nameOk y.name with
  | false =>
   simp only [guardV_f, guardV_t, guardV_no, Bool.not_false, Bool.not_true, oB, cond_true, cond_false, callD_ret, pickV, onS_onS]
   rw [endP_rd]
   · refine ⟨S1, ?_, k3⟩
     simp only [relog_onS k2.on, ifK_bool, cond_true, Bool.false_and, cond_false]
   · rfl
  | true =>
   simp only [guardV_f, guardV_t, guardV_no, Bool.not_false, Bool.not_true, oB, cond_true, cond_false, k2.oA, onS_onS, onS_rd, h36 y hmem, callD_ret, gMay, unV, pickV]
   cases hmy : mayN y with
   | false =>
    simp only [guardV_f, guardV_t, guardV_no, Bool.not_false, Bool.not_true, oB, cond_true, cond_false, pickV, onS_onS, onS_rd]
    rw [endP_rd]
    · refine ⟨S1, ?_, k3⟩
      simp only [relog_onS k2.on, relog_rd k2.on, ifK_bool, cond_true, Bool.false_and, Bool.and_false, cond_false]
    · rfl
   | true =>
    simp only [guardV_f, guardV_t, guardV_no, Bool.not_false, Bool.not_true, oB, cond_true, cond_false, pickV, binV_ii, intsV_gtr, Bool.and_self, Bool.true_and, onS_onS, onS_rd]
    cases i with
    | zero =>
     simp only [show decide ((0 : Int) < ((0 : Nat) : Int)) = false from rfl, cond_false, oB, onS_onS, onS_rd, guardV_t, guardV_f]
     rw [endP_rd]
     · obtain ⟨S', h1, h2⟩ := L65_spec self N nk ek x b ok h66 h36 r (0 + 1) n S1 hr (by simp at hn; omega) hx1 (by omega)
       refine ⟨S', ?_, k3.trans h2⟩
       simp only [relog_onS k2.on, relog_rd k2.on, ifK_bool, cond_false, oB, binV_ii, intsV_add, wrap_succ (show 0 < 9223372036854775807 by omega), prevN, prevLess, Bool.true_and]
       rw [h1]
       simp only [prevN, List.getElem?_eq_getElem hlt, hy, Option.map_some]
     · rfl
    | succ j =>
     have hj : j < x.kids.length := by omega
     simp only [show decide ((0 : Int) < ((j + 1 : Nat) : Int)) = true by simp, cond_true, oB, guardV_t, guardV_f, hx1.o4, onS_onS, onS_rd, binV_ii, intsV_sub]
     rw [show ((j + 1 : Nat) : Int) - 1 = (j : Int) by omega, wrap_i64 (by omega) (by omega)]
     simp only [oB, ixP_kids x.kids j hj, faP_kid, onS_rd, ld1_csv, k2.o0, onS_onS, binV_ss, strOp_geq]
     rw [endP_rd]
     · cases hbl : Op.bytesLess x.kids[j].name y.name with
       | false =>
        refine ⟨S1, ?_, k3⟩
        simp only [relog_onS k2.on, relog_rd k2.on, ifK_bool, prevN, prevLess, List.getElem?_eq_getElem hj, Option.map_some, hbl, Bool.not_false, cond_true, Bool.false_and, cond_false]
       | true =>
        obtain ⟨S', h1, h2⟩ := L65_spec self N nk ek x b ok h66 h36 r (j + 1 + 1) n S1 hr (by simp at hn; omega) hx1 (by omega)
        refine ⟨S', ?_, k3.trans h2⟩
        simp only [relog_onS k2.on, relog_rd k2.on, ifK_bool, prevN, prevLess, List.getElem?_eq_getElem hj, Option.map_some, hbl, Bool.not_true, cond_false, Bool.true_and, binV_ii, intsV_add, wrap_succ (show j + 1 < 9223372036854775807 by omega), oB]
        rw [h1]
        simp only [prevN, List.getElem?_eq_getElem hlt, hy, Option.map_some]
     · rfl
section
variable {self : EV} {N : Nat} {x : Nd} {b : Nat} {S : St}
theorem isEmpty_dec (l : List Nd) : decide ((l.length : Int) = 0) = l.isEmpty := by
 cases l with
 | nil => rfl
 | cons y l => simp; omega
theorem F59_spec (hx : NodeAt S b x) : F32 self N (.ptr b 0) S = some (.ret (.bool x.kids.isEmpty), S) := by
 rw [F32_eq]
 simp only [faP_ptr, Nat.zero_add, oB, hx.f4, lnS_kids, binV_ii, intsV_eql, isEmpty_dec]
theorem F60_spec (hx : NodeAt S b x) : F33 self N (.ptr b 0) S = some (.ret (.bool (!x.exec)), S) := by
 rw [F33_eq]
 simp only [faP_ptr, Nat.zero_add, oB, hx.f2, unV]
theorem F64_spec (hx : NodeAt S b x) : F37 self N (.ptr b 0) S = some (.ret (.bool (x.data == [])), S) := by
 rw [F37_eq]
 simp only [faP_ptr, Nat.zero_add, oB, hx.f3, binV_ss, strOp_eql]
def dataOk (d : List UInt8) : Bool := decide (1 ≤ d.length) && decide (d.length ≤ 255) && !(d.any (· == 0))
theorem ixB_none (d : List UInt8) (c : UInt8) : decide (ixB d c < 0) = !(d.any (· == c)) := by
 unfold ixB
 cases h : d.findIdx? (fun x => x == c) with
 | none =>
  rw [List.findIdx?_eq_none_iff] at h
  have : d.any (fun x => x == c) = false := by
   rw [List.any_eq_false]
   intro x hx
   rw [h x hx]; simp
  rw [this]; rfl
 | some j =>
  have : d.any (fun x => x == c) = true := by
   rw [List.any_eq_true]
   rw [List.findIdx?_eq_some_iff_getElem] at h
   obtain ⟨h1, h2, _⟩ := h
   exact ⟨_, List.getElem_mem h1, h2⟩
  rw [this]
  simp
theorem F62_spec (hx : NodeAt S b x) (h63 : ∀ s, self.f 36 [sv x.data, .int .u8 0] s = some (.ret (.int .i64 (ixB x.data 0)), s)) : F35 self N (.ptr b 0) S = some (.ret (.bool (dataOk x.data)), S) := by
 rw [F35_eq]
 simp only [faP_ptr, Nat.zero_add, oB, hx.f3, lnStr_sv, binV_ii, intsV_geq, guardV_t]
 unfold dataOk
 rw [show decide ((1 : Int) ≤ (x.data.length : Int)) = decide (1 ≤ x.data.length) by rw [decide_eq_decide]; omega]
 cases decide (1 ≤ x.data.length) with
 | false => rfl
 | true =>
  simp only [cond_true, oB, hx.f3, lnStr_sv, binV_ii, intsV_leq, guardV_t, pickV, Bool.true_and]
  rw [show decide ((x.data.length : Int) ≤ 255) = decide (x.data.length ≤ 255) by rw [decide_eq_decide]; omega]
  cases decide (x.data.length ≤ 255) with
  | false => rfl
  | true =>
   simp only [cond_true, oB, hx.f3, h63, callP_ret, binV_ii, intsV_lss, ixB_none, guardV_t, pickV, Bool.true_and]
end
theorem F65_spec (self : EV) (x : Nd) (b : Nat) (ok : NdOk x) (h66 : ∀ y ∈ x.kids, ∀ s, self.f 39 [sv y.name] s = some (.ret (gName y.name), s))
 (h36 : ∀ y ∈ x.kids, ∀ s, self.f 25 [encN y] s = some (.ret (gMay y), s)) (S : St) (hx : NodeAt S b x) (hb : b < S.next) :
 ∃ S', F38 self rounds (.ptr b 0) S = some (.ret (.bool (mayL none x.kids)), S') ∧ Grew (fun _ => False) S S' := by
 obtain ⟨S', h1, h2⟩ := L65_spec self rounds (R38_1 self rounds (finN E0 self Tryd.f38) noEx) (exB 0 (R38_1 self rounds (finN E0 self Tryd.f38) noEx) noEx) x b ok h66 h36 x.kids 0 rounds S rfl (by have := ok.few; unfold rounds; omega) hx hb
 refine ⟨S', ?_, h2⟩
 rw [F38_eq, faP_ptr, oB, Nat.zero_add, hx.f4, oB, lnS_kids, oB, show (V.int .i64 0) = .int .i64 ((0 : Nat) : Int) from rfl, h1, show prevN x.kids 0 = none from rfl]
 cases mayL none x.kids with
 | true => rw [cond_true, exB_same, R38_1_eq]
 | false => rfl
theorem bsP_three (s : St) (ho : s.on = false) (e : Nat) (z a b c : V) (ha : a.size = 1 ∧ isTuple a = false ∧ a.cells = one a) (hb : b.size = 1 ∧ isTuple b = false ∧ b.cells = one b) (hc : c.size = 1 ∧ isTuple c = false ∧ c.cells = one c) :
 ∃ t, bsP e 1 3 (one z) [(0, a), (1, b), (2, c)] s = some (.slice s.next 0 3 3, t) ∧ RowAt t s.next e 1 [one a, one b, one c] ∧ Grew (fun _ => False) s t ∧ t.next = s.next + 1 := by
 refine ⟨nw s (.cells e 1 3 false ((((Tr.tab 3 3 fun _ => one z).set (one a) 0).set (one b) 1).set (one c) 2)), ?_, ?_, grew_nw ho _ _, rfl⟩
 · unfold bsP fillE fillE fillE fillE
   rw [ha.1, ha.2.1, ha.2.2, hb.1, hb.2.1, hb.2.2, hc.1, hc.2.1, hc.2.2]
   simp only [Nat.beq_refl, Bool.not_false, Bool.and_true, show Nat.blt 0 3 = true from rfl, show Nat.blt 1 3 = true from rfl, show Nat.blt 2 3 = true from rfl, cond_true, Tr.setC_eq, oB]
 · refine rowAt_nw ho (by omega) rfl (by unfold big; omega) fun i t h => ?_
   simp only [Tr.get_set]
   match i, h with
   | 0, h => simpa using h
   | 1, h => simpa using h
   | 2, h => simpa using h
   | i + 3, h => simp at h
def Ans (self : EV) (b : Nat) (x : Nd) (f : FuncId) (v : Bool) : Prop := ∀ S, NodeAt S b x → b < S.next → ∃ S', callK E0 self (.fn (.func f) [] [.ptr b 0]) [] S = some (.ret (.bool v), S') ∧ Grew (fun _ => False) S S'
theorem callK_fn {E : Env} {self : EV} {f : FuncId} (h : E.ext.get f = none) (hb : hasBody E f = true) (x y args : List V) (S : St) : callK E self (.fn (.func f) x y) args S = self.f f (x ++ args ++ y) S := by
 show (match E.ext.get f with | some k => _ | none => _) = _
 rw [h]
 show (bif hasBody E f then self.f f (x ++ args ++ y) S else none) = _
 rw [hb]; rfl
theorem L75_step (self : EV) (N : Nat) (nk : Ac → St → Rs) (ek : Nat → Ac → St → Rs) (n i : Nat) (hi : i < 3) (b r : Nat) (x : Nd) (l : List (Tr V)) (fs : FuncId) (v : Bool) (hl : l.length = 3) (hf : l[i]? = some (one (.fn (.func fs) [] [.ptr b 0])))
 (h72 : ∀ S, NodeAt S b x → b < S.next → ∃ S', callK E0 self (.fn (.func 47) [] []) [.fn (.func fs) [] [.ptr b 0]] S = some (.ret (.bool (!v)), S') ∧ Grew (fun _ => False) S S')
 (S : St) (hx : NodeAt S b x) (hb : b < S.next) (hrow : RowAt S r 25 1 l) :
 ∃ S', L54_6 self N nk ek (n + 1) (.slice r 0 3 3) (.fn (.func 47) [] []) (.int .i64 3) (.int .i64 (i : Int)) S = (bif v then L54_6 self N nk ek n (.slice r 0 3 3) (.fn (.func 47) [] []) (.int .i64 3) (.int .i64 ((i + 1 : Nat) : Int)) S' else some (.ret (.int .i64 (i : Int)), S')) ∧ Grew (fun _ => False) S S' := by
 obtain ⟨S', h1, h2⟩ := h72 S hx hb
 refine ⟨S', ?_, h2⟩
 have hix : ixP 1 (.slice r 0 3 3) (.int .i64 (i : Int)) = some (.ptr r i) := by
  show (bif Nat.blt i 3 then some (V.ptr r (0 + i * 1)) else none) = _
  rw [blt_true.2 hi, Nat.zero_add, Nat.mul_one]; rfl
 rw [L54_6_eq, binV_ii, intsV_lss, show decide ((i : Int) < 3) = true by simp; omega, oB, ifK_bool, cond_true, hix, oB, ld1_ptr, hrow.ld1 hx.on hf, oB]
 dsimp only
 rw [h1, callP_ret, ifK_bool]
 cases v with
 | true => rw [Bool.not_true, cond_false, cond_true, binV_ii, intsV_add, wrap_succ (by omega), oB]
 | false => rfl
end Go.Proofs.YtcbaodegkfokjaaDoor.W
namespace Go.Proofs.YtcbaodegkfokjaaDoor.W
open Go.Proofs.YtcbaodegkfokjaaDoor.Ev
theorem body59 : E0.ext.get 32 = none ∧ hasBody E0 32 = true := ⟨by kernel_rfl, by kernel_rfl⟩
theorem body60 : E0.ext.get 33 = none ∧ hasBody E0 33 = true := ⟨by kernel_rfl, by kernel_rfl⟩
theorem body62 : E0.ext.get 35 = none ∧ hasBody E0 35 = true := ⟨by kernel_rfl, by kernel_rfl⟩
theorem body64 : E0.ext.get 37 = none ∧ hasBody E0 37 = true := ⟨by kernel_rfl, by kernel_rfl⟩
theorem body65 : E0.ext.get 38 = none ∧ hasBody E0 38 = true := ⟨by kernel_rfl, by kernel_rfl⟩
theorem body72 : E0.ext.get 47 = none ∧ hasBody E0 47 = true := ⟨by kernel_rfl, by kernel_rfl⟩
section
variable {K : FuncId → Option KF}
theorem call72 (h : K 47 = none) (n : Nat) {b : Nat} {x : Nd} {f : FuncId} {v : Bool} (ha : Ans (ev E0 K n) b x f v) (S : St) (hx : NodeAt S b x) (hb : b < S.next) :
 ∃ S', callK E0 (ev E0 K (n + 1)) (.fn (.func 47) [] []) [.fn (.func f) [] [.ptr b 0]] S = some (.ret (.bool (!v)), S') ∧ Grew (fun _ => False) S S' := by
 obtain ⟨S', h1, h2⟩ := ha S hx hb
 refine ⟨S', ?_, h2⟩
 rw [callK_fn body72.1 body72.2, List.nil_append, List.append_nil]
 exact ev_read (c := C47) (d := B47) (by kernel_rfl) (by kernel_rfl) (annot_isOf C47 _ (by kernel_rfl)) h (show F47 (ev E0 K n) rounds _ S = _ by rw [F47_eq, h1]; rfl)
def first3 (v0 v1 v2 : Bool) : Int := if v0 then if v1 then if v2 then -1 else 2 else 1 else 0
theorem F75_spec (h72 : K 47 = none) (n : Nat) {b r : Nat} {x : Nd} {f0 f1 f2 : FuncId} {v0 v1 v2 : Bool} (a0 : Ans (ev E0 K n) b x f0 v0) (a1 : Ans (ev E0 K n) b x f1 v1) (a2 : Ans (ev E0 K n) b x f2 v2) (m : Nat) (S : St) (hx : NodeAt S b x) (hb : b < S.next) (hr : r < S.next)
 (hrow : RowAt S r 25 1 [one (.fn (.func f0) [] [.ptr b 0]), one (.fn (.func f1) [] [.ptr b 0]), one (.fn (.func f2) [] [.ptr b 0])]) :
 ∃ S', F54 (ev E0 K (n + 1)) (m + 4) (.slice r 0 3 3) (.fn (.func 47) [] []) S = some (.ret (.int .i64 (first3 v0 v1 v2)), S') ∧ Grew (fun _ => False) S S' := by
 rw [F54_eq, lnS_slice, oB]
 generalize hnk : R54_1 (ev E0 K (n + 1)) (m + 4) (finN E0 (ev E0 K (n + 1)) Tryd.f54) noEx = nk
 obtain ⟨S1, s1, g1⟩ := L75_step (ev E0 K (n + 1)) (m + 4) nk (exB 0 nk noEx) (m + 3) 0 (by decide) b r x _ f0 v0 rfl rfl (fun S => call72 h72 n a0 S) S hx hb hrow
 rw [show (V.int .i64 ((3 : Nat) : Int)) = .int .i64 3 from rfl, show (V.int .i64 0) = .int .i64 ((0 : Nat) : Int) from rfl, s1]
 unfold first3
 cases v0 with
 | false => exact ⟨S1, rfl, g1⟩
 | true =>
 have hx1 := hx.grew hb (fun h => h) g1
 have hb1 := Nat.lt_of_lt_of_le hb g1.next
 have hr1 := Nat.lt_of_lt_of_le hr g1.next
 have hrow1 := hrow.grew hr (fun h => h) g1
 obtain ⟨S2, s2, g2⟩ := L75_step (ev E0 K (n + 1)) (m + 4) nk (exB 0 nk noEx) (m + 2) 1 (by decide) b r x _ f1 v1 rfl rfl (fun S => call72 h72 n a1 S) S1 hx1 hb1 hrow1
 rw [cond_true, show 0 + 1 = 1 from rfl, s2]
 cases v1 with
 | false => exact ⟨S2, rfl, g1.trans g2⟩
 | true =>
 have hx2 := hx1.grew hb1 (fun h => h) g2
 have hb2 := Nat.lt_of_lt_of_le hb1 g2.next
 have hrow2 := hrow1.grew hr1 (fun h => h) g2
 obtain ⟨S3, s3, g3⟩ := L75_step (ev E0 K (n + 1)) (m + 4) nk (exB 0 nk noEx) (m + 1) 2 (by decide) b r x _ f2 v2 rfl rfl (fun S => call72 h72 n a2 S) S2 hx2 hb2 hrow2
 rw [cond_true, show 1 + 1 = 2 from rfl, s3]
 cases v2 with
 | false => exact ⟨S3, rfl, g1.trans (g2.trans g3)⟩
 | true =>
 refine ⟨S3, ?_, g1.trans (g2.trans g3)⟩
 rw [cond_true, show 2 + 1 = 3 from rfl, L54_6_eq, binV_ii, intsV_lss, show decide (((3 : Nat) : Int) < 3) = false by decide, oB, ifK_bool, cond_false, exB_same, ← hnk, R54_1_eq]
 rfl
theorem first3_all (v0 v1 v2 : Bool) : (!decide (0 ≤ first3 v0 v1 v2)) = (v0 && v1 && v2) := by cases v0 <;> cases v1 <;> cases v2 <;> rfl
theorem all3 (h61 : K 34 = none) (h71 : K 46 = none) (h72 : K 47 = none) (h75 : K 54 = none) (n : Nat) {b r : Nat} {x : Nd} {f0 f1 f2 : FuncId} {v0 v1 v2 : Bool} (a0 : Ans (ev E0 K n) b x f0 v0) (a1 : Ans (ev E0 K n) b x f1 v1) (a2 : Ans (ev E0 K n) b x f2 v2) (S : St) (hx : NodeAt S b x) (hb : b < S.next) (hr : r < S.next)
 (hrow : RowAt S r 25 1 [one (.fn (.func f0) [] [.ptr b 0]), one (.fn (.func f1) [] [.ptr b 0]), one (.fn (.func f2) [] [.ptr b 0])]) :
 ∃ S', (ev E0 K (n + 4)).f 34 [.slice r 0 3 3] S = some (.ret (.bool (v0 && v1 && v2)), S') ∧ Grew (fun _ => False) S S' := by
 obtain ⟨S', h1, h2⟩ := F75_spec h72 n a0 a1 a2 (rounds - 4) S hx hb hr hrow
 rw [show rounds - 4 + 4 = rounds by unfold rounds; omega] at h1
 have e75 := ev_read (c := C54) (d := B54) (by kernel_rfl) (by kernel_rfl) (annot_isOf C54 _ (by kernel_rfl)) h75 h1
 have h71' : F46 (ev E0 K (n + 2)) rounds (.slice r 0 3 3) (.fn (.func 47) [] []) S = some (.ret (.bool (decide (0 ≤ first3 v0 v1 v2))), S') := by
  rw [F46_eq, e75, callP_ret, binV_ii, intsV_geq]
  rfl
 have e71 := ev_read (c := C46) (d := B46) (by kernel_rfl) (by kernel_rfl) (annot_isOf C46 _ (by kernel_rfl)) h71 h71'
 have h61' : F34 (ev E0 K (n + 3)) rounds (.slice r 0 3 3) S = some (.ret (.bool (v0 && v1 && v2)), S') := by
  rw [F34_eq, e71, callP_ret, ← first3_all]
  rfl
 exact ⟨S', ev_read (c := C34) (d := B34) (by kernel_rfl) (by kernel_rfl) (annot_isOf C34 _ (by kernel_rfl)) h61 h61', h2⟩
theorem ans59 (h : K 32 = none) (n : Nat) (b : Nat) (x : Nd) : Ans (ev E0 K (n + 1)) b x 32 x.kids.isEmpty := fun S hx hb => by
 refine ⟨S, ?_, Grew.refl _ _⟩
 rw [callK_fn body59.1 body59.2]
 exact ev_read (c := C32) (d := B32) (by kernel_rfl) (by kernel_rfl) (annot_isOf C32 _ (by kernel_rfl)) h (F59_spec (self := ev E0 K n) (N := rounds) hx)
theorem ans60 (h : K 33 = none) (n : Nat) (b : Nat) (x : Nd) : Ans (ev E0 K (n + 1)) b x 33 (!x.exec) := fun S hx hb => by
 refine ⟨S, ?_, Grew.refl _ _⟩
 rw [callK_fn body60.1 body60.2]
 exact ev_read (c := C33) (d := B33) (by kernel_rfl) (by kernel_rfl) (annot_isOf C33 _ (by kernel_rfl)) h (F60_spec (self := ev E0 K n) (N := rounds) hx)
theorem ans64 (h : K 37 = none) (n : Nat) (b : Nat) (x : Nd) : Ans (ev E0 K (n + 1)) b x 37 (x.data == []) := fun S hx hb => by
 refine ⟨S, ?_, Grew.refl _ _⟩
 rw [callK_fn body64.1 body64.2]
 exact ev_read (c := C37) (d := B37) (by kernel_rfl) (by kernel_rfl) (annot_isOf C37 _ (by kernel_rfl)) h (F64_spec (self := ev E0 K n) (N := rounds) hx)
theorem ans62 (h : K 35 = none) (h63 : K 36 = some kfIndexByte) (n : Nat) (b : Nat) (x : Nd) : Ans (ev E0 K (n + 2)) b x 35 (dataOk x.data) := fun S hx hb => by
 refine ⟨S, ?_, Grew.refl _ _⟩
 rw [callK_fn body62.1 body62.2]
 exact ev_read (c := C35) (d := B35) (by kernel_rfl) (by kernel_rfl) (annot_isOf C35 _ (by kernel_rfl)) h (F62_spec (self := ev E0 K (n + 1)) (N := rounds) hx fun s => by
  rw [ev_known h63]
  exact kfIndexByte_run x.data 0 s)
theorem ans65 (h : K 38 = none) (h66 : K 39 = some (kfText gName)) (n : Nat) (b : Nat) (x : Nd) (ok : x.ok) (h36 : ∀ y s m, y ∈ x.kids → (ev E0 K (m + 1)).f 25 [encN y] s = some (.ret (gMay y), s)) : Ans (ev E0 K (n + 2)) b x 38 (mayL none x.kids) := fun S hx hb => by
 obtain ⟨S', h1, h2⟩ := F65_spec (ev E0 K (n + 1)) x b ok.at (fun y hy s => by rw [ev_known h66, kfText_run _ _ (ok.at.kids y hy).at.name]) (fun y hy s => h36 y s n hy) S hx hb
 refine ⟨S', ?_, h2⟩
 rw [callK_fn body65.1 body65.2]
 exact ev_read (c := C38) (d := B38) (by kernel_rfl) (by kernel_rfl) (annot_isOf C38 _ (by kernel_rfl)) h h1
end
theorem kn36 {K : FuncId → Option KF} (hK : KnOk Tryd.prog E0 K) (h63 : K 36 = some kfIndexByte) (h66 : K 39 = some (kfText gName)) (h59 : K 32 = none) (h60 : K 33 = none) (h61 : K 34 = none) (h62 : K 35 = none) (h64 : K 37 = none) (h65 : K 38 = none) (h71 : K 46 = none) (h72 : K 47 = none) (h75 : K 54 = none) : KnWell Tryd.prog E0 25 (kfNode gMay) :=
 knNode_rec hK (fn := Tryd.f25) (c := C25) (d := B25) gMay (fun _ _ => .bool _) (by kernel_rfl) (by kernel_rfl) (annot_isOf C25 _ (by kernel_rfl)) 6 fun K' hK' x S ok hself ho => by
  have e59 : K' 32 = none := by rw [hK' 32 (by decide)]; exact h59
  have e60 : K' 33 = none := by rw [hK' 33 (by decide)]; exact h60
  have e61 : K' 34 = none := by rw [hK' 34 (by decide)]; exact h61
  have e62 : K' 35 = none := by rw [hK' 35 (by decide)]; exact h62
  have e64 : K' 37 = none := by rw [hK' 37 (by decide)]; exact h64
  have e65 : K' 38 = none := by rw [hK' 38 (by decide)]; exact h65
  have e71 : K' 46 = none := by rw [hK' 46 (by decide)]; exact h71
  have e72 : K' 47 = none := by rw [hK' 47 (by decide)]; exact h72
  have e75 : K' 54 = none := by rw [hK' 54 (by decide)]; exact h75
  have e63 : K' 36 = some kfIndexByte := by rw [hK' 36 (by decide)]; exact h63
  have e66 : K' 39 = some (kfText gName) := by rw [hK' 39 (by decide)]; exact h66
  obtain ⟨S1, k1, k2, k3, k4⟩ := node_box ho x
  have hb : S.next < S1.next := by omega
  show ∃ S', F25 (ev E0 K' 6) rounds (encN x) S = _ ∧ _
  rw [F25_eq, k1, gMay, mayN_eq, oB, faP_ptr, oB, Nat.zero_add, k2.f1, oB, binV_ii, intsV_eql, oB, ifK_bool]
  by_cases c1 : x.kind = 1
  · obtain ⟨S', h1, h2⟩ := ans59 e59 5 S.next x S1 k2 hb
    refine ⟨S', ?_, k3.trans h2⟩
    rw [decide_eq_true c1, cond_true, if_pos c1, h1]
    rfl
  · rw [decide_eq_false c1, cond_false, if_neg c1, binV_ii, intsV_eql, oB, ifK_bool]
    by_cases c3 : x.kind = 3
    · obtain ⟨S2, m1, m2, m3, m4⟩ := bsP_three S1 k2.on 25 .nilfn (.fn (.func 32) [] [.ptr S.next 0]) (.fn (.func 33) [] [.ptr S.next 0]) (.fn (.func 35) [] [.ptr S.next 0]) ⟨rfl, rfl, rfl⟩ ⟨rfl, rfl, rfl⟩ ⟨rfl, rfl, rfl⟩
      have hx2 := k2.grew hb (fun h => h) m3
      obtain ⟨S', h1, h2⟩ := all3 e61 e71 e72 e75 2 (ans59 e59 1 S.next x) (ans60 e60 1 S.next x) (ans62 e62 e63 0 S.next x) S2 hx2 (by omega) (by omega) m2
      refine ⟨S', ?_, k3.trans (m3.trans h2)⟩
      rw [decide_eq_true c3, cond_true, if_pos c3, m1, oB, h1, callP_ret]
      unfold dataOk
      generalize decide (1 ≤ x.data.length) = p1
      generalize decide (x.data.length ≤ 255) = p2
      generalize (x.data.any fun x => x == 0) = p3
      generalize x.kids.isEmpty = p4
      cases x.exec <;> cases p1 <;> cases p2 <;> cases p3 <;> cases p4 <;> rfl
    · rw [decide_eq_false c3, cond_false, if_neg c3, binV_ii, intsV_eql, oB, ifK_bool]
      by_cases c2 : x.kind = 2
      · obtain ⟨S2, m1, m2, m3, m4⟩ := bsP_three S1 k2.on 25 .nilfn (.fn (.func 33) [] [.ptr S.next 0]) (.fn (.func 37) [] [.ptr S.next 0]) (.fn (.func 38) [] [.ptr S.next 0]) ⟨rfl, rfl, rfl⟩ ⟨rfl, rfl, rfl⟩ ⟨rfl, rfl, rfl⟩
        have hx2 := k2.grew hb (fun h => h) m3
        obtain ⟨S', h1, h2⟩ := all3 e61 e71 e72 e75 2 (ans60 e60 1 S.next x) (ans64 e64 1 S.next x) (ans65 e65 e66 0 S.next x ok (fun y s m hy => hself y s m hy)) S2 hx2 (by omega) (by omega) m2
        refine ⟨S', ?_, k3.trans (m3.trans h2)⟩
        rw [decide_eq_true c2, cond_true, if_pos c2, m1, oB, h1, callP_ret]
        generalize (x.data == []) = p3
        generalize mayL none x.kids = p4
        cases x.exec <;> cases p3 <;> cases p4 <;> rfl
      · rw [decide_eq_false c2, cond_false, if_neg c2]
        exact ⟨S1, rfl, k3⟩
end Go.Proofs.YtcbaodegkfokjaaDoor.W
namespace Go.Proofs.YtcbaodegkfokjaaDoor.W
open Go.Proofs.YtcbaodegkfokjaaDoor.Ev
def checkN (x : Nd) : Int := if tooDeepN x then 3 else if x.name == [] && mayN x then if decide (2000 < (sizeT x).1) || decide (100000 < (sizeT x).2) then 3 else 0 else 2
noncomputable def gCheck (x : Nd) : V := .int .i64 (checkN x)
theorem kn15 {K : FuncId → Option KF} (hK : KnOk Tryd.prog E0 K) (h35 : K 24 = some (kfNode gTooDeep)) (h36 : K 25 = some (kfNode gMay)) (h17 : K 10 = some (kfNode gSizeT)) : KnWell Tryd.prog E0 8 (kfNode gCheck) :=
 knNode hK (fn := Tryd.f8) (c := C8) (d := B8) gCheck (fun _ _ => .int _ _) (by kernel_rfl) (by kernel_rfl) (annot_isOf C8 _ (by kernel_rfl)) 1 fun x S ok ho => by
  obtain ⟨S1, k1, k2, k3, k4⟩ := node_box ho x
  refine ⟨S1, (?_ : F8 (ev E0 K 1) rounds (encN x) S = _), k3⟩
  rw [F8_eq, k1, oB, k2.fA, oB, ev_known h35, kfNode_run _ x ok, callP_ret, gTooDeep, ifK_bool, gCheck, checkN]
  cases tooDeepN x with
  | true => rfl
  | false =>
   rw [cond_false, if_neg (by simp), faP_ptr, oB, Nat.zero_add, k2.f0, oB, binV_ss, strOp_neq, oB, guardV_f, oB]
   cases hn : (x.name == []) with
   | false => rfl
   | true =>
    simp only [Bool.not_true, Bool.not_false, cond_true, k2.fA, oB, guardV_f, Bool.true_and]
    rw [ev_known h36, kfNode_run _ x ok, callP_ret, gMay]
    simp only [unV, oB, pickV, cond_false, ifK_bool]
    cases mayN x with
    | false => rfl
    | true =>
     simp only [Bool.not_true, cond_false, k2.fA, oB, if_true]
     rw [ev_known h17, kfNode_run _ x ok, callP_ret, gSizeT]
     simp only [extractV, List.getElem?_cons_zero, List.getElem?_cons_succ, oB, binV_ii]
     rw [intsV_gtr]
     generalize decide (2000 < (sizeT x).1) = p1
     cases p1 with
     | true => rfl
     | false =>
      simp only [oB, guardV_f, Bool.not_false, cond_true, binV_ii]
      rw [intsV_gtr]
      generalize decide (100000 < (sizeT x).2) = p2
      cases p2 <;> rfl
end Go.Proofs.YtcbaodegkfokjaaDoor.W
namespace Go.Proofs.YtcbaodegkfokjaaDoor.W
open Go.Proofs.YtcbaodegkfokjaaDoor.Ev
def digsA (n : Nat) (acc : List UInt8) : List UInt8 := if h : n = 0 then acc else digsA (n / 128) (UInt8.ofNat (n % 128 + 128) :: acc)
termination_by n
decreasing_by omega
def digs (n : Nat) : List UInt8 := digsA (n / 128) [UInt8.ofNat (n % 128)]
end Go.Proofs.YtcbaodegkfokjaaDoor.W
namespace Go.Proofs.YtcbaodegkfokjaaDoor.W
open Go.Proofs.YtcbaodegkfokjaaDoor.Ev
structure TwoTexts where
 s : List UInt8
 t : List UInt8
 hs : s.length < 100000000
 ht : t.length < 100000000
theorem TwoTexts.inj {x y : TwoTexts} (h : [sv x.s, sv x.t] = [sv y.s, sv y.t]) : x.s = y.s ∧ x.t = y.t := by
 simp only [List.cons.injEq, and_true] at h
 exact ⟨sv_inj h.1, sv_inj h.2⟩
def putText (s t : List UInt8) : List UInt8 := s ++ digs t.length ++ t
end Go.Proofs.YtcbaodegkfokjaaDoor.W
namespace Go.Proofs.YtcbaodegkfokjaaDoor.W
open Go.Proofs.YtcbaodegkfokjaaDoor.Ev
mutual
def layN (s : List UInt8) : Nd → List UInt8
 | .mk _ k e d l => if k = 1 then putText (s ++ digs k.toNat ++ digs (if e then 1 else 0)) d else if k = 3 then putText (s ++ digs k.toNat) d else layL (s ++ digs k.toNat ++ digs l.length) l
def layL (s : List UInt8) : List Nd → List UInt8
 | [] => s
 | x :: l => layL (layN (putText s x.name) x) l
end
theorem nameOk_len {s : List UInt8} (h : nameOk s = true) : s.length ≤ 56 := by
 unfold nameOk at h
 simp only [Bool.and_eq_true, decide_eq_true_eq] at h
 exact h.1.1.1.2
structure MayCons (p : Option (List UInt8)) (x : Nd) (l : List Nd) : Prop where
 name : nameOk x.name = true
 may : mayN x = true
 rest : mayL (some x.name) l = true
theorem mayL_cons {p : Option (List UInt8)} {x : Nd} {l : List Nd} (h : mayL p (x :: l) = true) : MayCons p x l := by
 rw [mayL] at h
 simp only [Bool.and_eq_true] at h
 exact ⟨h.1.1.1, h.1.1.2, h.2⟩
theorem mayL_all : ∀ {p : Option (List UInt8)} {l : List Nd}, mayL p l = true → ∀ y ∈ l, nameOk y.name = true ∧ mayN y = true
 | p, x :: l, h, y, hy => by
  have := mayL_cons h
  rcases List.mem_cons.1 hy with rfl | hy
  · exact ⟨this.name, this.may⟩
  · exact mayL_all this.rest y hy
 | p, [], h, y, hy => by cases hy
inductive MayCase (x : Nd) : Prop where
 | file (h : x.kind = 1) (hk : x.kids = [])
 | link (h : x.kind = 3) (hk : x.kids = [])
 | dir (h : x.kind = 2) (hk : mayL none x.kids = true)
theorem mayCase {x : Nd} (h : mayN x = true) : MayCase x := by
 rw [mayN_eq] at h
 by_cases h1 : x.kind = 1
 · rw [if_pos h1] at h
   exact .file h1 (List.isEmpty_iff.1 h)
 · rw [if_neg h1] at h
   by_cases h3 : x.kind = 3
   · rw [if_pos h3] at h
     simp only [Bool.and_eq_true] at h
     exact .link h3 (List.isEmpty_iff.1 h.2.1.1.2)
   · rw [if_neg h3] at h
     by_cases h2 : x.kind = 2
     · rw [if_pos h2] at h
       simp only [Bool.and_eq_true] at h
       exact .dir h2 h.1
     · rw [if_neg h2] at h; cases h
end Go.Proofs.YtcbaodegkfokjaaDoor.W
namespace Go.Proofs.YtcbaodegkfokjaaDoor.W
open Go.Proofs.YtcbaodegkfokjaaDoor.Ev
section
variable {s : St}
structure BoxAt (s : St) (b : Nat) (t : List UInt8) : Prop where
 on : s.on = false
 bx : Bx s b 99946 [sv t]
theorem big1 : 1 < big := by unfold big; decide
variable {b : Nat} {t : List UInt8}
theorem BoxAt.ld (h : BoxAt s b t) : ld1 (.ptr b 0) s = some (sv t, s) := Bx.ld1 h.on h.bx 0 (by show 0 < 1; decide) big1
theorem BoxAt.grew {W : Nat → Prop} {u : St} (h : BoxAt s b t) (hb : b < s.next) (hw : ¬ W b) (g : Grew W s u) : BoxAt u b t := ⟨g.on.trans h.on, h.bx.grew hb hw g⟩
end
end Go.Proofs.YtcbaodegkfokjaaDoor.W
namespace Go.Proofs.YtcbaodegkfokjaaDoor.W
open Go.Proofs.YtcbaodegkfokjaaDoor.Ev
theorem Grew.of0 {W : Nat → Prop} {a b : St} (h : Grew (fun _ => False) a b) : Grew W a b := h.mono fun _ _ h => h.elim
end Go.Proofs.YtcbaodegkfokjaaDoor.W
namespace Go.Proofs.YtcbaodegkfokjaaDoor.W
open Go.Proofs.YtcbaodegkfokjaaDoor.Ev
theorem foldl_congr_max {f g : Nd → Nat} : ∀ (l : List Nd) (d : Nat), (∀ y ∈ l, f y = g y) → l.foldl (fun d y => max d (1 + f y)) d = l.foldl (fun d y => max d (1 + g y)) d
 | [], _, _ => rfl
 | y :: l, d, h => by
  simp only [List.foldl_cons]
  rw [h y (List.mem_cons_self ..)]
  exact foldl_congr_max l _ fun z hz => h z (List.mem_cons_of_mem _ hz)
theorem foldl_max_ge {f : Nd → Nat} : ∀ (l : List Nd) (d : Nat), d ≤ l.foldl (fun d y => max d (1 + f y)) d ∧ ∀ y ∈ l, 1 + f y ≤ l.foldl (fun d y => max d (1 + f y)) d
 | [], d => ⟨Nat.le_refl _, fun y h => by cases h⟩
 | x :: l, d => by
  simp only [List.foldl_cons]
  obtain ⟨h1, h2⟩ := foldl_max_ge (f := f) l (max d (1 + f x))
  refine ⟨Nat.le_trans (Nat.le_max_left ..) h1, fun y hy => ?_⟩
  rcases List.mem_cons.1 hy with rfl | hy
  · exact Nat.le_trans (Nat.le_max_right ..) h1
  · exact h2 y hy
theorem deep_dir {m : Nat} {x : Nd} (h2 : x.kind = 2) (hm : m ≠ 0) : deepN (m + 1) x = x.kids.foldl (fun d y => max d (1 + deepN m y)) 1 := by
 rw [deepN, if_neg (by rw [h2]; simp [hm])]
theorem deep_stable : ∀ (m : Nat) (x : Nd), deepN m x < m → deepN (m + 1) x = deepN m x
 | 0, x, h => by omega
 | m + 1, x, h => by
  by_cases h2 : x.kind = 2
  · by_cases hm : m = 0
    · subst hm
      rw [deepN, if_pos (.inr rfl)] at h
      omega
    · rw [deep_dir h2 hm] at h
      rw [deep_dir h2 hm, deep_dir h2 (by omega)]
      exact foldl_congr_max _ _ fun y hy => deep_stable m y (by have := (foldl_max_ge (f := deepN m) x.kids 1).2 y hy; omega)
  · rw [deepN, if_pos (.inl h2), deepN, if_pos (.inl h2)]
theorem deep_stable' {m : Nat} {x : Nd} (h : deepN m x < m) : ∀ k, deepN (m + k) x = deepN m x
 | 0 => rfl
 | k + 1 => by
  have := deep_stable' h k
  rw [show m + (k + 1) = m + k + 1 by omega, deep_stable _ _ (by omega), this]
theorem sizeL_cnt : ∀ (l : List Nd) (a : Int × Int) (c : Nat), a.1 = (c : Int) → (∀ y ∈ l, tooDeepN y = false ∧ (sizeN y).1 = (cntN y : Int)) → c + cntL l < 9223372036854775808 → (sizeL l a).1 = ((c + cntL l : Nat) : Int)
 | [], a, c, ha, _, _ => by rw [sizeL, cntL]; exact ha
 | x :: l, a, c, ha, h, hb => by
  obtain ⟨h1, h2⟩ := h x (List.mem_cons_self ..)
  rw [cntL] at hb ⊢
  rw [sizeL, h1]
  simp only [Bool.false_eq_true, if_false]
  rw [sizeL_cnt l _ (c + cntN x) (by
   show wr (a.1 + (sizeN x).1) = _
   rw [ha, h2]
   show IntKind.i64.wrap _ = _
   rw [wrap_i64 (by omega) (by omega)]; omega) (fun y hy => h y (List.mem_cons_of_mem _ hy)) (by omega)]
  congr 1
  omega
theorem size_cnt : ∀ (m : Nat) (x : Nd), m ≤ 14 → x.ok → mayN x = true → deepN m x < m → deepN m x ≤ 12 → (sizeN x).1 = (cntN x : Int)
 | 0, x, _, _, _, h, _ => by omega
 | m + 1, x, hm, ok, may, h, h12 => by
  have hok := ok.at
  have hcnt := hok.cnt
  rcases mayCase may with ⟨hk, hkids⟩ | ⟨hk, hkids⟩ | ⟨hk, hkids⟩
  · rw [sizeN_eq, cntN_eq, hkids, sizeL, cntL]
    rfl
  · rw [sizeN_eq, cntN_eq, hkids, sizeL, cntL]
    rfl
  · have hm0 : m ≠ 0 := by
     intro h0
     subst h0
     rw [deepN, if_pos (.inr rfl)] at h
     omega
    rw [deep_dir hk hm0] at h h12
    have hkid : ∀ y ∈ x.kids, (sizeN y).1 = (cntN y : Int) ∧ tooDeepN y = false := fun y hy => by
     have hle := (foldl_max_ge (f := deepN m) x.kids 1).2 y hy
     refine ⟨size_cnt m y (by omega) (hok.kids y hy) (mayL_all hkids y hy).2 (by omega) (by omega), ?_⟩
     have hst := deep_stable' (m := m) (x := y) (by omega) (14 - m)
     rw [show m + (14 - m) = 14 by omega] at hst
     unfold tooDeepN
     rw [hst]
     simp; omega
    rw [sizeN_eq, cntN_eq]
    exact sizeL_cnt x.kids _ 1 rfl (fun y hy => ⟨(hkid y hy).2, (hkid y hy).1⟩) (by omega)
theorem check_ok {x : Nd} (ok : x.ok) (h : checkN x = 0) : mayN x = true ∧ cntN x ≤ 2000 := by
 unfold checkN at h
 cases ht : tooDeepN x with
 | true => rw [ht, if_pos rfl] at h; omega
 | false =>
  rw [ht, if_neg (by simp)] at h
  cases hn : (x.name == [] && mayN x) with
  | false => rw [hn, if_neg (by simp)] at h; omega
  | true =>
   rw [hn, if_pos rfl] at h
   rw [Bool.and_eq_true] at hn
   refine ⟨hn.2, ?_⟩
   unfold tooDeepN at ht
   have hd : deepN 14 x ≤ 12 := by simpa using ht
   have hs := size_cnt 14 x (by omega) ok hn.2 (by omega) hd
   have hT : sizeT x = sizeN x := by unfold sizeT tooDeepN; rw [if_neg (by simp; omega)]
   by_cases hb : 2000 < (sizeT x).1
   · rw [decide_eq_true hb, Bool.true_or, if_pos rfl] at h; omega
   · rw [hT, hs] at hb; omega
def magicN : List UInt8 := [119, 104, 105, 115, 107, 45, 116, 114, 101, 101]
def encodeN (x : Nd) : List UInt8 × Int := if checkN x = 0 then if (layN (putText [] magicN) x).length ≤ 60000 then (layN (putText [] magicN) x, 0) else ([], 3) else ([], checkN x)
end Go.Proofs.YtcbaodegkfokjaaDoor.W
namespace Go.Proofs.YtcbaodegkfokjaaDoor.W
open Go.Proofs.YtcbaodegkfokjaaDoor.Ev
inductive KForm where
 | nil
 | empty
 | list
mutual
inductive Rw where
 | mk (name : List UInt8) (kind : Int) (exec : Bool) (data : List UInt8) (form : KForm) (kids : List Rw)
end
noncomputable def kform : KForm → List V → V
 | .nil, _ => .nilslice
 | .empty, _ => .eslice
 | .list, l => .list 5 l
mutual
noncomputable def rwV : Rw → V
 | .mk n k e d f l => vAgg [sv n, .int .i64 k, .bool e, sv d, kform f (rwVs l)]
noncomputable def rwVs : List Rw → List V
 | [] => []
 | x :: l => rwV x :: rwVs l
end
def Rw.kids : Rw → List Rw
 | .mk _ _ _ _ .list l => l
 | .mk _ _ _ _ _ _ => []
def Rw.form : Rw → KForm | .mk _ _ _ _ f _ => f
def Rw.name : Rw → List UInt8 | .mk n _ _ _ _ _ => n
def Rw.kind : Rw → Int | .mk _ k _ _ _ _ => k
def Rw.exec : Rw → Bool | .mk _ _ e _ _ _ => e
def Rw.data : Rw → List UInt8 | .mk _ _ _ d _ _ => d
theorem rwVs_map : ∀ l : List Rw, rwVs l = l.map rwV
 | [] => rfl
 | x :: l => by rw [rwVs, rwVs_map l]; rfl
noncomputable def kidsR (x : Rw) : V := match x with | .mk _ _ _ _ f l => kform f (rwVs l)
noncomputable def cellsR (x : Rw) : List V := [sv x.name, .int .i64 x.kind, .bool x.exec, sv x.data, kidsR x]
theorem rwV_cells (x : Rw) : rwV x = vAgg (cellsR x) := by cases x; rw [rwV]; rfl
def RwOk (x : Rw) : Prop := x.name.length < 9223372036854775808 ∧ (-9223372036854775808 ≤ x.kind ∧ x.kind < 9223372036854775808)
def DeepOk : Nat → Rw → Prop
 | 0, x => RwOk x
 | d + 1, x => RwOk x ∧ ∀ y ∈ x.kids, DeepOk d y
theorem cntL_le (B : Nat) : ∀ l : List Nd, (∀ y ∈ l, cntN y ≤ B) → cntL l ≤ l.length * B
 | [], _ => by rw [cntL]; omega
 | x :: l, h => by
  have h1 := h x (List.mem_cons_self ..)
  have h2 := cntL_le B l fun y hy => h y (List.mem_cons_of_mem _ hy)
  rw [cntL, List.length_cons, Nat.succ_mul]
  omega
mutual
theorem under_encN (N : Nat) : ∀ x : Nd, Under N (encN x)
 | .mk n k e d l => by
  rw [encN]
  refine .agg fun i v hi => ?_
  rw [vAgg_get] at hi
  have hk : Under N (kidsV (encL l)) := by
   have := under_encL N l
   cases hl : encL l with
   | nil => exact .nilslice
   | cons a m => rw [hl] at this; exact .list this
  match i, hi with
  | 0, hi => simp at hi; subst hi; exact under_sv _
  | 1, hi => simp at hi; subst hi; exact .int _ _
  | 2, hi => simp at hi; subst hi; exact .bool _
  | 3, hi => simp at hi; subst hi; exact under_sv _
  | 4, hi => simp at hi; subst hi; exact hk
  | i + 5, hi => simp at hi
theorem under_encL (N : Nat) : ∀ l : List Nd, Unders N (encL l)
 | [] => by rw [encL]; exact .nil
 | x :: l => by rw [encL]; exact .cons (under_encN N x) (under_encL N l)
end
noncomputable def treeN (x : Nd) : Tr V := Tr.ofListFrom .nil (cellsN x) 0
theorem encN_tree (x : Nd) : encN x = .agg 5 (treeN x) := by rw [encN_cells]; rfl
section
variable {s : St}
theorem bsP_node (ho : s.on = false) (z : Tr V) (x : Nd) : ∃ t, bsP 24 5 1 z [(0, encN x)] s = some (.slice s.next 0 1 1, t) ∧ RowAt t s.next 24 5 [treeN x] ∧ Grew (fun _ => False) s t ∧ t.next = s.next + 1 := by
 rw [encN_tree]
 refine ⟨nw s (.cells 24 5 1 false ((Tr.tab 1 1 fun _ => z).set (treeN x) 0)), ?_, ?_, grew_nw ho _ _, rfl⟩
 · unfold bsP fillE fillE
   simp only [V.size, isTuple, V.cells, show Nat.beq 5 5 = true from rfl, Bool.not_false, Bool.and_true, show Nat.blt 0 1 = true from rfl, cond_true, Tr.setC_eq, oB]
 · refine rowAt_nw ho (by omega) rfl (by unfold big; omega) fun i t h => ?_
   rw [Tr.get_set]
   cases i with
   | zero => simpa using h
   | succ i => simp at h
theorem ap_first (ho : s.on = false) {b : Nat} {t : Tr V} (h : RowAt s b 24 5 [t]) : ∃ u, apP 24 5 72 .nilslice (.slice b 0 1 1) s = some (.oslice s.next 0 1 5, u) ∧ RowAt u s.next 24 5 [t] ∧ Grew (fun _ => False) s u ∧ u.next = s.next + 1 := by
 refine ⟨newCells s 24 5 [t], ?_, rowAt_newCells ho (by omega) (by unfold big; simp), grew_nw ho _ _, rfl⟩
 unfold apP
 simp only [lenV, oB, show Nat.blt ((0 + 1) * (72 + 5 + 1)) maxCells = true from rfl, cond_true]
 unfold appendV firstV
 have := h.ldN ho 1 0 (by simp)
 simp only [Nat.zero_mul, List.drop_zero] at this
 simp only [this, oB, show Nat.beq 1 0 = false from rfl, cond_false]
 rfl
theorem ap_more (ho : s.on = false) {b r : Nat} {t : Tr V} {l : List (Tr V)} (h : RowAt s b 24 5 [t]) (hr : RowAt s r 24 5 l) (hl : l.length ≤ 3000) : ∃ u, apP 24 5 72 (.oslice r 0 l.length 5) (.slice b 0 1 1) s = some (.oslice s.next 0 (l.length + 1) 5, u) ∧ RowAt u s.next 24 5 (l ++ [t]) ∧ Grew (fun x => x = r) s u ∧ u.next = s.next + 1 := by
 obtain ⟨c, hc1, hc2⟩ := hr.row
 have hfit := hr.fit
 refine ⟨nw (s.put r .dead) (.cells 24 5 (l.length + 1) false (c.set t l.length)), ?_, ?_, ?_, rfl⟩
 · unfold apP
   have hm : Nat.blt ((l.length + 1) * (72 + 5 + 1)) maxCells = true := by rw [blt_true]; unfold maxCells; omega
   simp only [lenV, oB, hm, cond_true]
   unfold appendV firstV
   have := h.ldN ho 1 0 (by simp)
   simp only [Nat.zero_mul, List.drop_zero] at this
   simp only [this, oB, show Nat.beq 5 5 = true from rfl, cond_true]
   unfold sizeB
   rw [hc1]
   have hb : Nat.ble (0 + (l.length + 1) * 5) (5 * l.length) = false := by
    cases hh : Nat.ble (0 + (l.length + 1) * 5) (5 * l.length) with
    | false => rfl
    | true => rw [ble_true] at hh; omega
   simp only [blt_true.2 hfit, cond_true, oB, note_off ho, hb, cond_false]
   unfold growV
   rw [hc1]
   simp only [show Nat.beq 24 24 = true from rfl, Bool.not_true, Bool.or_self, cond_false, show Nat.beq 5 5 = true from rfl, show Nat.beq 0 0 = true from rfl, Nat.beq_refl, blt_true.2 hfit, Bool.and_self, cond_true]
   rw [show List.take 1 [t] = [t] from rfl]
   unfold addLC addLC
   rw [Tr.setC_eq]
   unfold setO
   rw [note_off ho]
 · have hnx : (s.put r .dead).next = s.next := rfl
   have := rowAt_nw (s := s.put r .dead) (e := 24) (z := 5) (n := l.length + 1) (c := c.set t l.length) (l := l ++ [t]) ho (by omega) (by simp) (by unfold big; omega) fun i u h => by
    rw [Tr.get_set]
    by_cases hi : i = l.length
    · subst hi
      rw [if_pos rfl]
      simpa using h
    · rw [if_neg hi]
      have hlt := (List.getElem?_eq_some_iff.1 h).1
      rw [List.length_append, List.length_singleton] at hlt
      rw [List.getElem?_append_left (by omega)] at h
      exact hc2 i u h
   exact this
 · exact ⟨by show s.next ≤ s.next + 1; omega, (nw_on (s := s.put r .dead) ho _).trans ho.symm, fun x hx hw => by
    rw [nw_get, if_neg (by show x ≠ s.next; omega), put_get, if_neg hw]⟩
end
end Go.Proofs.YtcbaodegkfokjaaDoor.W
namespace Go.Proofs.YtcbaodegkfokjaaDoor.W
open Go.Proofs.YtcbaodegkfokjaaDoor.Ev
section
variable {s : St}
theorem Bx.var {b e : Nat} {l : List V} (h : Bx s b e l) (h0 : 0 < l.length) (hl : l.length < big) : VarAt s b e l.length l := by
 refine ⟨h0, hl, rfl, _, h, fun i v hi => ?_⟩
 have hlt := (List.getElem?_eq_some_iff.1 hi).1
 rw [tr_two, if_pos hlt]; exact hi
theorem VarAt.agg {b e z : Nat} {l : List V} (h : VarAt s b e z l) : ∃ t, AgAt s b e z t ∧ ∀ (i : Nat) v, l[i]? = some v → t.get i = some v := by
 obtain ⟨c, h1, h2⟩ := h.row
 have hl := h.len
 obtain ⟨u, hu⟩ : ∃ u, l[0]? = some u := ⟨_, List.getElem?_eq_getElem (by have := h.pos; omega)⟩
 have h0 := h2 0 u hu
 rw [cellOf_zero h.pos, oI] at h0
 obtain ⟨t, ht, _⟩ := h0
 refine ⟨t, ⟨c, h1, ht⟩, fun i v hi => ?_⟩
 have hlt := (List.getElem?_eq_some_iff.1 hi).1
 have := h2 i v hi
 rw [cellOf_zero (by omega), ht] at this
 exact this
def SliceIs (s : St) (N0 : Nat) (v : V) (acc : List Nd) : Prop := (acc = [] ∧ v = .nilslice) ∨ (acc ≠ [] ∧ ∃ r, v = .oslice r 0 acc.length 5 ∧ RowAt s r 24 5 (acc.map treeN) ∧ N0 ≤ r ∧ r < s.next)
theorem SliceIs.grew {W : Nat → Prop} {t : St} {N0 : Nat} {v : V} {acc : List Nd} (h : SliceIs s N0 v acc) (hw : ∀ r, N0 ≤ r → r < s.next → ¬ W r) (g : Grew W s t) : SliceIs t N0 v acc := by
 rcases h with h | ⟨h1, r, h2, h3, h4, h5⟩
 · exact .inl h
 · exact .inr ⟨h1, r, h2, h3.grew h5 (hw r h4 h5) g, h4, Nat.lt_of_lt_of_le h5 g.next⟩
theorem SliceIs.add (ho : s.on = false) {N0 : Nat} {v : V} {acc : List Nd} (h : SliceIs s N0 v acc) (hN : N0 ≤ s.next) (hl : acc.length ≤ 3000) (z : Tr V) (y : Nd) :
 ∃ t v' u, bsP 24 5 1 z [(0, encN y)] s = some (.slice s.next 0 1 1, t) ∧ apP 24 5 72 v (.slice s.next 0 1 1) t = some (v', u) ∧ SliceIs u N0 v' (acc ++ [y]) ∧ Grew (fun x => N0 ≤ x) s u := by
 obtain ⟨t, h1, h2, h3, h4⟩ := bsP_node ho z y
 have on1 := h3.on.trans ho
 rcases h with ⟨rfl, rfl⟩ | ⟨hne, r, rfl, hr, hNr, hrn⟩
 · obtain ⟨u, k1, k2, k3, k4⟩ := ap_first on1 h2
   refine ⟨t, _, u, h1, k1, .inr ⟨by simp, t.next, rfl, k2, by omega, by omega⟩, (Grew.of0 h3).trans (Grew.of0 k3)⟩
 · have hr1 := hr.grew hrn (fun h => h) h3
   obtain ⟨u, k1, k2, k3, k4⟩ := ap_more on1 h2 hr1 (by simpa using hl)
   rw [List.length_map] at k1
   refine ⟨t, _, u, h1, k1, .inr ⟨by simp, t.next, by rw [List.length_append]; rfl, by rw [List.map_append]; exact k2, by omega, by omega⟩, (Grew.of0 h3).trans (k3.mono fun x _ hx => by rw [hx]; exact hNr)⟩
end
theorem lnS_kidsR (x : Rw) (S : St) : lnS (kidsR x) S = some (.int .i64 (x.kids.length : Int), S) := by
 cases x with
 | mk n k e d f l =>
  cases f with
  | nil => rfl
  | empty => rfl
  | list =>
   show some (V.int .i64 (.ofNat (rwVs l).length), S) = _
   rw [rwVs_map, List.length_map]; rfl
theorem ixP_kidsR (x : Rw) (i : Nat) (h : i < x.kids.length) : ixP 5 (kidsR x) (.int .i64 (i : Int)) = some (.cptr (rwV x.kids[i])) := by
 cases x with
 | mk n k e d f l =>
  cases f with
  | nil => simp [Rw.kids] at h
  | empty => simp [Rw.kids] at h
  | list =>
   have h' : i < l.length := h
   show ixP 5 (.list 5 (rwVs l)) _ = _
   rw [ixP_list 5 (rwVs l) .i64 i (by rw [rwVs_map, List.length_map]; exact h') (by decide)]
   congr 2
   simp only [rwVs_map, List.getElem_map]
   rfl
theorem ldA_kidR (x : Rw) (S : St) : ldA 5 (.cptr (rwV x)) S = some (rwV x, S) := by rw [rwV_cells]; exact ldA_cptr (cellsR x)
end Go.Proofs.YtcbaodegkfokjaaDoor.W
namespace Go.Proofs.YtcbaodegkfokjaaDoor.W
open Go.Proofs.YtcbaodegkfokjaaDoor.Ev
theorem rwV_fields {x y : Rw} (h : rwV x = rwV y) : x.name = y.name ∧ x.kind = y.kind ∧ x.exec = y.exec ∧ x.data = y.data ∧ kidsR x = kidsR y := by
 rw [rwV_cells, rwV_cells] at h
 have h := vAgg_inj h
 simp only [cellsR, List.cons.injEq, V.int.injEq, V.bool.injEq, true_and, and_true] at h
 obtain ⟨h1, h2, h3, h4, h5⟩ := h
 exact ⟨sv_inj h1, h2, h3, sv_inj h4, h5⟩
theorem kidsR_map {x y : Rw} (h : kidsR x = kidsR y) : x.kids.map rwV = y.kids.map rwV := by
 cases x with
 | mk n k e d f l =>
  cases y with
  | mk n' k' e' d' f' l' =>
   cases f <;> cases f' <;> simp only [kidsR, kform, reduceCtorEq, V.list.injEq, true_and] at h
   · rfl
   · rfl
   · rw [rwVs_map, rwVs_map] at h; exact h
theorem map_eq_of {f : Rw → Nd} : ∀ {l m : List Rw}, (∀ x y, rwV x = rwV y → f x = f y) → l.map rwV = m.map rwV → l.map f = m.map f
 | [], [], _, _ => rfl
 | [], _ :: _, _, h => by simp at h
 | _ :: _, [], _, h => by simp at h
 | x :: l, y :: m, hf, h => by
  simp only [List.map_cons, List.cons.injEq] at h ⊢
  exact ⟨hf x y h.1, map_eq_of hf h.2⟩
end Go.Proofs.YtcbaodegkfokjaaDoor.W
