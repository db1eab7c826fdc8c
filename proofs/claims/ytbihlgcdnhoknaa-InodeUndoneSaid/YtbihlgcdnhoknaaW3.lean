/-
  WHAT THE FUNCTIONS COME TO: each is read by the evaluator, printed, and told as a function of data, part 3 of 10 (no condition).
-/
import Derived.Test.YtbihlgcdnhoknaaW2
import Derived.Test.YtbihlgcdnhoknaaShelf
import Derived.OpenShut
import Derived.ProofKit
import Derived.WalkKit
namespace Go.Proofs.Ytbihlgcdnhoknaa.W
open Go.Proofs.Ytbihlgcdnhoknaa.Ev
theorem byteP_at {l : List UInt8} {i : Nat} (h : i < l.length) : byteP (pack l) i = l[i].toNat := qi5 i l l[i] (List.getElem?_eq_getElem h)
theorem decP_ascii {l : List UInt8} {i : Nat} (h : i < l.length) (hc : l[i].toNat < 128) : decP l.length (pack l) i = (l[i].toNat, 1) := by
 unfold decP
 rw [byteP_at h, blt_true.2 hc]; rfl
theorem qdw {l : List UInt8} {j : Nat} (h : contP l.length (pack l) j = true) : ∃ hj : j < l.length, 128 ≤ l[j].toNat := by
 unfold contP at h
 rw [Bool.and_eq_true, blt_true, Go.Proofs.Ytbihlgcdnhoknaa.Ev.beq_true] at h
 obtain ⟨h1, h2⟩ := h
 rw [byteP_at h1] at h2
 exact ⟨h1, by omega⟩
structure Far (l : List UInt8) (i : Nat) (p : Nat × Nat) : Prop where
 lo : 128 ≤ p.1
 hi : p.1 ≤ 1114111
 pos : 1 ≤ p.2
 fit : i + p.2 ≤ l.length
 all : ∀ j, j < p.2 → ∃ hj : i + j < l.length, 128 ≤ l[i + j].toNat
theorem far_one {l : List UInt8} {i : Nat} (h : i < l.length) (hc : 128 ≤ l[i].toNat) {r : Nat} (h1 : 128 ≤ r) (h2 : r ≤ 1114111) : Far l i (r, 1) :=
 ⟨h1, h2, Nat.le_refl _, by show i + 1 ≤ _; omega, fun j hj => by
  have hj' : j < 1 := hj
  obtain rfl : j = 0 := by omega
  exact ⟨h, hc⟩⟩
theorem far_if {l : List UInt8} {i : Nat} (h : i < l.length) (hc : 128 ≤ l[i].toNat) {w X : Nat} (b : Bool) (hb : b = true → 128 ≤ X ∧ X ≤ 1114111) (h1 : 1 ≤ w) (hfit : i + w ≤ l.length)
 (hall : ∀ j, j < w → ∃ hj : i + j < l.length, 128 ≤ l[i + j].toNat) : Far l i (bif b then (X, w) else (65533, 1)) := by
 cases b with
 | true => exact ⟨(hb rfl).1, (hb rfl).2, h1, hfit, hall⟩
 | false => exact far_one h hc (by omega) (by omega)
theorem validP_le {X : Nat} (h : validP X = true) : X ≤ 1114111 := by
 unfold validP at h
 rw [Bool.or_eq_true, blt_true, Bool.and_eq_true, ble_true, ble_true] at h
 omega
theorem decP_far {l : List UInt8} {i : Nat} (h : i < l.length) (hc : 128 ≤ l[i].toNat) : Far l i (decP l.length (pack l) i) := by
 unfold decP
 rw [byteP_at h]
 have hlt := l[i].toNat_lt
 have h0 : Nat.blt l[i].toNat 128 = false := by
  cases hb : Nat.blt l[i].toNat 128 with
  | false => rfl
  | true => rw [blt_true] at hb; omega
 rw [h0, cond_false]
 cases h2 : (Nat.beq (l[i].toNat / 32) 6 && contP l.length (pack l) (i + 1)) with
 | true =>
  rw [Bool.and_eq_true, Go.Proofs.Ytbihlgcdnhoknaa.Ev.beq_true] at h2
  obtain ⟨c1, c2⟩ := qdw h2.2
  rw [cond_true]
  refine far_if h hc _ (fun hb => ?_) (by omega) (by omega) fun j hj => ?_
  · rw [ble_true] at hb; omega
  · match j, hj with
    | 0, _ => exact ⟨h, hc⟩
    | 1, _ => exact ⟨c1, c2⟩
 | false =>
 rw [cond_false]
 cases h3 : (Nat.beq (l[i].toNat / 16) 14 && contP l.length (pack l) (i + 1) && contP l.length (pack l) (i + 2)) with
 | true =>
  rw [Bool.and_eq_true, Bool.and_eq_true] at h3
  obtain ⟨c1, c2⟩ := qdw h3.1.2
  obtain ⟨d1, d2⟩ := qdw h3.2
  rw [cond_true]
  refine far_if h hc _ (fun hb => ?_) (by omega) (by omega) fun j hj => ?_
  · rw [Bool.and_eq_true, ble_true] at hb
    exact ⟨Nat.le_trans (by omega) hb.1, validP_le hb.2⟩
  · match j, hj with
    | 0, _ => exact ⟨h, hc⟩
    | 1, _ => exact ⟨c1, c2⟩
    | 2, _ => exact ⟨d1, d2⟩
 | false =>
 rw [cond_false]
 cases h4 : (Nat.beq (l[i].toNat / 8) 30 && contP l.length (pack l) (i + 1) && contP l.length (pack l) (i + 2) && contP l.length (pack l) (i + 3)) with
 | true =>
  rw [Bool.and_eq_true, Bool.and_eq_true, Bool.and_eq_true] at h4
  obtain ⟨c1, c2⟩ := qdw h4.1.1.2
  obtain ⟨d1, d2⟩ := qdw h4.1.2
  obtain ⟨e1, e2⟩ := qdw h4.2
  rw [cond_true]
  refine far_if h hc _ (fun hb => ?_) (by omega) (by omega) fun j hj => ?_
  · rw [Bool.and_eq_true, ble_true] at hb
    exact ⟨Nat.le_trans (by omega) hb.1, validP_le hb.2⟩
  · match j, hj with
    | 0, _ => exact ⟨h, hc⟩
    | 1, _ => exact ⟨c1, c2⟩
    | 2, _ => exact ⟨d1, d2⟩
    | 3, _ => exact ⟨e1, e2⟩
 | false =>
  rw [cond_false]
  exact far_one h hc (by omega) (by omega)
def anyAt (s : List UInt8) (pos : Nat) : Option Nat := ((s.drop pos).findIdx? badByte).map fun j => pos + j
theorem anyAt_end {s : List UInt8} {pos : Nat} (h : s.length ≤ pos) : anyAt s pos = none := by unfold anyAt; rw [List.drop_eq_nil_of_le h]; rfl
theorem anyAt_hit {s : List UInt8} {pos : Nat} (h : pos < s.length) (hb : badByte s[pos] = true) : anyAt s pos = some pos := by
 unfold anyAt
 rw [List.drop_eq_getElem_cons h, List.findIdx?_cons, if_pos hb]; rfl
theorem qh1 {s : List UInt8} {pos : Nat} (h : pos < s.length) (hb : badByte s[pos] = false) : anyAt s pos = anyAt s (pos + 1) := by
 unfold anyAt
 rw [List.drop_eq_getElem_cons h, List.findIdx?_cons, if_neg (by rw [hb]; simp), Option.map_map]
 congr 1
 funext j
 show pos + (j + 1) = pos + 1 + j
 omega
theorem anyAt_skip {s : List UInt8} : ∀ (w pos : Nat), (∀ j, j < w → ∃ hj : pos + j < s.length, badByte s[pos + j] = false) → anyAt s pos = anyAt s (pos + w)
 | 0, pos, _ => rfl
 | w + 1, pos, h => by
  obtain ⟨h0, hb⟩ := h 0 (by omega)
  rw [qh1 (pos := pos) h0 hb, anyAt_skip w (pos + 1) fun j hj => by
   obtain ⟨h1, h2⟩ := h (j + 1) (by omega)
   have e : pos + 1 + j = pos + (j + 1) := by omega
   exact ⟨by omega, by simp only [e]; exact h2⟩]
  congr 1
  omega
theorem bad_iff (c : UInt8) : badByte c = decide (0 ≤ ixR c.toNat) := by
 unfold badByte ixR
 rw [u8_eq c 47, u8_eq c 0, show UInt8.toNat 47 = 47 from rfl, show UInt8.toNat 0 = 0 from rfl]
 by_cases h1 : c.toNat = 47
 · simp [h1]
 · by_cases h2 : c.toNat = 0
   · simp [h2]
   · simp only [h1, h2, if_false]
     rw [Bool.eq_iff_iff]
     simp
     omega
theorem far_ok {c : UInt8} (h : 128 ≤ c.toNat) : badByte c = false := by
 rw [bad_iff]
 unfold ixR
 rw [if_neg (by omega), if_neg (by omega)]; rfl
theorem ixR_far {r : Nat} (h : 128 ≤ r) : ixR r = -1 := by unfold ixR; rw [if_neg (by omega), if_neg (by omega)]
def outAny (L : Rs) (E : St → Rs) (o : Option Nat) (S' : St) : Prop :=
 match o with
 | some j => L = some (.ret (.int .i64 (j : Int)), S')
 | none => L = E S'
theorem L77_spec (self : EV) (N : Nat) (nk : Ac → St → Rs) (ek : Nat → Ac → St → Rs) (s : List UInt8) (b : Nat)
 (h78 : ∀ (r : Nat) S, r ≤ 1114111 → self.f 82 [sv bad2, .int .i32 (r : Int)] S = some (.ret (.int .i64 (ixR r)), S)) :
 ∀ (k pos n : Nat) (S : St), s.length ≤ pos + k → k < n → pos ≤ s.length → S.on = false → S.heap.get b = some (.siter s.length (pack s) pos) →
 ∃ S', outAny (L78_27 self N nk ek n (sv bad2) (.ptr b 0) S) (fun S' => ek 2 (fr 55 []) S') (anyAt s pos) S' ∧ Grew (fun x => x = b) S S'
 | k, pos, 0, S, hk, hn, hp, ho, hb => by omega
 | k, pos, n + 1, S, hk, hn, hp, ho, hb => by
  by_cases hend : pos = s.length
  · subst hend
    refine ⟨S, ?_, Grew.refl _ _⟩
    rw [anyAt_end (Nat.le_refl _), L78_27_eq, nextK_end ho hb (Nat.le_refl _)]
    rfl
  · have hlt : pos < s.length := by omega
    obtain ⟨k, rfl⟩ : ∃ k', k = k' + 1 := ⟨k - 1, by omega⟩
    have hstep : ∀ r w : Nat, decP s.length (pack s) pos = (r, w) → r ≤ 1114111 → 1 ≤ w → pos + w ≤ s.length →
     (ixR r = -1 → anyAt s pos = anyAt s (pos + w)) → (0 ≤ ixR r → anyAt s pos = some pos) → (ixR r = -1 ∨ 0 ≤ ixR r) →
     ∃ S', outAny (L78_27 self N nk ek (n + 1) (sv bad2) (.ptr b 0) S) (fun S' => ek 2 (fr 55 []) S') (anyAt s pos) S' ∧ Grew (fun x => x = b) S S' := by
     intro r w hd hr hw hfit hno hyes hor
     have hgr := qal (s := S) b (.siter s.length (pack s) (pos + w))
     rw [L78_27_eq, nextK_at ho hb hlt, hd]
     rw [oB]
     simp only [extractV, List.getElem?_cons_zero, List.getElem?_cons_succ]
     rw [oB, ifK_bool, cond_true, oB, oB, h78 r _ hr, callP_ret, binV_ii, intsV_geq, oB, ifK_bool]
     rcases hor with hneg | hge
     · rw [hneg, show decide ((0 : Int) ≤ -1) = false by decide, cond_false, hno hneg]
       obtain ⟨S', h1, h2⟩ := L77_spec self N nk ek s b h78 k (pos + w) n (S.put b (.siter s.length (pack s) (pos + w))) (by omega) (by omega) hfit ho (by rw [qau, if_pos rfl])
       exact ⟨S', h1, hgr.trans h2⟩
     · rw [decide_eq_true hge, cond_true, hyes hge]
       exact ⟨_, rfl, hgr⟩
    by_cases hc : s[pos].toNat < 128
    · refine hstep _ 1 (decP_ascii hlt hc) (by omega) (by omega) (by omega) (fun h => qh1 hlt ?_) (fun h => anyAt_hit hlt ?_) ?_
      · rw [bad_iff, h]; rfl
      · rw [bad_iff]; exact decide_eq_true h
      · unfold ixR; split
        · right; omega
        · split
          · right; omega
          · left; rfl
    · have hf := decP_far hlt (by omega)
      have hx := ixR_far hf.lo
      exact hstep (decP s.length (pack s) pos).1 (decP s.length (pack s) pos).2 rfl hf.hi hf.pos hf.fit (fun _ => anyAt_skip _ _ fun j hj => by
       obtain ⟨h1, h2⟩ := hf.all j hj
       exact ⟨h1, far_ok h2⟩) (fun h => absurd h (by rw [hx]; decide)) (.inl hx)
end Go.Proofs.Ytbihlgcdnhoknaa.W
namespace Go.Proofs.Ytbihlgcdnhoknaa.W
open Go.Proofs.Ytbihlgcdnhoknaa.Ev
theorem ixA_ptr (len z : Nat) (g : Bool) (k : Nat) (ik : IntKind) {b off n : Nat} (h : n < len) : ixA len z g k (.ptr b off) (.int ik (n : Int)) = some (.ptr b (off + n * z)) := by
 show (bif Nat.blt n len then some (V.ptr b (off + n * z)) else none) = _
 rw [blt_true.2 h]; rfl
theorem big256 : 256 < big := by unfold big; decide
theorem F81_spec (self : EV) (N : Nat) {b e : Nat} {t : Tr V} (c : UInt8) (S : St) (ho : S.on = false) (h : AgAt S b e 256 t) {v : V} (ht : t.get c.toNat = some v) : F85 self N (.ptr b 0) (.int .u8 (c.toNat : Int)) S = some (.ret v, S) := by
 have hc := c.toNat_lt
 rw [F85_eq, show nilCheckV (.ptr b 0) = some (.ptr b 0) from rfl, oB, ixA_ptr 256 1 false 1 .u8 hc, oB, Nat.zero_add, Nat.mul_one, h.ld1 ho big256 hc ht]
 rfl
def IsSet (t : Tr V) : Prop := ∀ c : UInt8, t.get c.toNat = some (.bool (badByte c))
theorem F80_new (self : EV) (N : Nat) (x0 : V) (S : St) : F84 self N x0 S = (some (nwP 109 256 (Tr.ofListFrom .nil (List.replicate 256 (.bool false)) 0) S)).bind fun p0 =>
 L84_8 self N (R84_2 self N (finN E0 self Try.f84) noEx) (exB 0 (R84_2 self N (finN E0 self Try.f84) noEx) noEx) N x0 p0.1 (.int .i64 0) p0.2 := by kernel_rfl
theorem isSet_made : IsSet (((Tr.ofListFrom .nil (List.replicate 256 (.bool false)) 0).set (.bool true) 47).set (.bool true) 0) := fun c => by
 have hc := c.toNat_lt
 rw [Tr.get_set, Tr.get_set, Tr.get_ofList]
 unfold badByte
 rw [u8_eq c 47, u8_eq c 0, show UInt8.toNat 47 = 47 from rfl, show UInt8.toNat 0 = 0 from rfl]
 by_cases h0 : c.toNat = 0
 · rw [if_pos h0, h0]; rfl
 · rw [if_neg h0]
   by_cases h1 : c.toNat = 47
   · rw [if_pos h1, h1]; rfl
   · rw [if_neg h1, List.getElem?_replicate, if_pos hc]
     have e1 : decide ((c.toNat : Int) = ((47 : Nat) : Int)) = false := by simp; omega
     have e2 : decide ((c.toNat : Int) = ((0 : Nat) : Int)) = false := by simp; omega
     rw [e1, e2]; rfl
theorem L80_step (self : EV) (N : Nat) (nk : Ac → St → Rs) (ek : Nat → Ac → St → Rs) (n i : Nat) (hi : i < 2) {b e : Nat} {t : Tr V} (S : St) (ho : S.on = false) (h : AgAt S b e 256 t) :
 ∃ S', L84_8 self N nk ek (n + 1) (sv bad2) (.ptr b 0) (.int .i64 (i : Int)) S = L84_8 self N nk ek n (sv bad2) (.ptr b 0) (.int .i64 ((i + 1 : Nat) : Int)) S' ∧ AgAt S' b e 256 (t.set (.bool true) (bad2[i]'hi).toNat) ∧ Grew (fun x => x = b) S S' := by
 obtain ⟨S', h1, h2, h3, _⟩ := h.st1 (i := (bad2[i]'hi).toNat) (v := .bool true) ho big256 (by omega) (bad2[i]'hi).toNat_lt rfl rfl rfl
 refine ⟨S', ?_, h2, h3⟩
 have hlt : decide (((bad2[i]'hi).toNat : Int) ≥ 128) = false := by
  match i, hi with
  | 0, _ => rfl
  | 1, _ => rfl
 rw [L84_8_eq, lnStr_sv, oB, binV_ii, intsV_lss, dec_lt (show i < bad2.length from hi), oB, ifK_bool, cond_true, ixS_sv bad2 .i64 i hi, oB, binV_ii, intsV_geq]
 rw [show decide ((128 : Int) ≤ ((bad2[i]'hi).toNat : Int)) = false from hlt, oB, ifK_bool, cond_false, ixA_ptr 256 1 false 1 .u8 (bad2[i]'hi).toNat_lt, oB, Nat.zero_add, Nat.mul_one, h1, oB, binV_ii, intsV_add, qiq (by omega), oB]
theorem AgAt.stSame {s : St} (ho : s.on = false) {b e z : Nat} {t : Tr V} (h : AgAt s b e z t) (hz : z < big) : ∃ w, stP z (.ptr b 0) (.agg z t) s = some (.tuple [], w) ∧ AgAt w b e z t ∧ Grew (fun x => x = b) s w := by
 obtain ⟨w, h1, h2, h3, _⟩ := h.stA ho hz t
 exact ⟨w, h1, h2, h3⟩
theorem F80_spec (self : EV) (m : Nat) (S : St) (ho : S.on = false) : ∃ t S', F84 self (m + 3) (sv bad2) S = some (.ret (.tuple [.agg 256 t, .bool true]), S') ∧ IsSet t ∧ Grew (fun _ => False) S S' := by
 obtain ⟨k1, k2, k3⟩ := ag_new ho 109 256 (Tr.ofListFrom .nil (List.replicate 256 (.bool false)) 0)
 have hset := isSet_made
 have hon : (nwP 109 256 (Tr.ofListFrom .nil (List.replicate 256 (.bool false)) 0) S).2.on = false := qht ho _
 rw [F80_new, oB, qek]
 generalize (nwP 109 256 (Tr.ofListFrom .nil (List.replicate 256 (.bool false)) 0) S).2 = S1 at *
 obtain ⟨S2, a1, a2, a3⟩ := L80_step self (m + 3) (R84_2 self (m + 3) (finN E0 self Try.f84) noEx) (exB 0 (R84_2 self (m + 3) (finN E0 self Try.f84) noEx) noEx) (m + 2) 0 (by decide) S1 hon k1
 obtain ⟨S3, b1, b2, b3⟩ := L80_step self (m + 3) (R84_2 self (m + 3) (finN E0 self Try.f84) noEx) (exB 0 (R84_2 self (m + 3) (finN E0 self Try.f84) noEx) noEx) (m + 1) 1 (by decide) S2 (a3.on.trans hon) a2
 have on3 := b3.on.trans (a3.on.trans hon)
 obtain ⟨S4, c1, c2, c3⟩ := b2.stSame on3 big256
 refine ⟨_, S4, ?_, hset, k2.own (Nat.le_refl _) (a3.trans (b3.trans c3))⟩
 rw [show (V.int .i64 0) = .int .i64 ((0 : Nat) : Int) from rfl, a1, b1, L84_8_eq, lnStr_sv, oB, binV_ii, intsV_lss, dec_ge (show bad2.length ≤ 1 + 1 by decide), oB, ifK_bool, cond_false, exB_same, R84_2_eq, b2.ldA on3 big256, oB]
 dsimp only
 rw [c1, oB]
 dsimp only
 rw [c2.ldrA (c3.on.trans on3) big256]
 rfl
theorem qgy (self : EV) (N : Nat) (nk : Ac → St → Rs) (ek : Nat → Ac → St → Rs) (s : List UInt8) (hs : s.length < 9223372036854775808) (b : Nat) (S : St) (h81 : ∀ c : UInt8, self.f 85 [.ptr b 0, .int .u8 (c.toNat : Int)] S = some (.ret (.bool (badByte c)), S)) :
 ∀ (r : List UInt8) (i n : Nat), s.drop i = r → r.length < n → outAny (L78_55 self N nk ek n (sv s) (.ptr b 0) (.int .i64 (i : Int)) S) (fun S => ek 0 (fr 55 []) S) (anyAt s i) S
 | r, i, 0, _, hn => by omega
 | [], i, n + 1, hi, hn => by
  rw [anyAt_end (drop_end hi), L78_55_eq, lnStr_sv, oB, binV_ii, intsV_lss, dec_ge (drop_end hi)]
  rfl
 | c :: r, i, n + 1, hi, hn => by
  obtain ⟨hlt, hc, hr, hmem⟩ := drop_at hi
  rw [L78_55_eq, lnStr_sv, oB, binV_ii, intsV_lss, dec_lt hlt, oB, ifK_bool, cond_true, ixS_sv s .i64 i hlt, hc, oB, h81 c, callP_ret, ifK_bool]
  cases hb : badByte c with
  | true =>
   rw [anyAt_hit hlt (by rw [hc]; exact hb)]
   rfl
  | false =>
   rw [qh1 hlt (by rw [hc]; exact hb), cond_false, binV_ii, intsV_add, qiq (by omega), oB]
   exact qgy self N nk ek s hs b S h81 r (i + 1) n hr (by simp at hn; omega)
def outI (o : Option Nat) : Int := match o with | some j => (j : Int) | none => -1
theorem F77_short (self : EV) (m : Nat) (s : List UInt8) (hs : s.length < m) (S : St) (ho : S.on = false)
 (h78 : ∀ (r : Nat) S, r ≤ 1114111 → self.f 82 [sv bad2, .int .i32 (r : Int)] S = some (.ret (.int .i64 (ixR r)), S)) :
 ∃ S', R78_22 self m (finN E0 self Try.f78) noEx (fr 55 [(0, sv s), (1, sv bad2)]) S = some (.ret (.int .i64 (outI (anyAt s 0))), S') ∧ Grew (fun _ => False) S S' := by
 have hg := qbf ho (fun _ => False) (.siter s.length (pack s) 0)
 obtain ⟨S', h1, h2⟩ := L77_spec self m (R78_23 self m (fun a s => projK [4] a fun a => finN E0 self Try.f78 a s) noEx) (exB 2 (R78_23 self m (fun a s => projK [4] a fun a => finN E0 self Try.f78 a s) noEx) noEx) s S.next h78 s.length 0 m (nw S (.siter s.length (pack s) 0)) (by omega) hs (by omega) (qht ho _) (by rw [qcm, if_pos rfl])
 refine ⟨S', ?_, hg.own (Nat.le_refl _) h2⟩
 rw [R78_22_eq, qib, oB]
 unfold outAny at h1
 unfold outI
 cases hx : anyAt s 0 with
 | some j => rw [hx] at h1; exact h1
 | none =>
  rw [hx] at h1
  exact h1.trans (by dsimp only; rw [exB_same, R78_23_eq])
theorem F77_new (self : EV) (N : Nat) (x0 x1 : V) (S : St) : F78 self N x0 x1 S =
(binV E0 .eql 9 false true x1 (sv [])).bind fun t2 =>
ifK t2 (
some (.ret (.int .i64 (-1)), S)) (
(lnStr x1 S).bind fun p5 =>
(binV E0 .eql 3 false true p5.1 (.int .i64 1)).bind fun t6 =>
ifK t6 (
(ixS x1 (.int .i64 0)).bind fun t8 =>
(cvI .i32 t8 p5.2).bind fun p9 =>
(binV E0 .geq 21 false true p9.1 (.int .i32 128)).bind fun t12 =>
ifK t12 (
callP (self.f 82 [x0, (.int .i32 65533)] p9.2) fun t16 S16 =>
some (.ret t16, S16)) (
callP (self.f 82 [x0, p9.1] p9.2) fun t20 S20 =>
some (.ret t20, S20))) (
(lnStr x0 p5.2).bind fun p41 =>
callP (self.f 83 [p41.1] p41.2) fun t42 S42 =>
ifK t42 (
callP (self.f 84 [x1] S42) fun t44 S44 =>
(extractV t44 0).bind fun t46 =>
(extractV t44 1).bind fun t47 =>
(some (nwP 109 256 (Tr.ofListFrom .nil (List.replicate 256 (V.bool false)) 0) S44)).bind fun p48 =>
(stP 256 p48.1 t46 p48.2).bind fun p49 =>
ifK t47 (
L78_55 self N (R78_52 self N (R78_22 self N (finN E0 self Try.f78) noEx) noEx) (exB 0 (R78_52 self N (R78_22 self N (finN E0 self Try.f78) noEx) noEx) noEx) N x0 p48.1 (.int .i64 0) p49.2) (
R78_22 self N (finN E0 self Try.f78) noEx (fr 55 [(0, x0), (1, x1)]) p49.2)) (
R78_22 self N (finN E0 self Try.f78) noEx (fr 55 [(0, x0), (1, x1)]) S42))) := by kernel_rfl
theorem ag_lay {s : St} (ho : s.on = false) (e : Nat) (t0 u : Tr V) : ∃ w, stP 256 (.ptr s.next 0) (.agg 256 u) (nwP e 256 t0 s).2 = some (.tuple [], w) ∧ AgAt w s.next e 256 u ∧ Grew (fun _ => False) s w := by
 obtain ⟨k1, k2, _⟩ := ag_new ho e 256 t0
 obtain ⟨w, h1, h2, h3, _⟩ := k1.stA (qht ho _) big256 u
 exact ⟨w, h1, h2, k2.own (Nat.le_refl _) h3⟩
theorem F77_spec (self : EV) (m : Nat) (s : List UInt8) (hs : s.length < m + 3) (hs2 : s.length < 9223372036854775808) (S : St) (ho : S.on = false)
 (h78 : ∀ (r : Nat) S, r ≤ 1114111 → self.f 82 [sv bad2, .int .i32 (r : Int)] S = some (.ret (.int .i64 (ixR r)), S))
 (h79 : ∀ S, self.f 83 [.int .i64 (s.length : Int)] S = some (.ret (.bool (decide ((8 : Int) < (s.length : Int)))), S))
 (h80 : ∀ S, S.on = false → ∃ t S', self.f 84 [sv bad2] S = some (.ret (.tuple [.agg 256 t, .bool true]), S') ∧ IsSet t ∧ Grew (fun _ => False) S S')
 (h81 : ∀ (c : UInt8) S b e t, S.on = false → AgAt S b e 256 t → IsSet t → self.f 85 [.ptr b 0, .int .u8 (c.toNat : Int)] S = some (.ret (.bool (badByte c)), S)) :
 ∃ S', F78 self (m + 3) (sv s) (sv bad2) S = some (.ret (.int .i64 (outI (anyAt s 0))), S') ∧ Grew (fun _ => False) S S' := by
 rw [F77_new, binV_ss, strOp_eql, show (bad2 == []) = false from rfl, oB, ifK_bool, cond_false, lnStr_sv, oB, binV_ii, intsV_eql, show decide ((bad2.length : Int) = 1) = false by decide, oB, ifK_bool, cond_false, lnStr_sv, oB, h79, callP_ret, ifK_bool]
 cases decide ((8 : Int) < (s.length : Int)) with
 | false =>
  rw [cond_false]
  exact F77_short self (m + 3) s hs S ho h78
 | true =>
  obtain ⟨t, S1, k1, k2, k3⟩ := h80 S ho
  have on1 := k3.on.trans ho
  obtain ⟨S2, l1, l2, l3⟩ := ag_lay on1 109 (Tr.ofListFrom .nil (List.replicate 256 (V.bool false)) 0) t
  have on2 := l3.on.trans on1
  have hL := qgy self (m + 3) (R78_52 self (m + 3) (R78_22 self (m + 3) (finN E0 self Try.f78) noEx) noEx) (exB 0 (R78_52 self (m + 3) (R78_22 self (m + 3) (finN E0 self Try.f78) noEx) noEx) noEx) s hs2 S1.next S2 (fun c => h81 c S2 _ _ t on2 l2 k2) s 0 (m + 3) rfl hs
  refine ⟨S2, ?_, k3.trans l3⟩
  rw [cond_true, k1, callP_ret, show extractV (.tuple [.agg 256 t, .bool true]) 0 = some (.agg 256 t) from rfl, oB, show extractV (.tuple [.agg 256 t, .bool true]) 1 = some (.bool true) from rfl, oB, oB, qek, l1, oB, ifK_bool, cond_true]
  unfold outAny at hL
  unfold outI
  cases hx : anyAt s 0 with
  | some j => rw [hx] at hL; exact hL
  | none =>
   rw [hx] at hL
   exact hL.trans (by dsimp only; rw [exB_same, R78_52_eq])
theorem outI_any (s : List UInt8) : decide (0 ≤ outI (anyAt s 0)) = s.any badByte := by
 unfold anyAt outI
 rw [List.drop_zero]
 cases h : s.findIdx? badByte with
 | none =>
  rw [List.findIdx?_eq_none_iff] at h
  have : s.any badByte = false := by
   rw [List.any_eq_false]
   intro x hx
   rw [h x hx]; simp
  rw [this]; rfl
 | some j =>
  have : s.any badByte = true := by
   rw [List.any_eq_true]
   rw [List.findIdx?_eq_some_iff_getElem] at h
   obtain ⟨h1, h2, _⟩ := h
   exact ⟨_, List.getElem_mem h1, h2⟩
  rw [this]
  simp
noncomputable def kfAny : KF := specKF (fun p : TextIn => [sv p.s, sv bad2]) (fun p => En.ret (.bool (p.s.any badByte)))
theorem kfAny_run (s : List UInt8) (hs : s.length < 9223372036854775808) (S : St) : kfAny.run [sv s, sv bad2] S = some (.ret (.bool (s.any badByte)), S) :=
 qe7 (enc := fun p : TextIn => [sv p.s, sv bad2]) (out := fun p => En.ret (.bool (p.s.any badByte))) (fun p q h => by
  simp only [List.cons.injEq, and_true] at h
  rw [sv_inj h]) ⟨s, hs⟩ S
theorem kn74 {K : FuncId → Option KF} (hK : KnOk Try.prog E0 K) (h78 : K 82 = some kfIndexRune) (h77 : K 78 = none) (h79 : K 83 = none) (h80 : K 84 = none) (h81 : K 85 = none) : KnWell Try.prog E0 59 kfAny :=
 qeq (fn := Try.f59) (c := C59) (d := B59) E0_ok hK (by kernel_rfl) (by kernel_rfl) (qa2 C59 _ (by kernel_rfl)) fun p S ho => by
  obtain ⟨S', h1, h2⟩ := F77_spec (ev E0 K 1) (rounds - 3) p.s (by have := p.hs; unfold rounds; omega) p.hs S ho (fun r S hr => by rw [qd7 h78, qho r hr])
   (fun S => qaa (c := C83) (d := B83) (by kernel_rfl) (by kernel_rfl) (qa2 C83 _ (by kernel_rfl)) h79 (show F83 (ev E0 K 0) rounds _ S = _ by rw [F83_eq, binV_ii, intsV_gtr]; rfl))
   (fun S ho => by
    obtain ⟨t, S', h1, h2, h3⟩ := F80_spec (ev E0 K 0) (rounds - 3) S ho
    rw [show rounds - 3 + 3 = rounds by unfold rounds; omega] at h1
    exact ⟨t, S', qaa (c := C84) (d := B84) (by kernel_rfl) (by kernel_rfl) (qa2 C84 _ (by kernel_rfl)) h80 h1, h2, h3⟩)
   (fun c S b e t ho h hs => qaa (c := C85) (d := B85) (by kernel_rfl) (by kernel_rfl) (qa2 C85 _ (by kernel_rfl)) h81 (F81_spec (ev E0 K 0) rounds c S ho h (hs c)))
  rw [show rounds - 3 + 3 = rounds by unfold rounds; omega] at h1
  refine ⟨2, .ret (.bool (p.s.any badByte)), S', (?_ : F59 (ev E0 K 2) rounds (sv p.s) (sv bad2) S = _), h2, Fz.same (.bool _)⟩
  rw [F59_eq, qaa (c := C78) (d := B78) (by kernel_rfl) (by kernel_rfl) (qa2 C78 _ (by kernel_rfl)) h77 h1, callP_ret, binV_ii, intsV_geq, outI_any]
  rfl
end Go.Proofs.Ytbihlgcdnhoknaa.W
namespace Go.Proofs.Ytbihlgcdnhoknaa.W
open Go.Proofs.Ytbihlgcdnhoknaa.Ev Go.RowKit Go.Proofs
def frz (W : World) : Rho := ⟨fun _ => none, fun k => W.heap[k]?⟩
theorem glob0 : ∀ g, E0.glob.get g = none := fun _ => rfl
noncomputable def kfTrue : KF := specKF (fun _ : Unit => []) (fun _ => En.ret (.bool true))
theorem kfTrue_run (S : St) : kfTrue.run [] S = some (.ret (.bool true), S) := qe7 (enc := fun _ : Unit => []) (out := fun _ => En.ret (.bool true)) (fun _ _ _ => rfl) () S
theorem relF (W : World) : Rel E0 (base0 W) (frz W) s0 W :=
 ⟨⟨rfl, rfl, rfl, Nat.le_refl _, fun _ _ => rfl⟩, fun _ _ => rfl, Nat.le_refl _, fun b o h => by simp [s0, Tr.get_nil] at h, fun b b' o o' cb sh sz sh' sz' h => by simp [s0, Tr.get_nil] at h, fun g b h => (by rw [glob0] at h; cases h), fun k o h => h, fun b o cb sh sz h => (by simp [s0, Tr.get_nil] at h), fun k o h _ => trivial⟩
theorem works_runs : saysTrue ((ev E0 (fun _ => none) 400).f 15 [] s0) = true := by decide +kernel
theorem kn15 : KnWell Try.prog E0 15 kfTrue := by
 refine ⟨specKF_loc, fun w0 ρ s w args cargs e t hR hv hg => ?_⟩
 unfold kfTrue specKF at hg
 simp only at hg
 by_cases hx : ∃ x : Unit, ([] : List V) = args
 · rw [dif_pos hx] at hg
   simp only [oS, pM] at hg
   obtain ⟨rfl, rfl⟩ := hg
   obtain ⟨_, rfl⟩ := hx
   obtain ⟨l⟩ := cargs
   cases hv
   exact (closed_walk E0_ok knOk_nil glob0 works_runs w).mono fun ce w' ⟨h1, h2⟩ => ⟨ρ, .bool true, h1, Rho.le_refl ρ, .bool true, hR.grown h2⟩
 · rw [dif_neg hx] at hg; cases hg
theorem sok38 : SortedOk Try.prog 38 [66] 9 := sortedOk_of Try.sorted38 Try.sort65 rfl [66] fun g hg => by
 simp only [List.mem_cons, List.not_mem_nil, or_false] at hg
 subst hg
 exact ⟨Try.keys39_ren, { Try.keys39 with }, rfl, rfl⟩
noncomputable def KO := knAdd (fun _ => none) 38 (kfSorted [66] 9)
theorem okO : KnOk Try.prog E0 KO := knOk_nil.add (sorted_well sok38)
noncomputable def KA := knAdd KO 15 kfTrue
theorem okA : KnOk Try.prog E0 KA := okO.add kn15
noncomputable def KB := knAdd KA 24 kfIndexByte
theorem okB : KnOk Try.prog E0 KB := okA.add (kn63 okA rfl)
noncomputable def KC := knAdd KB 82 kfIndexRune
theorem okC : KnOk Try.prog E0 KC := okB.add (kn78 okB rfl rfl)
noncomputable def KD := knAdd KC 59 kfAny
theorem okD : KnOk Try.prog E0 KD := okC.add (kn74 okC rfl rfl rfl rfl rfl)
theorem lgD : Lg.KnLoc KD := (((((Lg.knLoc_nil).add 38 fun _ => kfSorted_lg _ _ _).add 15 fun _ => Lg.specKF_lg _).add 24 fun _ => Lg.specKF_lg _).add 82 fun _ => Lg.specKF_lg _).add 59 fun _ => Lg.specKF_lg _
section
variable {s : St}
theorem big1 : 1 < big := by unfold big; decide
theorem bx_put (b e : Nat) (l : List V) : Bx (s.put b (bxO e l)) b e l := by
 show (s.put b (bxO e l)).heap.get b = some (bxO e l)
 rw [qau, if_pos rfl]
def selRd (logs : List (List LE)) (prs : List (Nat × List Nat)) : Bool := prs.all fun p => (logOf p.1 logs).all (fun e => !e.w) && p.2.all fun j => (logOf j logs).all fun e => !e.w
theorem selRd_ok {logs : List (List LE)} : ∀ {prs : List (Nat × List Nat)}, selRd logs prs = true → pairsOk logs prs = true
 | [], _ => rfl
 | (i, js) :: l, h => by
  unfold selRd at h
  rw [List.all_cons, Bool.and_eq_true, Bool.and_eq_true] at h
  obtain ⟨⟨h1, h2⟩, h3⟩ := h
  have r : ∀ {L : List LE}, (L.all fun e => !e.w) = true → ∀ f ∈ L, f.w = false := fun {L} hL f hf => by simpa using List.all_eq_true.1 hL f hf
  have key : ∀ js : List Nat, (js.all fun j => (logOf j logs).all fun e => !e.w) = true → clashAny (logOf i logs) logs js = false := fun js => by
   induction js with
   | nil => intro _; rfl
   | cons j js ih =>
    intro hj
    rw [List.all_cons, Bool.and_eq_true] at hj
    unfold clashAny
    rw [clash_rd _ _ (r h1) (r hj.1)]
    exact ih hj.2
  unfold pairsOk
  rw [key js h2]
  exact selRd_ok h3
theorem qbb {prs : List (Nat × List Nat)} {s0 s : St} {logs : List (List LE)} {k : St → Rs} (h : selRd logs prs = true) : endP prs s0 logs s k = k (relog s0 s logs) := qhd (selRd_ok h)
end
end Go.Proofs.Ytbihlgcdnhoknaa.W
namespace Go.Proofs.Ytbihlgcdnhoknaa.W
open Go.Proofs.Ytbihlgcdnhoknaa.Ev
section
variable {s : St}
theorem nw_lg (ho : s.on = false) (l : List LE) (o : O) : nw (s.lg l) o = (nw s o).lg ({ b := s.next, lo := 0, hi := big, w := true } :: l) := by
 unfold nw
 rw [qai ho, note_lg]
 rfl
theorem newCells_lg (ho : s.on = false) (l : List LE) (e z : Nat) (ts : List (Tr V)) : newCells (s.lg l) e z ts = (newCells s e z ts).lg ({ b := s.next, lo := 0, hi := big, w := true } :: l) := by
 unfold newCells
 exact nw_lg ho l _
theorem stP_lg (ho : s.on = false) {n b off : Nat} {v : V} {t : St} (h : stP n (.ptr b off) v s = some (.tuple [], t)) : ∃ l, stP n (.ptr b off) v (s.lg []) = some (.tuple [], t.lg l) := by
 have h' : vu (bif Nat.beq v.size n && !isTuple v then stK s b off n v.cells else none) = some (.tuple [], t) := h
 show ∃ l, vu (bif Nat.beq v.size n && !isTuple v then stK (s.lg []) b off n v.cells else none) = some (.tuple [], t.lg l)
 cases hc : (Nat.beq v.size n && !isTuple v) with
 | false => rw [hc] at h'; cases h'
 | true =>
  rw [hc] at h'
  simp only [cond_true] at h' ⊢
  unfold vu at h' ⊢
  simp only [oI, oS, pM, true_and] at h'
  obtain ⟨u, hu, rfl⟩ := h'
  obtain ⟨_, l, hl⟩ := stK_lg ho hu []
  exact ⟨l, by rw [hl]; rfl⟩
theorem bx_st6 (ho : s.on = false) {b e i : Nat} {l m : List V} {v : V} (h : Bx s b e l) (hl : l.length = 6) (hm : m.length = 6) (hi : i < 6) (hset : (Tr.ofListFrom .nil l 0).set v i = Tr.ofListFrom .nil m 0) (h1 : v.size = 1) (h2 : v.cells = Go.Proofs.Ytbihlgcdnhoknaa.Ev.one v) (h3 : isTuple v = false) :
 stP 1 (.ptr b i) v s = some (.tuple [], s.put b (bxO e m)) := by
 show vu (bif Nat.beq v.size 1 && !isTuple v then stK s b i 1 v.cells else none) = _
 rw [h1, h2, h3]
 have hst : stK s b i 1 (Go.Proofs.Ytbihlgcdnhoknaa.Ev.one v) = some (s.put b (bxO e m)) := by
  unfold stK
  rw [h, hl]
  simp only [ble_true.2 (show i + 1 ≤ 6 * 1 by omega), blt_true.2 (show 6 * 1 < big by unfold big; decide), Bool.and_self, Bool.not_false, cond_true]
  unfold elemTo
  rw [show Nat.beq 1 6 = false from rfl]
  have hv0 : (Go.Proofs.Ytbihlgcdnhoknaa.Ev.one v).get 0 = some v := rfl
  simp only [Bool.false_and, cond_false, cellsTo, Tr.setC_eq, hv0, oB, Nat.add_zero, Nat.div_eq_of_lt hi, Nat.mod_eq_of_lt hi]
  rw [Tr.get_ofList]
  simp only [List.getElem?_cons_zero, oB, hset, set_one, qai ho]
  unfold bxO
  rw [hm]
 rw [hst]; rfl
theorem set6_2 (a b c d e f v : V) : (Tr.ofListFrom .nil [a, b, c, d, e, f] 0).set v 2 = Tr.ofListFrom .nil [a, b, v, d, e, f] 0 := by kernel_rfl
theorem set6_3 (a b c d e f v : V) : (Tr.ofListFrom .nil [a, b, c, d, e, f] 0).set v 3 = Tr.ofListFrom .nil [a, b, c, v, e, f] 0 := by kernel_rfl
theorem set6_4 (a b c d e f v : V) : (Tr.ofListFrom .nil [a, b, c, d, e, f] 0).set v 4 = Tr.ofListFrom .nil [a, b, c, d, v, f] 0 := by kernel_rfl
theorem set6_5 (a b c d e f v : V) : (Tr.ofListFrom .nil [a, b, c, d, e, f] 0).set v 5 = Tr.ofListFrom .nil [a, b, c, d, e, v] 0 := by kernel_rfl
end
def stt (S : St) : Option (List LE) → St
 | none => S
 | some l => S.lg l
section
variable {S : St}
theorem qfm (ho : S.on = false) (e : Nat) {v : V} (hv : OneV v) : ∃ T, (∀ m, boxK e v (stt S m) = some (.ptr S.next 0, stt T (m.map fun l => ⟨S.next, 0, big, true⟩ :: l))) ∧ Bx T S.next e [v] ∧ Grew (fun _ => False) S T ∧ T.next = S.next + 1 := by
 obtain ⟨T, h1, h2, h3, h4⟩ := qdh ho e hv
 refine ⟨T, fun m => ?_, h2, h3, h4⟩
 cases m with
 | none => exact h1
 | some l =>
  have hT : newCells S e 1 [Go.Proofs.Ytbihlgcdnhoknaa.Ev.one v] = T := by
   unfold boxK at h1
   simp only [hv.size, hv.cells, hv.tup, cond_false, oS, pM] at h1
   exact h1.2
  show boxK e v (S.lg l) = some (.ptr S.next 0, T.lg _)
  unfold boxK
  simp only [hv.size, hv.cells, hv.tup, cond_false]
  rw [newCells_lg ho, hT]
  rfl
def kvI (kv : List (Int × V)) : List (V × V) := kv.map fun p => (.int .i64 p.1, p.2)
def kvS (kv : List (List UInt8 × Int)) : List (V × V) := kv.map fun p => (sv p.1, .int .i64 p.2)
def esKV (es : List ME) : List (V × V) := es.map fun e => (e.k, e.v)
def MapOk (es : List ME) (c : Nat) (kv : List (V × V)) : Prop := esKV es = kv ∧ stampsR 0 es = true ∧ lastStamp es 0 ≤ c
def MapAt (S : St) (r : Nat) (kv : List (V × V)) : Prop := ∃ es clock, S.heap.get r = some (.map es clock) ∧ MapOk es clock kv
theorem qge : ∀ (es : List ME) (m c : Nat) (k v : V), stampsR m es = true → lastStamp es m ≤ c → stampsR m (es ++ [{ k := k, v := v, born := c }]) = true ∧ lastStamp (es ++ [{ k := k, v := v, born := c }]) m = c + 1
 | [], m, c, k, v, _, h => by
  unfold lastStamp at h
  refine ⟨?_, rfl⟩
  show (Nat.ble m c && true) = true
  rw [ble_true.2 h]; rfl
 | e :: es, m, c, k, v, h1, h2 => by
  unfold stampsR at h1
  unfold lastStamp at h2
  simp only [Bool.and_eq_true] at h1
  obtain ⟨q1, q2⟩ := qge es (e.born + 1) c k v h1.2 h2
  rw [List.cons_append]
  unfold stampsR lastStamp
  exact ⟨by rw [h1.1, q1]; rfl, q2⟩
theorem qih (k v : V) : ∀ (i : Nat) (es : List ME) (m : Nat), stampsR m (setME i k v es) = stampsR m es ∧ lastStamp (setME i k v es) m = lastStamp es m
 | _, [], _ => ⟨rfl, rfl⟩
 | 0, e :: es, m => ⟨rfl, rfl⟩
 | i + 1, e :: es, m => by
  obtain ⟨h1, h2⟩ := qih k v i es (e.born + 1)
  refine ⟨?_, h2⟩
  show (Nat.ble m e.born && stampsR (e.born + 1) (setME i k v es)) = _
  rw [h1]; rfl
theorem stampsR_less : ∀ (es : List ME) (m m' : Nat), m ≤ m' → stampsR m' es = true → stampsR m es = true ∧ lastStamp es m ≤ lastStamp es m'
 | [], m, m', h, _ => ⟨rfl, h⟩
 | e :: es, m, m', h, h2 => by
  unfold stampsR at h2 ⊢
  simp only [Bool.and_eq_true] at h2 ⊢
  exact ⟨⟨ble_true.2 (Nat.le_trans h (ble_true.1 h2.1)), h2.2⟩, Nat.le_refl _⟩
theorem qgd : ∀ (i : Nat) (es : List ME) (m : Nat), stampsR m es = true → stampsR m (dropME i es) = true ∧ lastStamp (dropME i es) m ≤ lastStamp es m
 | _, [], _, h => ⟨h, Nat.le_refl _⟩
 | 0, e :: es, m, h => by
  unfold stampsR at h
  simp only [Bool.and_eq_true] at h
  exact stampsR_less es m (e.born + 1) (Nat.le_succ_of_le (ble_true.1 h.1)) h.2
 | i + 1, e :: es, m, h => by
  unfold stampsR at h
  simp only [Bool.and_eq_true] at h
  obtain ⟨h1, h2⟩ := qgd i es (e.born + 1) h.2
  refine ⟨?_, h2⟩
  show (Nat.ble m e.born && stampsR (e.born + 1) (dropME i es)) = true
  rw [h.1, h1]; rfl
theorem MapOk.push {es : List ME} {c : Nat} {kv kv' : List (V × V)} (h : MapOk es c kv) (k v : V) (e : esKV (es ++ [{ k := k, v := v, born := c }]) = kv') : MapOk (es ++ [{ k := k, v := v, born := c }]) (c + 1) kv' :=
 let ⟨q1, q2⟩ := qge es 0 c k v h.2.1 h.2.2
 ⟨e, q1, by rw [q2]; exact Nat.le_refl _⟩
theorem MapOk.set {es : List ME} {c : Nat} {kv kv' : List (V × V)} (h : MapOk es c kv) (i : Nat) (k v : V) (e : esKV (setME i k v es) = kv') : MapOk (setME i k v es) c kv' :=
 let ⟨q1, q2⟩ := qih k v i es 0
 ⟨e, q1.trans h.2.1, by rw [q2]; exact h.2.2⟩
theorem MapOk.drop {es : List ME} {c : Nat} {kv kv' : List (V × V)} (h : MapOk es c kv) (i : Nat) (e : esKV (dropME i es) = kv') : MapOk (dropME i es) c kv' :=
 let ⟨q1, q2⟩ := qgd i es 0 h.2.1
 ⟨e, q1, Nat.le_trans q2 h.2.2⟩
theorem MapOk.new : MapOk [] 0 [] := ⟨rfl, rfl, Nat.le_refl _⟩
theorem MapAt.grew {W : Nat → Prop} {T : St} {r : Nat} {kv : List (V × V)} (h : MapAt S r kv) (hr : r < S.next) (hw : ¬ W r) (g : Grew W S T) : MapAt T r kv := by
 obtain ⟨es, c, h1, h2⟩ := h
 exact ⟨es, c, by rw [g.keep r hr hw]; exact h1, h2⟩
def lkI (a : Int) : List (Int × V) → Option V
 | [] => none
 | p :: l => if a = p.1 then some p.2 else lkI a l
def lkS (a : List UInt8) : List (List UInt8 × Int) → Option Int
 | [] => none
 | p :: l => if a = p.1 then some p.2 else lkS a l
def ixI (a : Int) : List (Int × V) → Nat
 | [] => 0
 | p :: l => if a = p.1 then 0 else ixI a l + 1
def ixS_ (a : List UInt8) : List (List UInt8 × Int) → Nat
 | [] => 0
 | p :: l => if a = p.1 then 0 else ixS_ a l + 1
theorem qf8 (a : Int) : ∀ (kv : List (Int × V)) (es : List ME) (i : Nat), esKV es = kvI kv → mfind (.int .i64 a) es i = some ((lkI a kv).map fun v => (i + ixI a kv, v))
 | [], es, i, h => by
  cases es with
  | nil => rfl
  | cons e es => simp [esKV, kvI] at h
 | p :: kv, [], i, h => by simp [esKV, kvI] at h
 | p :: kv, e :: es, i, h => by
  simp only [esKV, kvI, List.map_cons, List.cons.injEq, pM] at h
  obtain ⟨⟨h1, h2⟩, h3⟩ := h
  rw [mfind, h1]
  simp only [qaz, cond_true, qdg]
  unfold lkI ixI
  by_cases hc : a = p.1
  · rw [if_pos hc, if_pos hc, show (a == p.1) = true by simp [hc], cond_true, h2]; rfl
  · rw [if_neg hc, if_neg hc, show (a == p.1) = false from beq_false_of_ne hc, cond_false, qf8 a kv es (i + 1) h3]
    cases lkI a kv with
    | none => rfl
    | some v => simp only [Option.map_some, show i + 1 + ixI a kv = i + (ixI a kv + 1) by omega]
theorem qfa (a : List UInt8) : ∀ (kv : List (List UInt8 × Int)) (es : List ME) (i : Nat), esKV es = kvS kv → mfind (sv a) es i = some ((lkS a kv).map fun v => (i + ixS_ a kv, .int .i64 v))
 | [], es, i, h => by
  cases es with
  | nil => rfl
  | cons e es => simp [esKV, kvS] at h
 | p :: kv, [], i, h => by simp [esKV, kvS] at h
 | p :: kv, e :: es, i, h => by
  simp only [esKV, kvS, List.map_cons, List.cons.injEq, pM] at h
  obtain ⟨⟨h1, h2⟩, h3⟩ := h
  have hm : mfind (sv a) (e :: es) i = bif a == p.1 then some (some (i, e.v)) else mfind (sv a) es (i + 1) := by
   show (match e.k with | .str l' b => bif sEq a.length (pack a) l' b then some (some (i, e.v)) else mfind (sv a) es (i + 1) | _ => none) = _
   rw [h1]
   show (bif sEq a.length (pack a) p.1.length (pack p.1) then some (some (i, e.v)) else mfind (sv a) es (i + 1)) = _
   rw [sEq_eq]
  rw [hm]
  unfold lkS ixS_
  by_cases hc : a = p.1
  · rw [if_pos hc, if_pos hc, show (a == p.1) = true by simp [hc], cond_true, h2]; rfl
  · rw [if_neg hc, if_neg hc, show (a == p.1) = false from beq_false_of_ne hc, cond_false, qfa a kv es (i + 1) h3]
    cases lkS a kv with
    | none => rfl
    | some v => simp only [Option.map_some, show i + 1 + ixS_ a kv = i + (ixS_ a kv + 1) by omega]
theorem qe1 (ho : S.on = false) {r : Nat} {o : O} (h : S.heap.get r = some o) (m : Option (List LE)) : getO (stt S m) r = some (o, stt S (m.map fun l => ⟨r, 0, big, false⟩ :: l)) := by
 cases m with
 | none => exact qgo ho h
 | some l =>
  show getO (S.lg l) r = _
  unfold getO
  rw [show (S.lg l).heap.get r = some o from h]
  rfl
theorem qe5 (ho : S.on = false) (r : Nat) (o : O) (m : Option (List LE)) : setO (stt S m) r o = stt (S.put r o) (m.map fun l => ⟨r, 0, big, true⟩ :: l) := by
 cases m with
 | none => exact setO_off ho r o
 | some l => rfl
theorem und66 : und E0 66 = some (.map 3 62) := by kernel_rfl
theorem und63 : und E0 63 = some (.map 9 3) := by kernel_rfl
theorem und70 : und E0 70 = some (.map 3 4) := by kernel_rfl
theorem und3 : und E0 3 = some (.int .i64) := by kernel_rfl
theorem und9' : und E0 9 = some .string := by kernel_rfl
theorem zero62 : zeroT E0 62 = some .nilptr := by kernel_rfl
theorem zero3 : zeroT E0 3 = some (.int .i64 0) := by kernel_rfl
theorem zero4 : zeroT E0 4 = some (.bool false) := by kernel_rfl
theorem look_int (ho : S.on = false) {t et : TypeId} {z : V} (ht : und E0 t = some (.map 3 et)) (hz : zeroT E0 et = some z) {r : Nat} {kv : List (Int × V)} (h : MapAt S r (kvI kv)) (a : Int) (m : Option (List LE)) :
 lookupV E0 t (.map r) (.int .i64 a) false (stt S m) = some ((lkI a kv).getD z, stt S (m.map fun l => ⟨r, 0, big, false⟩ :: l)) := by
 obtain ⟨es, c, h1, h2, _⟩ := h
 unfold lookupV
 rw [ht, oB]
 simp only
 rw [und3, oB]
 simp only [keyOk, cond_true]
 rw [qe1 ho h1 m, oB]
 simp only
 rw [oB]
 dsimp only
 rw [qf8 a kv es 0 h2, oB]
 cases lkI a kv with
 | none => simp only [Option.map_none]; rw [hz]; rfl
 | some v => rfl
theorem look_str (ho : S.on = false) {r : Nat} {kv : List (List UInt8 × Int)} (h : MapAt S r (kvS kv)) (a : List UInt8) (m : Option (List LE)) :
 lookupV E0 63 (.map r) (sv a) true (stt S m) = some (.tuple [.int .i64 ((lkS a kv).getD 0), .bool (lkS a kv).isSome], stt S (m.map fun l => ⟨r, 0, big, false⟩ :: l)) := by
 obtain ⟨es, c, h1, h2, _⟩ := h
 unfold lookupV
 rw [und63, oB]
 simp only
 rw [und9', oB]
 simp only [sv, keyOk, cond_true]
 rw [qe1 ho h1 m, oB]
 simp only
 rw [oB]
 dsimp only
 have hm := qfa a kv es 0 h2
 unfold sv at hm
 rw [hm, oB]
 cases lkS a kv with
 | none => simp only [Option.map_none]; rw [zero3]; rfl
 | some v => rfl
theorem look_nil (a : List UInt8) (s : St) : lookupV E0 63 .nilmap (sv a) true s = some (.tuple [.int .i64 0, .bool false], s) := by
 unfold lookupV
 rw [und63, oB]
 simp only
 rw [und9', oB]
 simp only [sv, keyOk, cond_true, oB, mfind]
 rw [zero3]; rfl
def setKI (a : Int) (v : V) : List (Int × V) → List (Int × V)
 | [] => [(a, v)]
 | p :: l => if a = p.1 then (a, v) :: l else p :: setKI a v l
def setKS (a : List UInt8) (v : Int) : List (List UInt8 × Int) → List (List UInt8 × Int)
 | [] => [(a, v)]
 | p :: l => if a = p.1 then (a, v) :: l else p :: setKS a v l
def dropKI (a : Int) : List (Int × V) → List (Int × V)
 | [] => []
 | p :: l => if a = p.1 then l else p :: dropKI a l
def dropKS (a : List UInt8) : List (List UInt8 × Int) → List (List UInt8 × Int)
 | [] => []
 | p :: l => if a = p.1 then l else p :: dropKS a l
theorem setME_int (a : Int) (v : V) : ∀ (kv : List (Int × V)) (es : List ME), esKV es = kvI kv → ∀ w, lkI a kv = some w → esKV (setME (ixI a kv) (.int .i64 a) v es) = kvI (setKI a v kv)
 | [], es, h, w, hw => by simp [lkI] at hw
 | p :: kv, [], h, w, hw => by simp [esKV, kvI] at h
 | p :: kv, e :: es, h, w, hw => by
  simp only [esKV, kvI, List.map_cons, List.cons.injEq, pM] at h
  obtain ⟨⟨h1, h2⟩, h3⟩ := h
  unfold ixI setKI
  unfold lkI at hw
  by_cases hc : a = p.1
  · rw [if_pos hc, if_pos hc]
    show (V.int .i64 a, v) :: esKV es = _
    rw [show esKV es = kvI kv from h3]; rfl
  · rw [if_neg hc, if_neg hc]
    rw [if_neg hc] at hw
    unfold setME
    rw [show Nat.beq (ixI a kv + 1) 0 = false from rfl, cond_false, Nat.add_sub_cancel]
    show (e.k, e.v) :: esKV _ = (V.int .i64 p.1, p.2) :: kvI _
    rw [h1, h2, setME_int a v kv es h3 w hw]
theorem setME_str (a : List UInt8) (v : Int) : ∀ (kv : List (List UInt8 × Int)) (es : List ME), esKV es = kvS kv → ∀ w, lkS a kv = some w → esKV (setME (ixS_ a kv) (sv a) (.int .i64 v) es) = kvS (setKS a v kv)
 | [], es, h, w, hw => by simp [lkS] at hw
 | p :: kv, [], h, w, hw => by simp [esKV, kvS] at h
 | p :: kv, e :: es, h, w, hw => by
  simp only [esKV, kvS, List.map_cons, List.cons.injEq, pM] at h
  obtain ⟨⟨h1, h2⟩, h3⟩ := h
  unfold ixS_ setKS
  unfold lkS at hw
  by_cases hc : a = p.1
  · rw [if_pos hc, if_pos hc]
    show (sv a, V.int .i64 v) :: esKV es = _
    rw [show esKV es = kvS kv from h3]; rfl
  · rw [if_neg hc, if_neg hc]
    rw [if_neg hc] at hw
    unfold setME
    rw [show Nat.beq (ixS_ a kv + 1) 0 = false from rfl, cond_false, Nat.add_sub_cancel]
    show (e.k, e.v) :: esKV _ = (sv p.1, V.int .i64 p.2) :: kvS _
    rw [h1, h2, setME_str a v kv es h3 w hw]
theorem qg3 (a : Int) (v : V) : ∀ kv, lkI a kv = none → setKI a v kv = kv ++ [(a, v)]
 | [], _ => rfl
 | p :: kv, h => by
  unfold lkI at h
  unfold setKI
  by_cases hc : a = p.1
  · rw [if_pos hc] at h; cases h
  · rw [if_neg hc] at h ⊢
    rw [qg3 a v kv h]; rfl
theorem qb5 (a : List UInt8) (v : Int) : ∀ kv, lkS a kv = none → setKS a v kv = kv ++ [(a, v)]
 | [], _ => rfl
 | p :: kv, h => by
  unfold lkS at h
  unfold setKS
  by_cases hc : a = p.1
  · rw [if_pos hc] at h; cases h
  · rw [if_neg hc] at h ⊢
    rw [qb5 a v kv h]; rfl
theorem dropME_int (a : Int) : ∀ (kv : List (Int × V)) (es : List ME), esKV es = kvI kv → ∀ w, lkI a kv = some w → esKV (dropME (ixI a kv) es) = kvI (dropKI a kv)
 | [], es, h, w, hw => by simp [lkI] at hw
 | p :: kv, [], h, w, hw => by simp [esKV, kvI] at h
 | p :: kv, e :: es, h, w, hw => by
  simp only [esKV, kvI, List.map_cons, List.cons.injEq, pM] at h
  obtain ⟨⟨h1, h2⟩, h3⟩ := h
  unfold ixI dropKI
  unfold lkI at hw
  by_cases hc : a = p.1
  · rw [if_pos hc, if_pos hc]
    exact h3
  · rw [if_neg hc, if_neg hc]
    rw [if_neg hc] at hw
    unfold dropME
    rw [show Nat.beq (ixI a kv + 1) 0 = false from rfl, cond_false, Nat.add_sub_cancel]
    show (e.k, e.v) :: esKV _ = (V.int .i64 p.1, p.2) :: kvI _
    rw [h1, h2, dropME_int a kv es h3 w hw]
theorem dropME_str (a : List UInt8) : ∀ (kv : List (List UInt8 × Int)) (es : List ME), esKV es = kvS kv → ∀ w, lkS a kv = some w → esKV (dropME (ixS_ a kv) es) = kvS (dropKS a kv)
 | [], es, h, w, hw => by simp [lkS] at hw
 | p :: kv, [], h, w, hw => by simp [esKV, kvS] at h
 | p :: kv, e :: es, h, w, hw => by
  simp only [esKV, kvS, List.map_cons, List.cons.injEq, pM] at h
  obtain ⟨⟨h1, h2⟩, h3⟩ := h
  unfold ixS_ dropKS
  unfold lkS at hw
  by_cases hc : a = p.1
  · rw [if_pos hc, if_pos hc]
    exact h3
  · rw [if_neg hc, if_neg hc]
    rw [if_neg hc] at hw
    unfold dropME
    rw [show Nat.beq (ixS_ a kv + 1) 0 = false from rfl, cond_false, Nat.add_sub_cancel]
    show (e.k, e.v) :: esKV _ = (sv p.1, V.int .i64 p.2) :: kvS _
    rw [h1, h2, dropME_str a kv es h3 w hw]
theorem qc9 (T : St) (m : Option (List LE)) (f g : List LE → List LE) : stt T ((m.map f).map g) = stt T (m.map fun l => g (f l)) := by cases m <;> rfl
theorem upd_int (ho : S.on = false) {t et : TypeId} (ht : und E0 t = some (.map 3 et)) {r : Nat} {kv : List (Int × V)} (h : MapAt S r (kvI kv)) (a : Int) (v : V) : ∃ es c, MapOk es c (kvI (setKI a v kv)) ∧ ∀ m, updateV E0 t (.map r) (.int .i64 a) v (stt S m) = some (stt (S.put r (.map es c)) (m.map fun l => ⟨r, 0, big, true⟩ :: ⟨r, 0, big, false⟩ :: l)) := by
 obtain ⟨es, c, h1, hok⟩ := h
 have h2 := hok.1
 have hu : ∀ m, updateV E0 t (.map r) (.int .i64 a) v (stt S m) = (mfind (.int .i64 a) es 0).bind fun
  | some (i, _) => some (setO (stt S (m.map fun l => ⟨r, 0, big, false⟩ :: l)) r (.map (setME i (.int .i64 a) v es) c))
  | none => some (setO (stt S (m.map fun l => ⟨r, 0, big, false⟩ :: l)) r (.map (es ++ [{ k := .int .i64 a, v := v, born := c }]) (c + 1))) := fun m => by
  unfold updateV
  rw [ht, oB]
  simp only
  rw [und3, oB]
  simp only [keyOk, cond_true]
  rw [qe1 ho h1 m, oB]
  rfl
 rw [qf8 a kv es 0 h2] at hu
 cases hl : lkI a kv with
 | none =>
  refine ⟨es ++ [{ k := .int .i64 a, v := v, born := c }], c + 1, hok.push _ _ ?_, fun m => ?_⟩
  · rw [qg3 a v kv hl]
    unfold esKV kvI at h2 ⊢
    rw [List.map_append, List.map_append, h2]; rfl
  · rw [hu m, hl]
    show some (setO _ _ _) = _
    rw [qe5 ho, qc9]
 | some w =>
  refine ⟨setME (ixI a kv) (.int .i64 a) v es, c, hok.set _ _ _ (setME_int a v kv es h2 w hl), fun m => ?_⟩
  rw [hu m, hl]
  show some (setO _ _ (.map (setME (0 + ixI a kv) _ _ _) _)) = _
  rw [qe5 ho, Nat.zero_add, qc9]
theorem upd_str (ho : S.on = false) {r : Nat} {kv : List (List UInt8 × Int)} (h : MapAt S r (kvS kv)) (a : List UInt8) (v : Int) : ∃ es c, MapOk es c (kvS (setKS a v kv)) ∧ ∀ m, updateV E0 63 (.map r) (sv a) (.int .i64 v) (stt S m) = some (stt (S.put r (.map es c)) (m.map fun l => ⟨r, 0, big, true⟩ :: ⟨r, 0, big, false⟩ :: l)) := by
 obtain ⟨es, c, h1, hok⟩ := h
 have h2 := hok.1
 have hu : ∀ m, updateV E0 63 (.map r) (sv a) (.int .i64 v) (stt S m) = (mfind (sv a) es 0).bind fun
  | some (i, _) => some (setO (stt S (m.map fun l => ⟨r, 0, big, false⟩ :: l)) r (.map (setME i (sv a) (.int .i64 v) es) c))
  | none => some (setO (stt S (m.map fun l => ⟨r, 0, big, false⟩ :: l)) r (.map (es ++ [{ k := sv a, v := .int .i64 v, born := c }]) (c + 1))) := fun m => by
  unfold updateV
  rw [und63, oB]
  simp only
  rw [und9', oB]
  simp only [sv, keyOk, cond_true]
  rw [qe1 ho h1 m, oB]
  rfl
 rw [qfa a kv es 0 h2] at hu
 cases hl : lkS a kv with
 | none =>
  refine ⟨es ++ [{ k := sv a, v := .int .i64 v, born := c }], c + 1, hok.push _ _ ?_, fun m => ?_⟩
  · rw [qb5 a v kv hl]
    unfold esKV kvS at h2 ⊢
    rw [List.map_append, List.map_append, h2]; rfl
  · rw [hu m, hl]
    show some (setO _ _ _) = _
    rw [qe5 ho, qc9]
 | some w =>
  refine ⟨setME (ixS_ a kv) (sv a) (.int .i64 v) es, c, hok.set _ _ _ (setME_str a v kv es h2 w hl), fun m => ?_⟩
  rw [hu m, hl]
  show some (setO _ _ (.map (setME (0 + ixS_ a kv) _ _ _) _)) = _
  rw [qe5 ho, Nat.zero_add, qc9]
theorem del_str (ho : S.on = false) {r : Nat} {kv : List (List UInt8 × Int)} (h : MapAt S r (kvS kv)) (a : List UInt8) {w : Int} (hl : lkS a kv = some w) : ∃ es c, MapOk es c (kvS (dropKS a kv)) ∧ ∀ m, deleteV E0 63 (.map r) (sv a) (stt S m) = some (stt (S.put r (.map es c)) (m.map fun l => ⟨r, 0, big, true⟩ :: ⟨r, 0, big, false⟩ :: l)) := by
 obtain ⟨es, c, h1, hok⟩ := h
 have h2 := hok.1
 refine ⟨dropME (ixS_ a kv) es, c, hok.drop _ (dropME_str a kv es h2 w hl), fun m => ?_⟩
 unfold deleteV
 rw [und63, oB]
 simp only
 rw [und9', oB]
 simp only [sv, keyOk, cond_true]
 rw [qe1 ho h1 m, oB]
 simp only
 have hm := qfa a kv es 0 h2
 unfold sv at hm
 rw [hm, hl]
 show some (setO _ _ (.map (dropME (0 + ixS_ a kv) _) _)) = _
 rw [qe5 ho, Nat.zero_add, qc9]
theorem del_int (ho : S.on = false) {t et : TypeId} (ht : und E0 t = some (.map 3 et)) {r : Nat} {kv : List (Int × V)} (h : MapAt S r (kvI kv)) (a : Int) {w : V} (hl : lkI a kv = some w) : ∃ es c, MapOk es c (kvI (dropKI a kv)) ∧ ∀ m, deleteV E0 t (.map r) (.int .i64 a) (stt S m) = some (stt (S.put r (.map es c)) (m.map fun l => ⟨r, 0, big, true⟩ :: ⟨r, 0, big, false⟩ :: l)) := by
 obtain ⟨es, c, h1, hok⟩ := h
 have h2 := hok.1
 refine ⟨dropME (ixI a kv) es, c, hok.drop _ (dropME_int a kv es h2 w hl), fun m => ?_⟩
 unfold deleteV
 rw [ht, oB]
 simp only
 rw [und3, oB]
 simp only [keyOk, cond_true]
 rw [qe1 ho h1 m, oB]
 simp only
 rw [qf8 a kv es 0 h2, hl]
 show some (setO _ _ (.map (dropME (0 + ixI a kv) _) _)) = _
 rw [qe5 ho, Nat.zero_add, qc9]
theorem qd1 (r : Nat) {es : List ME} {c : Nat} {kv : List (V × V)} (h : MapOk es c kv) : MapAt (S.put r (.map es c)) r kv := ⟨es, c, by rw [qau, if_pos rfl], h⟩
theorem lnMap_of (ho : S.on = false) {r : Nat} {kv : List (V × V)} (h : MapAt S r kv) : lnMap (.map r) S = some (.int .i64 (kv.length : Int), S) := by
 obtain ⟨es, c, h1, hok⟩ := h
 have h2 := hok.1
 have hl : es.length = kv.length := by rw [← h2]; exact (List.length_map ..).symm
 unfold lnMap
 simp only
 rw [qgo ho h1]
 simp only [oB, hl]
 rfl
end
end Go.Proofs.Ytbihlgcdnhoknaa.W
