/-
  WHAT THE FUNCTIONS COME TO: each is read by the evaluator, printed, and told as a function of data, part 5 of 9 (no condition).
-/
import Derived.Test.YthmkdoaaciamlaaW4
namespace Go.Proofs.Ythmkdoaaciamlaa.W
open Go.Proofs.Ythmkdoaaciamlaa.Ev
theorem kn66 {K : FuncId → Option KF} (hK : KnOk Try.prog E0 K) (h74 : K 74 = some kfAny) : KnWell Try.prog E0 66 (kfText gName) :=
 knText hK (fn := Try.f66) (c := C66) (d := B66) gName (fun _ _ => .bool _) (by kernel_rfl) (by kernel_rfl) (annot_isOf C66 _ (by kernel_rfl)) 1 fun s S hs ho => by
  refine ⟨S, (?_ : F66 (ev E0 K 1) rounds (sv s) S = _), Grew.refl _ _⟩
  have h := kfAny_run s hs S
  rw [F66_eq, lnStr_sv, oB, binV_ii, intsV_geq, oB, guardV_t, oB, gName, nameOk]
  rw [show decide ((1 : Int) ≤ (s.length : Int)) = decide (1 ≤ s.length) by rw [decide_eq_decide]; omega]
  cases decide (1 ≤ s.length) with
  | false => rfl
  | true =>
   simp only [cond_true, lnStr_sv, oB, binV_ii, intsV_leq, pickV, guardV_t, Bool.true_and]
   rw [show decide ((s.length : Int) ≤ 56) = decide (s.length ≤ 56) by rw [decide_eq_decide]; omega]
   cases decide (s.length ≤ 56) with
   | false => rfl
   | true =>
    simp only [cond_true, oB, Bool.true_and]
    rw [show (sv [47, 0]) = sv bad2 from rfl, ev_known h74, h, callP_ret]
    simp only [unV, oB, pickV, guardV_t, cond_true]
    cases s.any badByte with
    | true => rfl
    | false =>
     simp only [Bool.not_false, cond_true, oB, binV_ss, strOp_neq, pickV, guardV_t, Bool.true_and]
     cases (s == [46]) with
     | true => rfl
     | false =>
      simp only [Bool.not_false, cond_true, oB, binV_ss, strOp_neq, pickV, guardV_t, Bool.true_and]
end Go.Proofs.Ythmkdoaaciamlaa.W
namespace Go.Proofs.Ythmkdoaaciamlaa.W
open Go.Proofs.Ythmkdoaaciamlaa.Ev
theorem L65_spec (self : EV) (N : Nat) (nk : Ac → St → Rs) (ek : Nat → Ac → St → Rs) (x : Nd) (b : Nat) (ok : NdOk x) (h66 : ∀ y ∈ x.kids, ∀ s, self.f 66 [sv y.name] s = some (.ret (gName y.name), s))
 (h36 : ∀ y ∈ x.kids, ∀ s, self.f 36 [encN y] s = some (.ret (gMay y), s)) :
 ∀ (r : List Nd) (i n : Nat) (S : St), x.kids.drop i = r → r.length < n → NodeAt S b x → b < S.next →
 ∃ S', L65_7 self N nk ek n (.ptr b 0) (kidsV (encL x.kids)) (.int .i64 (x.kids.length : Int)) (.int .i64 (i : Int)) S = (bif mayL (prevN x.kids i) r then ek 0 (fr 38 []) S' else some (.ret (.bool false), S')) ∧ Grew (fun _ => False) S S'
 | r, i, 0, S, _, hn, _, _ => by omega
 | [], i, n + 1, S, hi, hn, hx, hb => by
  refine ⟨S, ?_, Grew.refl _ _⟩
  rw [L65_7_eq, binV_ii, intsV_lss, dec_ge (drop_end hi), mayL]
  rfl
 | y :: r, i, n + 1, S, hi, hn, hx, hb => by
  obtain ⟨hlt, hy, hr, hmem⟩ := drop_at hi
  have hfew := ok.few
  obtain ⟨S1, k1, k2, k3, k4⟩ := node_new hx.on (Tr.ofListFrom .nil [(sv []), (.int .i64 0), (.bool false), (sv []), .nilslice] 0) y
  have hx1 := hx.grew hb (fun h => h) k3
  rw [L65_7_eq, mayL, binV_ii, intsV_lss, dec_lt hlt]
  simp only [oB, ifK_bool, cond_true]
  rw [ixP_kids x.kids i hlt, hy]
  simp only [oB, ldA_kid, nwP_fst]
  rw [k1]
  simp only [oB, faP_ptr, Nat.zero_add, k2.o0, onS_rd, h66 y hmem, callD_ret, gName, unV]
  cases hnm : nameOk y.name with
  | false =>
   simp only [guardV_f, guardV_t, guardV_no, Bool.not_false, Bool.not_true, oB, cond_true, cond_false, callD_ret, pickV, onS_onS]
   rw [endP_rd]
   · refine ⟨S1, ?_, k3⟩
     simp only [relog_onS k2.on, ifK_bool, cond_true, Bool.false_and, cond_false]
   · rfl
  | true =>
   simp only [guardV_f, guardV_t, guardV_no, Bool.not_false, Bool.not_true, oB, cond_true, cond_false, k2.oA, onS_onS, onS_rd, h36 y hmem, callD_ret, gMay, unV, pickV]
   cases hmy : mayN y with
   | false =>
    simp only [guardV_f, guardV_t, guardV_no, Bool.not_false, Bool.not_true, oB, cond_true, cond_false, pickV, onS_onS, onS_rd]
    rw [endP_rd]
    · refine ⟨S1, ?_, k3⟩
      simp only [relog_onS k2.on, relog_rd k2.on, ifK_bool, cond_true, Bool.false_and, Bool.and_false, cond_false]
    · rfl
   | true =>
    simp only [guardV_f, guardV_t, guardV_no, Bool.not_false, Bool.not_true, oB, cond_true, cond_false, pickV, binV_ii, intsV_gtr, Bool.and_self, Bool.true_and, onS_onS, onS_rd]
    cases i with
    | zero =>
     simp only [show decide ((0 : Int) < ((0 : Nat) : Int)) = false from rfl, cond_false, oB, onS_onS, onS_rd, guardV_t, guardV_f]
     rw [endP_rd]
     · obtain ⟨S', h1, h2⟩ := L65_spec self N nk ek x b ok h66 h36 r (0 + 1) n S1 hr (by simp at hn; omega) hx1 (by omega)
       refine ⟨S', ?_, k3.trans h2⟩
       simp only [relog_onS k2.on, relog_rd k2.on, ifK_bool, cond_false, oB, binV_ii, intsV_add, wrap_succ (show 0 < 9223372036854775807 by omega), prevN, prevLess, Bool.true_and]
       rw [h1]
       simp only [prevN, List.getElem?_eq_getElem hlt, hy, Option.map_some]
     · rfl
    | succ j =>
     have hj : j < x.kids.length := by omega
     simp only [show decide ((0 : Int) < ((j + 1 : Nat) : Int)) = true by simp, cond_true, oB, guardV_t, guardV_f, hx1.o4, onS_onS, onS_rd, binV_ii, intsV_sub]
     rw [show ((j + 1 : Nat) : Int) - 1 = (j : Int) by omega, wrap_i64 (by omega) (by omega)]
     simp only [oB, ixP_kids x.kids j hj, faP_kid, onS_rd, ld1_csv, k2.o0, onS_onS, binV_ss, strOp_geq]
     rw [endP_rd]
     · cases hbl : Op.bytesLess x.kids[j].name y.name with
       | false =>
        refine ⟨S1, ?_, k3⟩
        simp only [relog_onS k2.on, relog_rd k2.on, ifK_bool, prevN, prevLess, List.getElem?_eq_getElem hj, Option.map_some, hbl, Bool.not_false, cond_true, Bool.false_and, cond_false]
       | true =>
        obtain ⟨S', h1, h2⟩ := L65_spec self N nk ek x b ok h66 h36 r (j + 1 + 1) n S1 hr (by simp at hn; omega) hx1 (by omega)
        refine ⟨S', ?_, k3.trans h2⟩
        simp only [relog_onS k2.on, relog_rd k2.on, ifK_bool, prevN, prevLess, List.getElem?_eq_getElem hj, Option.map_some, hbl, Bool.not_true, cond_false, Bool.true_and, binV_ii, intsV_add, wrap_succ (show j + 1 < 9223372036854775807 by omega), oB]
        rw [h1]
        simp only [prevN, List.getElem?_eq_getElem hlt, hy, Option.map_some]
     · rfl
section
variable {self : EV} {N : Nat} {x : Nd} {b : Nat} {S : St}
theorem isEmpty_dec (l : List Nd) : decide ((l.length : Int) = 0) = l.isEmpty := by
 cases l with
 | nil => rfl
 | cons y l => simp; omega
theorem F59_spec (hx : NodeAt S b x) : F59 self N (.ptr b 0) S = some (.ret (.bool x.kids.isEmpty), S) := by
 rw [F59_eq]
 simp only [faP_ptr, Nat.zero_add, oB, hx.f4, lnS_kids, binV_ii, intsV_eql, isEmpty_dec]
theorem F60_spec (hx : NodeAt S b x) : F60 self N (.ptr b 0) S = some (.ret (.bool (!x.exec)), S) := by
 rw [F60_eq]
 simp only [faP_ptr, Nat.zero_add, oB, hx.f2, unV]
theorem F64_spec (hx : NodeAt S b x) : F64 self N (.ptr b 0) S = some (.ret (.bool (x.data == [])), S) := by
 rw [F64_eq]
 simp only [faP_ptr, Nat.zero_add, oB, hx.f3, binV_ss, strOp_eql]
def dataOk (d : List UInt8) : Bool := decide (1 ≤ d.length) && decide (d.length ≤ 255) && !(d.any (· == 0))
theorem ixB_none (d : List UInt8) (c : UInt8) : decide (ixB d c < 0) = !(d.any (· == c)) := by
 unfold ixB
 cases h : d.findIdx? (fun x => x == c) with
 | none =>
  rw [List.findIdx?_eq_none_iff] at h
  have : d.any (fun x => x == c) = false := by
   rw [List.any_eq_false]
   intro x hx
   rw [h x hx]; simp
  rw [this]; rfl
 | some j =>
  have : d.any (fun x => x == c) = true := by
   rw [List.any_eq_true]
   rw [List.findIdx?_eq_some_iff_getElem] at h
   obtain ⟨h1, h2, _⟩ := h
   exact ⟨_, List.getElem_mem h1, h2⟩
  rw [this]
  simp
theorem F62_spec (hx : NodeAt S b x) (h63 : ∀ s, self.f 63 [sv x.data, .int .u8 0] s = some (.ret (.int .i64 (ixB x.data 0)), s)) : F62 self N (.ptr b 0) S = some (.ret (.bool (dataOk x.data)), S) := by
 rw [F62_eq]
 simp only [faP_ptr, Nat.zero_add, oB, hx.f3, lnStr_sv, binV_ii, intsV_geq, guardV_t]
 unfold dataOk
 rw [show decide ((1 : Int) ≤ (x.data.length : Int)) = decide (1 ≤ x.data.length) by rw [decide_eq_decide]; omega]
 cases decide (1 ≤ x.data.length) with
 | false => rfl
 | true =>
  simp only [cond_true, oB, hx.f3, lnStr_sv, binV_ii, intsV_leq, guardV_t, pickV, Bool.true_and]
  rw [show decide ((x.data.length : Int) ≤ 255) = decide (x.data.length ≤ 255) by rw [decide_eq_decide]; omega]
  cases decide (x.data.length ≤ 255) with
  | false => rfl
  | true =>
   simp only [cond_true, oB, hx.f3, h63, callP_ret, binV_ii, intsV_lss, ixB_none, guardV_t, pickV, Bool.true_and]
end
theorem F65_spec (self : EV) (x : Nd) (b : Nat) (ok : NdOk x) (h66 : ∀ y ∈ x.kids, ∀ s, self.f 66 [sv y.name] s = some (.ret (gName y.name), s))
 (h36 : ∀ y ∈ x.kids, ∀ s, self.f 36 [encN y] s = some (.ret (gMay y), s)) (S : St) (hx : NodeAt S b x) (hb : b < S.next) :
 ∃ S', F65 self rounds (.ptr b 0) S = some (.ret (.bool (mayL none x.kids)), S') ∧ Grew (fun _ => False) S S' := by
 obtain ⟨S', h1, h2⟩ := L65_spec self rounds (R65_1 self rounds (finN E0 self Try.f65) noEx) (exB 0 (R65_1 self rounds (finN E0 self Try.f65) noEx) noEx) x b ok h66 h36 x.kids 0 rounds S rfl (by have := ok.few; unfold rounds; omega) hx hb
 refine ⟨S', ?_, h2⟩
 rw [F65_eq, faP_ptr, oB, Nat.zero_add, hx.f4, oB, lnS_kids, oB, show (V.int .i64 0) = .int .i64 ((0 : Nat) : Int) from rfl, h1, show prevN x.kids 0 = none from rfl]
 cases mayL none x.kids with
 | true => rw [cond_true, exB_same, R65_1_eq]
 | false => rfl
theorem bsP_three (s : St) (ho : s.on = false) (e : Nat) (z a b c : V) (ha : a.size = 1 ∧ isTuple a = false ∧ a.cells = one a) (hb : b.size = 1 ∧ isTuple b = false ∧ b.cells = one b) (hc : c.size = 1 ∧ isTuple c = false ∧ c.cells = one c) :
 ∃ t, bsP e 1 3 (one z) [(0, a), (1, b), (2, c)] s = some (.slice s.next 0 3 3, t) ∧ RowAt t s.next e 1 [one a, one b, one c] ∧ Grew (fun _ => False) s t ∧ t.next = s.next + 1 := by
 refine ⟨nw s (.cells e 1 3 false ((((Tr.tab 3 3 fun _ => one z).set (one a) 0).set (one b) 1).set (one c) 2)), ?_, ?_, grew_nw ho _ _, rfl⟩
 · unfold bsP fillE fillE fillE fillE
   rw [ha.1, ha.2.1, ha.2.2, hb.1, hb.2.1, hb.2.2, hc.1, hc.2.1, hc.2.2]
   simp only [Nat.beq_refl, Bool.not_false, Bool.and_true, show Nat.blt 0 3 = true from rfl, show Nat.blt 1 3 = true from rfl, show Nat.blt 2 3 = true from rfl, cond_true, Tr.setC_eq, oB]
 · refine rowAt_nw ho (by omega) rfl (by unfold big; omega) fun i t h => ?_
   simp only [Tr.get_set]
   match i, h with
   | 0, h => simpa using h
   | 1, h => simpa using h
   | 2, h => simpa using h
   | i + 3, h => simp at h
def Ans (self : EV) (b : Nat) (x : Nd) (f : FuncId) (v : Bool) : Prop := ∀ S, NodeAt S b x → b < S.next → ∃ S', callK E0 self (.fn (.func f) [] [.ptr b 0]) [] S = some (.ret (.bool v), S') ∧ Grew (fun _ => False) S S'
theorem callK_fn {E : Env} {self : EV} {f : FuncId} (h : E.ext.get f = none) (hb : hasBody E f = true) (x y args : List V) (S : St) : callK E self (.fn (.func f) x y) args S = self.f f (x ++ args ++ y) S := by
 show (match E.ext.get f with | some k => _ | none => _) = _
 rw [h]
 show (bif hasBody E f then self.f f (x ++ args ++ y) S else none) = _
 rw [hb]; rfl
theorem L75_step (self : EV) (N : Nat) (nk : Ac → St → Rs) (ek : Nat → Ac → St → Rs) (n i : Nat) (hi : i < 3) (b r : Nat) (x : Nd) (l : List (Tr V)) (fs : FuncId) (v : Bool) (hl : l.length = 3) (hf : l[i]? = some (one (.fn (.func fs) [] [.ptr b 0])))
 (h72 : ∀ S, NodeAt S b x → b < S.next → ∃ S', callK E0 self (.fn (.func 72) [] []) [.fn (.func fs) [] [.ptr b 0]] S = some (.ret (.bool (!v)), S') ∧ Grew (fun _ => False) S S')
 (S : St) (hx : NodeAt S b x) (hb : b < S.next) (hrow : RowAt S r 29 1 l) :
 ∃ S', L75_6 self N nk ek (n + 1) (.slice r 0 3 3) (.fn (.func 72) [] []) (.int .i64 3) (.int .i64 (i : Int)) S = (bif v then L75_6 self N nk ek n (.slice r 0 3 3) (.fn (.func 72) [] []) (.int .i64 3) (.int .i64 ((i + 1 : Nat) : Int)) S' else some (.ret (.int .i64 (i : Int)), S')) ∧ Grew (fun _ => False) S S' := by
 obtain ⟨S', h1, h2⟩ := h72 S hx hb
 refine ⟨S', ?_, h2⟩
 have hix : ixP 1 (.slice r 0 3 3) (.int .i64 (i : Int)) = some (.ptr r i) := by
  show (bif Nat.blt i 3 then some (V.ptr r (0 + i * 1)) else none) = _
  rw [blt_true.2 hi, Nat.zero_add, Nat.mul_one]; rfl
 rw [L75_6_eq, binV_ii, intsV_lss, show decide ((i : Int) < 3) = true by simp; omega, oB, ifK_bool, cond_true, hix, oB, ld1_ptr, hrow.ld1 hx.on hf, oB]
 dsimp only
 rw [h1, callP_ret, ifK_bool]
 cases v with
 | true => rw [Bool.not_true, cond_false, cond_true, binV_ii, intsV_add, wrap_succ (by omega), oB]
 | false => rfl
end Go.Proofs.Ythmkdoaaciamlaa.W
namespace Go.Proofs.Ythmkdoaaciamlaa.W
open Go.Proofs.Ythmkdoaaciamlaa.Ev
theorem body59 : E0.ext.get 59 = none ∧ hasBody E0 59 = true := ⟨by kernel_rfl, by kernel_rfl⟩
theorem body60 : E0.ext.get 60 = none ∧ hasBody E0 60 = true := ⟨by kernel_rfl, by kernel_rfl⟩
theorem body62 : E0.ext.get 62 = none ∧ hasBody E0 62 = true := ⟨by kernel_rfl, by kernel_rfl⟩
theorem body64 : E0.ext.get 64 = none ∧ hasBody E0 64 = true := ⟨by kernel_rfl, by kernel_rfl⟩
theorem body65 : E0.ext.get 65 = none ∧ hasBody E0 65 = true := ⟨by kernel_rfl, by kernel_rfl⟩
theorem body72 : E0.ext.get 72 = none ∧ hasBody E0 72 = true := ⟨by kernel_rfl, by kernel_rfl⟩
section
variable {K : FuncId → Option KF}
theorem call72 (h : K 72 = none) (n : Nat) {b : Nat} {x : Nd} {f : FuncId} {v : Bool} (ha : Ans (ev E0 K n) b x f v) (S : St) (hx : NodeAt S b x) (hb : b < S.next) :
 ∃ S', callK E0 (ev E0 K (n + 1)) (.fn (.func 72) [] []) [.fn (.func f) [] [.ptr b 0]] S = some (.ret (.bool (!v)), S') ∧ Grew (fun _ => False) S S' := by
 obtain ⟨S', h1, h2⟩ := ha S hx hb
 refine ⟨S', ?_, h2⟩
 rw [callK_fn body72.1 body72.2, List.nil_append, List.append_nil]
 exact ev_read (c := C72) (d := B72) (by kernel_rfl) (by kernel_rfl) (annot_isOf C72 _ (by kernel_rfl)) h (show F72 (ev E0 K n) rounds _ S = _ by rw [F72_eq, h1]; rfl)
def first3 (v0 v1 v2 : Bool) : Int := if v0 then if v1 then if v2 then -1 else 2 else 1 else 0
theorem F75_spec (h72 : K 72 = none) (n : Nat) {b r : Nat} {x : Nd} {f0 f1 f2 : FuncId} {v0 v1 v2 : Bool} (a0 : Ans (ev E0 K n) b x f0 v0) (a1 : Ans (ev E0 K n) b x f1 v1) (a2 : Ans (ev E0 K n) b x f2 v2) (m : Nat) (S : St) (hx : NodeAt S b x) (hb : b < S.next) (hr : r < S.next)
 (hrow : RowAt S r 29 1 [one (.fn (.func f0) [] [.ptr b 0]), one (.fn (.func f1) [] [.ptr b 0]), one (.fn (.func f2) [] [.ptr b 0])]) :
 ∃ S', F75 (ev E0 K (n + 1)) (m + 4) (.slice r 0 3 3) (.fn (.func 72) [] []) S = some (.ret (.int .i64 (first3 v0 v1 v2)), S') ∧ Grew (fun _ => False) S S' := by
 rw [F75_eq, lnS_slice, oB]
 generalize hnk : R75_1 (ev E0 K (n + 1)) (m + 4) (finN E0 (ev E0 K (n + 1)) Try.f75) noEx = nk
 obtain ⟨S1, s1, g1⟩ := L75_step (ev E0 K (n + 1)) (m + 4) nk (exB 0 nk noEx) (m + 3) 0 (by decide) b r x _ f0 v0 rfl rfl (fun S => call72 h72 n a0 S) S hx hb hrow
 rw [show (V.int .i64 ((3 : Nat) : Int)) = .int .i64 3 from rfl, show (V.int .i64 0) = .int .i64 ((0 : Nat) : Int) from rfl, s1]
 unfold first3
 cases v0 with
 | false => exact ⟨S1, rfl, g1⟩
 | true =>
 have hx1 := hx.grew hb (fun h => h) g1
 have hb1 := Nat.lt_of_lt_of_le hb g1.next
 have hr1 := Nat.lt_of_lt_of_le hr g1.next
 have hrow1 := hrow.grew hr (fun h => h) g1
 obtain ⟨S2, s2, g2⟩ := L75_step (ev E0 K (n + 1)) (m + 4) nk (exB 0 nk noEx) (m + 2) 1 (by decide) b r x _ f1 v1 rfl rfl (fun S => call72 h72 n a1 S) S1 hx1 hb1 hrow1
 rw [cond_true, show 0 + 1 = 1 from rfl, s2]
 cases v1 with
 | false => exact ⟨S2, rfl, g1.trans g2⟩
 | true =>
 have hx2 := hx1.grew hb1 (fun h => h) g2
 have hb2 := Nat.lt_of_lt_of_le hb1 g2.next
 have hrow2 := hrow1.grew hr1 (fun h => h) g2
 obtain ⟨S3, s3, g3⟩ := L75_step (ev E0 K (n + 1)) (m + 4) nk (exB 0 nk noEx) (m + 1) 2 (by decide) b r x _ f2 v2 rfl rfl (fun S => call72 h72 n a2 S) S2 hx2 hb2 hrow2
 rw [cond_true, show 1 + 1 = 2 from rfl, s3]
 cases v2 with
 | false => exact ⟨S3, rfl, g1.trans (g2.trans g3)⟩
 | true =>
 refine ⟨S3, ?_, g1.trans (g2.trans g3)⟩
 rw [cond_true, show 2 + 1 = 3 from rfl, L75_6_eq, binV_ii, intsV_lss, show decide (((3 : Nat) : Int) < 3) = false by decide, oB, ifK_bool, cond_false, exB_same, ← hnk, R75_1_eq]
 rfl
theorem first3_all (v0 v1 v2 : Bool) : (!decide (0 ≤ first3 v0 v1 v2)) = (v0 && v1 && v2) := by cases v0 <;> cases v1 <;> cases v2 <;> rfl
theorem all3 (h61 : K 61 = none) (h71 : K 71 = none) (h72 : K 72 = none) (h75 : K 75 = none) (n : Nat) {b r : Nat} {x : Nd} {f0 f1 f2 : FuncId} {v0 v1 v2 : Bool} (a0 : Ans (ev E0 K n) b x f0 v0) (a1 : Ans (ev E0 K n) b x f1 v1) (a2 : Ans (ev E0 K n) b x f2 v2) (S : St) (hx : NodeAt S b x) (hb : b < S.next) (hr : r < S.next)
 (hrow : RowAt S r 29 1 [one (.fn (.func f0) [] [.ptr b 0]), one (.fn (.func f1) [] [.ptr b 0]), one (.fn (.func f2) [] [.ptr b 0])]) :
 ∃ S', (ev E0 K (n + 4)).f 61 [.slice r 0 3 3] S = some (.ret (.bool (v0 && v1 && v2)), S') ∧ Grew (fun _ => False) S S' := by
 obtain ⟨S', h1, h2⟩ := F75_spec h72 n a0 a1 a2 (rounds - 4) S hx hb hr hrow
 rw [show rounds - 4 + 4 = rounds by unfold rounds; omega] at h1
 have e75 := ev_read (c := C75) (d := B75) (by kernel_rfl) (by kernel_rfl) (annot_isOf C75 _ (by kernel_rfl)) h75 h1
 have h71' : F71 (ev E0 K (n + 2)) rounds (.slice r 0 3 3) (.fn (.func 72) [] []) S = some (.ret (.bool (decide (0 ≤ first3 v0 v1 v2))), S') := by
  rw [F71_eq, e75, callP_ret, binV_ii, intsV_geq]
  rfl
 have e71 := ev_read (c := C71) (d := B71) (by kernel_rfl) (by kernel_rfl) (annot_isOf C71 _ (by kernel_rfl)) h71 h71'
 have h61' : F61 (ev E0 K (n + 3)) rounds (.slice r 0 3 3) S = some (.ret (.bool (v0 && v1 && v2)), S') := by
  rw [F61_eq, e71, callP_ret, ← first3_all]
  rfl
 exact ⟨S', ev_read (c := C61) (d := B61) (by kernel_rfl) (by kernel_rfl) (annot_isOf C61 _ (by kernel_rfl)) h61 h61', h2⟩
theorem ans59 (h : K 59 = none) (n : Nat) (b : Nat) (x : Nd) : Ans (ev E0 K (n + 1)) b x 59 x.kids.isEmpty := fun S hx hb => by
 refine ⟨S, ?_, Grew.refl _ _⟩
 rw [callK_fn body59.1 body59.2]
 exact ev_read (c := C59) (d := B59) (by kernel_rfl) (by kernel_rfl) (annot_isOf C59 _ (by kernel_rfl)) h (F59_spec (self := ev E0 K n) (N := rounds) hx)
theorem ans60 (h : K 60 = none) (n : Nat) (b : Nat) (x : Nd) : Ans (ev E0 K (n + 1)) b x 60 (!x.exec) := fun S hx hb => by
 refine ⟨S, ?_, Grew.refl _ _⟩
 rw [callK_fn body60.1 body60.2]
 exact ev_read (c := C60) (d := B60) (by kernel_rfl) (by kernel_rfl) (annot_isOf C60 _ (by kernel_rfl)) h (F60_spec (self := ev E0 K n) (N := rounds) hx)
theorem ans64 (h : K 64 = none) (n : Nat) (b : Nat) (x : Nd) : Ans (ev E0 K (n + 1)) b x 64 (x.data == []) := fun S hx hb => by
 refine ⟨S, ?_, Grew.refl _ _⟩
 rw [callK_fn body64.1 body64.2]
 exact ev_read (c := C64) (d := B64) (by kernel_rfl) (by kernel_rfl) (annot_isOf C64 _ (by kernel_rfl)) h (F64_spec (self := ev E0 K n) (N := rounds) hx)
theorem ans62 (h : K 62 = none) (h63 : K 63 = some kfIndexByte) (n : Nat) (b : Nat) (x : Nd) : Ans (ev E0 K (n + 2)) b x 62 (dataOk x.data) := fun S hx hb => by
 refine ⟨S, ?_, Grew.refl _ _⟩
 rw [callK_fn body62.1 body62.2]
 exact ev_read (c := C62) (d := B62) (by kernel_rfl) (by kernel_rfl) (annot_isOf C62 _ (by kernel_rfl)) h (F62_spec (self := ev E0 K (n + 1)) (N := rounds) hx fun s => by
  rw [ev_known h63]
  exact kfIndexByte_run x.data 0 s)
theorem ans65 (h : K 65 = none) (h66 : K 66 = some (kfText gName)) (n : Nat) (b : Nat) (x : Nd) (ok : x.ok) (h36 : ∀ y s m, y ∈ x.kids → (ev E0 K (m + 1)).f 36 [encN y] s = some (.ret (gMay y), s)) : Ans (ev E0 K (n + 2)) b x 65 (mayL none x.kids) := fun S hx hb => by
 obtain ⟨S', h1, h2⟩ := F65_spec (ev E0 K (n + 1)) x b ok.at (fun y hy s => by rw [ev_known h66, kfText_run _ _ (ok.at.kids y hy).at.name]) (fun y hy s => h36 y s n hy) S hx hb
 refine ⟨S', ?_, h2⟩
 rw [callK_fn body65.1 body65.2]
 exact ev_read (c := C65) (d := B65) (by kernel_rfl) (by kernel_rfl) (annot_isOf C65 _ (by kernel_rfl)) h h1
end
theorem kn36 {K : FuncId → Option KF} (hK : KnOk Try.prog E0 K) (h63 : K 63 = some kfIndexByte) (h66 : K 66 = some (kfText gName)) (h59 : K 59 = none) (h60 : K 60 = none) (h61 : K 61 = none) (h62 : K 62 = none) (h64 : K 64 = none) (h65 : K 65 = none) (h71 : K 71 = none) (h72 : K 72 = none) (h75 : K 75 = none) : KnWell Try.prog E0 36 (kfNode gMay) :=
 knNode_rec hK (fn := Try.f36) (c := C36) (d := B36) gMay (fun _ _ => .bool _) (by kernel_rfl) (by kernel_rfl) (annot_isOf C36 _ (by kernel_rfl)) 6 fun K' hK' x S ok hself ho => by
  have e59 : K' 59 = none := by rw [hK' 59 (by decide)]; exact h59
  have e60 : K' 60 = none := by rw [hK' 60 (by decide)]; exact h60
  have e61 : K' 61 = none := by rw [hK' 61 (by decide)]; exact h61
  have e62 : K' 62 = none := by rw [hK' 62 (by decide)]; exact h62
  have e64 : K' 64 = none := by rw [hK' 64 (by decide)]; exact h64
  have e65 : K' 65 = none := by rw [hK' 65 (by decide)]; exact h65
  have e71 : K' 71 = none := by rw [hK' 71 (by decide)]; exact h71
  have e72 : K' 72 = none := by rw [hK' 72 (by decide)]; exact h72
  have e75 : K' 75 = none := by rw [hK' 75 (by decide)]; exact h75
  have e63 : K' 63 = some kfIndexByte := by rw [hK' 63 (by decide)]; exact h63
  have e66 : K' 66 = some (kfText gName) := by rw [hK' 66 (by decide)]; exact h66
  obtain ⟨S1, k1, k2, k3, k4⟩ := node_box ho x
  have hb : S.next < S1.next := by omega
  show ∃ S', F36 (ev E0 K' 6) rounds (encN x) S = _ ∧ _
  rw [F36_eq, k1, gMay, mayN_eq, oB, faP_ptr, oB, Nat.zero_add, k2.f1, oB, binV_ii, intsV_eql, oB, ifK_bool]
  by_cases c1 : x.kind = 1
  · obtain ⟨S', h1, h2⟩ := ans59 e59 5 S.next x S1 k2 hb
    refine ⟨S', ?_, k3.trans h2⟩
    rw [decide_eq_true c1, cond_true, if_pos c1, h1]
    rfl
  · rw [decide_eq_false c1, cond_false, if_neg c1, binV_ii, intsV_eql, oB, ifK_bool]
    by_cases c3 : x.kind = 3
    · obtain ⟨S2, m1, m2, m3, m4⟩ := bsP_three S1 k2.on 29 .nilfn (.fn (.func 59) [] [.ptr S.next 0]) (.fn (.func 60) [] [.ptr S.next 0]) (.fn (.func 62) [] [.ptr S.next 0]) ⟨rfl, rfl, rfl⟩ ⟨rfl, rfl, rfl⟩ ⟨rfl, rfl, rfl⟩
      have hx2 := k2.grew hb (fun h => h) m3
      obtain ⟨S', h1, h2⟩ := all3 e61 e71 e72 e75 2 (ans59 e59 1 S.next x) (ans60 e60 1 S.next x) (ans62 e62 e63 0 S.next x) S2 hx2 (by omega) (by omega) m2
      refine ⟨S', ?_, k3.trans (m3.trans h2)⟩
      rw [decide_eq_true c3, cond_true, if_pos c3, m1, oB, h1, callP_ret]
      unfold dataOk
      generalize decide (1 ≤ x.data.length) = p1
      generalize decide (x.data.length ≤ 255) = p2
      generalize (x.data.any fun x => x == 0) = p3
      generalize x.kids.isEmpty = p4
      cases x.exec <;> cases p1 <;> cases p2 <;> cases p3 <;> cases p4 <;> rfl
    · rw [decide_eq_false c3, cond_false, if_neg c3, binV_ii, intsV_eql, oB, ifK_bool]
      by_cases c2 : x.kind = 2
      · obtain ⟨S2, m1, m2, m3, m4⟩ := bsP_three S1 k2.on 29 .nilfn (.fn (.func 60) [] [.ptr S.next 0]) (.fn (.func 64) [] [.ptr S.next 0]) (.fn (.func 65) [] [.ptr S.next 0]) ⟨rfl, rfl, rfl⟩ ⟨rfl, rfl, rfl⟩ ⟨rfl, rfl, rfl⟩
        have hx2 := k2.grew hb (fun h => h) m3
        obtain ⟨S', h1, h2⟩ := all3 e61 e71 e72 e75 2 (ans60 e60 1 S.next x) (ans64 e64 1 S.next x) (ans65 e65 e66 0 S.next x ok (fun y s m hy => hself y s m hy)) S2 hx2 (by omega) (by omega) m2
        refine ⟨S', ?_, k3.trans (m3.trans h2)⟩
        rw [decide_eq_true c2, cond_true, if_pos c2, m1, oB, h1, callP_ret]
        generalize (x.data == []) = p3
        generalize mayL none x.kids = p4
        cases x.exec <;> cases p3 <;> cases p4 <;> rfl
      · rw [decide_eq_false c2, cond_false, if_neg c2]
        exact ⟨S1, rfl, k3⟩
end Go.Proofs.Ythmkdoaaciamlaa.W
namespace Go.Proofs.Ythmkdoaaciamlaa.W
open Go.Proofs.Ythmkdoaaciamlaa.Ev
def checkN (x : Nd) : Int := if tooDeepN x then 3 else if x.name == [] && mayN x then if decide (2000 < (sizeT x).1) || decide (100000 < (sizeT x).2) then 3 else 0 else 2
noncomputable def gCheck (x : Nd) : V := .int .i64 (checkN x)
theorem kn15 {K : FuncId → Option KF} (hK : KnOk Try.prog E0 K) (h35 : K 35 = some (kfNode gTooDeep)) (h36 : K 36 = some (kfNode gMay)) (h17 : K 17 = some (kfNode gSizeT)) : KnWell Try.prog E0 15 (kfNode gCheck) :=
 knNode hK (fn := Try.f15) (c := C15) (d := B15) gCheck (fun _ _ => .int _ _) (by kernel_rfl) (by kernel_rfl) (annot_isOf C15 _ (by kernel_rfl)) 1 fun x S ok ho => by
  obtain ⟨S1, k1, k2, k3, k4⟩ := node_box ho x
  refine ⟨S1, (?_ : F15 (ev E0 K 1) rounds (encN x) S = _), k3⟩
  rw [F15_eq, k1, oB, k2.fA, oB, ev_known h35, kfNode_run _ x ok, callP_ret, gTooDeep, ifK_bool, gCheck, checkN]
  cases tooDeepN x with
  | true => rfl
  | false =>
   rw [cond_false, if_neg (by simp), faP_ptr, oB, Nat.zero_add, k2.f0, oB, binV_ss, strOp_neq, oB, guardV_f, oB]
   cases hn : (x.name == []) with
   | false => rfl
   | true =>
    simp only [Bool.not_true, Bool.not_false, cond_true, k2.fA, oB, guardV_f, Bool.true_and]
    rw [ev_known h36, kfNode_run _ x ok, callP_ret, gMay]
    simp only [unV, oB, pickV, cond_false, ifK_bool]
    cases mayN x with
    | false => rfl
    | true =>
     simp only [Bool.not_true, cond_false, k2.fA, oB, if_true]
     rw [ev_known h17, kfNode_run _ x ok, callP_ret, gSizeT]
     simp only [extractV, List.getElem?_cons_zero, List.getElem?_cons_succ, oB, binV_ii]
     rw [intsV_gtr]
     generalize decide (2000 < (sizeT x).1) = p1
     cases p1 with
     | true => rfl
     | false =>
      simp only [oB, guardV_f, Bool.not_false, cond_true, binV_ii]
      rw [intsV_gtr]
      generalize decide (100000 < (sizeT x).2) = p2
      cases p2 <;> rfl
theorem kn21 {K : FuncId → Option KF} (hK : KnOk Try.prog E0 K) (h34 : K 34 = some (kfNode gDeep)) (h44 : K 44 = some (kfNode gMay)) (h45 : K 45 = some (kfNode gSizeT)) : KnWell Try.prog E0 21 (kfNode gCheck) :=
 knNode hK (fn := Try.f21) (c := C21) (d := B21) gCheck (fun _ _ => .int _ _) (by kernel_rfl) (by kernel_rfl) (annot_isOf C21 _ (by kernel_rfl)) 1 fun x S ok ho => by
  obtain ⟨S1, k1, k2, k3, k4⟩ := node_box ho x
  refine ⟨S1, (?_ : F21 (ev E0 K 1) rounds (encN x) S = _), k3⟩
  rw [F21_eq, k1, oB, k2.fA, oB, ev_known h34, kfNode_run _ x ok, callP_ret, gDeep, binV_ii, intsV_gtr]
  rw [show decide ((12 : Int) < (deepN 14 x : Int)) = tooDeepN x by unfold tooDeepN; rw [decide_eq_decide]; omega]
  rw [oB, ifK_bool, gCheck, checkN]
  cases tooDeepN x with
  | true => rfl
  | false =>
   rw [cond_false, if_neg (by simp), faP_ptr, oB, Nat.zero_add, k2.f0, oB, binV_ss, strOp_neq, oB, guardV_f, oB]
   cases hn : (x.name == []) with
   | false => rfl
   | true =>
    simp only [Bool.not_true, Bool.not_false, cond_true, k2.fA, oB, guardV_f, Bool.true_and]
    rw [ev_known h44, kfNode_run _ x ok, callP_ret, gMay]
    simp only [unV, oB, pickV, cond_false, ifK_bool]
    cases mayN x with
    | false => rfl
    | true =>
     simp only [Bool.not_true, cond_false, k2.fA, oB, if_true]
     rw [ev_known h45, kfNode_run _ x ok, callP_ret, gSizeT]
     simp only [extractV, List.getElem?_cons_zero, List.getElem?_cons_succ, oB, binV_ii]
     rw [intsV_gtr]
     generalize decide (2000 < (sizeT x).1) = p1
     cases p1 with
     | true => rfl
     | false =>
      simp only [oB, guardV_f, Bool.not_false, cond_true, binV_ii]
      rw [intsV_gtr]
      generalize decide (100000 < (sizeT x).2) = p2
      cases p2 <;> rfl
end Go.Proofs.Ythmkdoaaciamlaa.W
namespace Go.Proofs.Ythmkdoaaciamlaa.W
open Go.Proofs.Ythmkdoaaciamlaa.Ev
def digsA (n : Nat) (acc : List UInt8) : List UInt8 := if h : n = 0 then acc else digsA (n / 128) (UInt8.ofNat (n % 128 + 128) :: acc)
termination_by n
decreasing_by omega
def digs (n : Nat) : List UInt8 := digsA (n / 128) [UInt8.ofNat (n % 128)]
theorem digsA_len : ∀ (k n : Nat) (acc : List UInt8), n < 128 ^ k → (digsA n acc).length ≤ acc.length + k
 | k, n, acc, h => by
  rw [digsA]
  by_cases h0 : n = 0
  · rw [dif_pos h0]; omega
  · rw [dif_neg h0]
    cases k with
    | zero => simp at h; omega
    | succ k =>
     have := digsA_len k (n / 128) (UInt8.ofNat (n % 128 + 128) :: acc) (by rw [Nat.pow_succ] at h; omega)
     simp only [List.length_cons] at this; omega
theorem und37 : und E0 37 = some (.slice 5) := by kernel_rfl
theorem und5 : und E0 5 = some (.int .u8) := by kernel_rfl
theorem L46_spec (self : EV) (N : Nat) (nk : Ac → St → Rs) (ek : Nat → Ac → St → Rs) (s0 : List UInt8) : ∀ (k n m : Nat) (acc : List UInt8) (S : St), S.on = false → n < 128 ^ k → n < 18446744073709551616 → k < m → acc.length + k < 1000 →
 ∃ S', L46_15 self N nk ek m (sv s0) (.int .u64 (n : Int)) (sv acc) S = ek 0 (fr 28 [(0, sv s0), (5, sv (digsA n acc))]) S' ∧ Grew (fun _ => False) S S'
 | k, n, 0, acc, S, ho, hk, h64, hm, hl => by omega
 | k, n, m + 1, acc, S, ho, hk, h64, hm, hl => by
  rw [L46_15_eq]
  simp only [binV_ii, intsV_gtr, oB, ifK_bool]
  by_cases h0 : n = 0
  · subst h0
    refine ⟨S, ?_, Grew.refl _ _⟩
    simp [digsA]
  · have hd : decide ((0 : Int) < (n : Int)) = true := by simp; omega
    rw [hd]
    simp only [cond_true]
    rw [intsV_rem _ _ _ (by decide), intsV_quo _ _ _ (by decide)]
    have e1 : (n : Int).tmod 128 = ((n % 128 : Nat) : Int) := by rw [Int.tmod_eq_emod_of_nonneg (by omega)]; omega
    have e2 : IntKind.u64.wrap ((n : Int).tdiv 128) = ((n / 128 : Nat) : Int) := by
     rw [Int.tdiv_eq_ediv_of_nonneg (by omega), wrap_u64 (by omega) (by omega)]; omega
    rw [e1, e2]
    simp only [oB, cvI_int, intsV_add]
    have e3 : IntKind.u8.wrap ((n % 128 : Nat) : Int) = ((n % 128 : Nat) : Int) := wrap_u8 (by omega) (by omega)
    have e4 : IntKind.u8.wrap (((n % 128 : Nat) : Int) + 128) = ((UInt8.ofNat (n % 128 + 128)).toNat : Int) := by
     rw [wrap_u8 (by omega) (by omega), toNat_ofNat (by omega)]; omega
    rw [e3]
    simp only [binV_ii, intsV_add, oB]
    rw [e4]
    obtain ⟨S1, k1, k2, k3, k4⟩ := bsP_byte ho 5 (UInt8.ofNat (n % 128 + 128))
    rw [k1]
    simp only [oB]
    rw [convert_row (k3.on.trans ho) und37 und5 und9 k2 (by simp)]
    simp only [oB, List.drop_zero, List.take_succ_cons, List.take_zero, binV_ss]
    rw [strOp_add _ _ (by simp; omega)]
    simp only [oB, List.singleton_append]
    have hk0 : k ≠ 0 := by intro h; subst h; simp at hk; omega
    obtain ⟨S', h1, h2⟩ := L46_spec self N nk ek s0 (k - 1) (n / 128) m (UInt8.ofNat (n % 128 + 128) :: acc) S1 (k3.on.trans ho) (by
     have : 128 ^ k = 128 ^ (k - 1) * 128 := by rw [← Nat.pow_succ]; congr 1; omega
     omega) (by omega) (by omega) (by simp; omega)
    refine ⟨S', ?_, k3.trans h2⟩
    rw [h1, show digsA n acc = digsA (n / 128) (UInt8.ofNat (n % 128 + 128) :: acc) by rw [digsA, dif_neg h0]]
theorem F46_spec (self : EV) (s0 : List UInt8) (n : Nat) (S : St) (ho : S.on = false) (h64 : n < 18446744073709551616) (hs : s0.length < 1000000000000) :
 ∃ S', F46 self rounds (sv s0) (.int .u64 (n : Int)) S = some (.ret (sv (s0 ++ digs n)), S') ∧ Grew (fun _ => False) S S' := by
 rw [F46_eq, binV_ii, intsV_rem _ _ _ (by decide)]
 · have e1 : (n : Int).tmod 128 = ((n % 128 : Nat) : Int) := by rw [Int.tmod_eq_emod_of_nonneg (by omega)]; omega
   have e2 : IntKind.u64.wrap ((n : Int).tdiv 128) = ((n / 128 : Nat) : Int) := by
    rw [Int.tdiv_eq_ediv_of_nonneg (by omega), wrap_u64 (by omega) (by omega)]; omega
   rw [e1]
   simp only [oB, cvI_int]
   have e4 : IntKind.u8.wrap (((n % 128 : Nat) : Int)) = ((UInt8.ofNat (n % 128)).toNat : Int) := by
    rw [wrap_u8 (by omega) (by omega), toNat_ofNat (by omega)]
   rw [e4]
   obtain ⟨S1, k1, k2, k3, k4⟩ := bsP_byte ho 5 (UInt8.ofNat (n % 128))
   rw [k1]
   simp only [oB]
   rw [convert_row (k3.on.trans ho) und37 und5 und9 k2 (by simp)]
   simp only [oB, List.drop_zero, List.take_succ_cons, List.take_zero, binV_ii]
   rw [intsV_quo _ _ _ (by decide), e2]
   simp only [oB]
   obtain ⟨S', h1, h2⟩ := L46_spec self rounds (R46_7 self rounds (finN E0 self Try.f46) noEx) (exB 0 (R46_7 self rounds (finN E0 self Try.f46) noEx) noEx) s0 10 (n / 128) rounds [UInt8.ofNat (n % 128)] S1 (k3.on.trans ho) (by omega) (by omega) (by unfold rounds; omega) (by simp)
   refine ⟨S', ?_, k3.trans h2⟩
   rw [h1, exB_same, R46_7_eq, binV_ss, strOp_add]
   · rfl
   · have := digsA_len 10 (n / 128) [UInt8.ofNat (n % 128)] (by omega)
     simp only [List.length_cons, List.length_nil] at this
     show s0.length + _ < _
     omega
end Go.Proofs.Ythmkdoaaciamlaa.W
namespace Go.Proofs.Ythmkdoaaciamlaa.W
open Go.Proofs.Ythmkdoaaciamlaa.Ev
structure PutNumIn where
 s : List UInt8
 n : Nat
 hn : n < 18446744073709551616
 hs : s.length < 200000000
noncomputable def kf46 : KF := specKF (fun x : PutNumIn => [sv x.s, .int .u64 (x.n : Int)]) (fun x => .ret (sv (x.s ++ digs x.n)))
theorem kn46 {K : FuncId → Option KF} (hK : KnOk Try.prog E0 K) (hk : K 46 = none) : KnWell Try.prog E0 46 kf46 :=
 specKF_well E0_ok hK fun x s ho => by
  obtain ⟨S', h1, h2⟩ := F46_spec (ev E0 K 0) x.s x.n s ho x.hn (by have := x.hs; omega)
  exact ⟨1, _, S', ev_read (c := C46) (d := B46) (by kernel_rfl) (by kernel_rfl) (annot_isOf C46 _ (by kernel_rfl)) hk h1, h2, Fz.same (under_sv _)⟩
theorem kf46_run (s : List UInt8) (n : Nat) (hn : n < 18446744073709551616) (hs : s.length < 200000000) (S : St) : kf46.run [sv s, .int .u64 (n : Int)] S = some (.ret (sv (s ++ digs n)), S) :=
 specKF_run (fun x y h => by
  simp only [List.cons.injEq, V.int.injEq, true_and, and_true] at h
  rw [sv_inj h.1, show x.n = y.n by omega]) (⟨s, n, hn, hs⟩ : PutNumIn) S
end Go.Proofs.Ythmkdoaaciamlaa.W
namespace Go.Proofs.Ythmkdoaaciamlaa.W
open Go.Proofs.Ythmkdoaaciamlaa.Ev
structure TwoTexts where
 s : List UInt8
 t : List UInt8
 hs : s.length < 100000000
 ht : t.length < 100000000
theorem TwoTexts.inj {x y : TwoTexts} (h : [sv x.s, sv x.t] = [sv y.s, sv y.t]) : x.s = y.s ∧ x.t = y.t := by
 simp only [List.cons.injEq, and_true] at h
 exact ⟨sv_inj h.1, sv_inj h.2⟩
def putText (s t : List UInt8) : List UInt8 := s ++ digs t.length ++ t
theorem digs_len {n : Nat} (h : n < 18446744073709551616) : (digs n).length ≤ 11 := by
 have := digsA_len 10 (n / 128) [UInt8.ofNat (n % 128)] (by omega)
 simpa [digs] using this
noncomputable def kfPutText : KF := specKF (fun x : TwoTexts => [sv x.s, sv x.t]) (fun x => .ret (sv (putText x.s x.t)))
theorem kfPutText_run (s t : List UInt8) (hs : s.length < 100000000) (ht : t.length < 100000000) (S : St) : kfPutText.run [sv s, sv t] S = some (.ret (sv (putText s t)), S) :=
 specKF_run (fun x y h => by obtain ⟨h1, h2⟩ := TwoTexts.inj h; rw [h1, h2]) (⟨s, t, hs, ht⟩ : TwoTexts) S
theorem kn23 {K : FuncId → Option KF} (hK : KnOk Try.prog E0 K) (hk : K 23 = none) (h46 : K 46 = some kf46) : KnWell Try.prog E0 23 kfPutText :=
 specKF_well E0_ok hK fun x S ho => by
  refine ⟨2, _, S, ev_read (c := C23) (d := B23) (by kernel_rfl) (by kernel_rfl) (annot_isOf C23 _ (by kernel_rfl)) hk (?_ : F23 (ev E0 K 1) rounds (sv x.s) (sv x.t) S = some (.ret (sv (putText x.s x.t)), S)), Grew.refl _ _, Fz.same (under_sv _)⟩
  have := x.hs
  have := x.ht
  rw [F23_eq]
  simp only [lnStr_sv, oB, cvI_int]
  rw [wrap_u64 (by omega) (by omega), ev_known h46, kf46_run _ _ (by omega) (by omega)]
  simp only [callP_ret, binV_ss]
  have hd := digs_len (n := x.t.length) (by omega)
  rw [strOp_add _ _ (by rw [List.length_append]; omega)]
  rfl
end Go.Proofs.Ythmkdoaaciamlaa.W
namespace Go.Proofs.Ythmkdoaaciamlaa.W
open Go.Proofs.Ythmkdoaaciamlaa.Ev
def byteV (c : UInt8) : V := .int .u8 (c.toNat : Int)
theorem L40_spec (self : EV) (N : Nat) (nk : Ac → St → Rs) (ek : Nat → Ac → St → Rs) (s0 : List UInt8) (b : Nat) : ∀ (k n m : Nat) (acc cs : List UInt8) (at' : Nat) (S : St), S.on = false → n < 128 ^ k → n < 18446744073709551616 → k < m → VarAt S b 86 10 (cs.map byteV) → cs.drop at' = acc → k ≤ at' → at' ≤ 9 →
 ∃ (S' : St) (cs' : List UInt8) (a' : Nat), L40_34 self N nk ek m (sv s0) (.int .u64 (n : Int)) (.ptr b 0) (.int .i64 (at' : Int)) S = ek 0 (fr 45 [(0, sv s0), (5, .ptr b 0), (6, .int .i64 (a' : Int))]) S' ∧ VarAt S' b 86 10 (cs'.map byteV) ∧ cs'.drop a' = digsA n acc ∧ a' ≤ 9 ∧ Grew (fun x => x = b) S S'
 | k, n, 0, acc, cs, a, S, ho, hk, h64, hm, hv, hd, hka, h9 => by omega
 | k, n, m + 1, acc, cs, a, S, ho, hk, h64, hm, hv, hd, hka, h9 => by
  rw [L40_34_eq]
  simp only [binV_ii, intsV_gtr, oB, ifK_bool]
  by_cases h0 : n = 0
  · subst h0
    refine ⟨S, cs, a, ?_, hv, by rw [hd]; simp [digsA], h9, Grew.refl _ _⟩
    simp
  · have hdec : decide ((0 : Int) < (n : Int)) = true := by simp; omega
    rw [hdec]
    have hk0 : k ≠ 0 := by intro h; subst h; simp at hk; omega
    have e1 : (n : Int).tmod 128 = ((n % 128 : Nat) : Int) := by rw [Int.tmod_eq_emod_of_nonneg (by omega)]; omega
    have e2 : IntKind.u64.wrap ((n : Int).tdiv 128) = ((n / 128 : Nat) : Int) := by
     rw [Int.tdiv_eq_ediv_of_nonneg (by omega), wrap_u64 (by omega) (by omega)]; omega
    have e3 : IntKind.u8.wrap ((n % 128 : Nat) : Int) = ((n % 128 : Nat) : Int) := wrap_u8 (by omega) (by omega)
    have e4 : IntKind.u8.wrap (((n % 128 : Nat) : Int) + 128) = ((UInt8.ofNat (n % 128 + 128)).toNat : Int) := by
     rw [wrap_u8 (by omega) (by omega), toNat_ofNat (by omega)]; omega
    have hlen : cs.length = 10 := by rw [← hv.len, List.length_map]
    have e5 : IntKind.i64.wrap ((a : Int) - 1) = ((a - 1 : Nat) : Int) := by rw [wrap_i64 (by omega) (by omega)]; omega
    obtain ⟨S1, k1, k2, k3, k4⟩ := hv.st ho (i := a - 1) (by omega) (byteV (UInt8.ofNat (n % 128 + 128)))
    have hst : stP 1 (.ptr b (a - 1)) (byteV (UInt8.ofNat (n % 128 + 128))) S = some (.tuple [], S1) := by
     show vu (stK S b (a - 1) 1 (one _)) = _
     rw [k1]; rfl
    obtain ⟨S', cs', a', h1, h2, h3, h4, h5⟩ := L40_spec self N nk ek s0 b (k - 1) (n / 128) m (UInt8.ofNat (n % 128 + 128) :: acc) (cs.set (a - 1) (UInt8.ofNat (n % 128 + 128))) (a - 1) S1 (k3.on.trans ho) (by
     have : 128 ^ k = 128 ^ (k - 1) * 128 := by rw [← Nat.pow_succ]; congr 1; omega
     omega) (by omega) (by omega) (by rw [List.map_set]; exact k2) (by
     rw [List.drop_eq_getElem_cons (by rw [List.length_set]; omega), List.getElem_set_self]
     congr 1
     rw [List.drop_set_of_lt (by omega), ← hd]
     congr 1
     omega) (by omega) (by omega)
    refine ⟨S', cs', a', ?_, h2, ?_, h4, k3.trans h5⟩
    · rw [cond_true, intsV_sub, oB, e5, intsV_rem _ _ _ (by decide), oB, cvI_int, oB, e1, e3]
      dsimp only
      rw [binV_ii, intsV_add, oB, e4, ixA_ptr 10 1 false 1 .i64 (show a - 1 < 10 by omega), oB, Nat.zero_add, Nat.mul_one]
      have hst' : stP 1 (.ptr b (a - 1)) (.int .u8 ((UInt8.ofNat (n % 128 + 128)).toNat : Int)) S = some (.tuple [], S1) := hst
      rw [hst', oB, intsV_quo _ _ _ (by decide), e2, oB]
      exact h1
    · rw [h3, show digsA n acc = digsA (n / 128) (UInt8.ofNat (n % 128 + 128) :: acc) by rw [digsA, dif_neg h0]]
theorem el37 : sliceElem E0 37 = some (5, 1, 1) := by kernel_rfl
theorem zero5 : zeroT E0 5 = some (.int .u8 0) := by kernel_rfl
theorem und86 : und E0 86 = some (.array 10 5) := by kernel_rfl
theorem size5 : Go.Proofs.Ythmkdoaaciamlaa.Ev.sizeT E0 5 = some 1 := by kernel_rfl
theorem over_take (n : Nat) (s : List UInt8) (h : s.length ≤ n) : over (List.replicate n (0 : UInt8)) 0 (s.take (min s.length n)) = s ++ List.replicate (n - s.length) 0 := by
 unfold over
 rw [show min s.length n = s.length by omega, List.take_length, List.take_zero, List.nil_append, Nat.zero_add, List.drop_replicate]
theorem over_end (s d : List UInt8) (m : Nat) (h : d.length = m) : over (s ++ List.replicate m (0 : UInt8)) s.length d = s ++ d := by
 unfold over
 rw [List.take_left, List.drop_eq_nil_of_le (by simp; omega), List.append_nil]
theorem R40_spec (self : EV) (N : Nat) (ek : Nat → Ac → St → Rs) (nk : Ac → St → Rs) (s0 cs : List UInt8) (b a : Nat) (S : St) (ho : S.on = false) (hb : b < S.next) (hv : VarAt S b 86 10 (cs.map byteV)) (ha : a ≤ 9) (hs : s0.length < 200000000) :
 ∃ S', R40_9 self N nk ek (fr 45 [(0, sv s0), (5, .ptr b 0), (6, .int .i64 (a : Int))]) S = some (.ret (sv (s0 ++ cs.drop a)), S') ∧ Grew (fun _ => False) S S' := by
 have hlen : cs.length = 10 := by rw [← hv.len, List.length_map]
 obtain ⟨S1, m1, m2, m3, m4⟩ := makeBytes (E := E0) ho el37 zero5 (n := s0.length + 10 - a) (by unfold maxCells; omega)
 have on1 := m3.on.trans ho
 obtain ⟨S2, c1, c2, c3, c4⟩ := cpP_sv on1 m2 (l := s0) (off := 0) (len := s0.length + 10 - a) (cap := s0.length + 10 - a) (by simp)
 have on2 := c3.on.trans on1
 rw [over_take _ _ (by omega)] at c2
 have hv2 := (hv.grew hb (fun h => h) m3).grew (by omega) (by omega) c3
 obtain ⟨S3, d1, d2, d3, d4⟩ := cpP_var on2 c2 hv2 (by decide) (off := s0.length) (len := 10 - a) (cap := 10 - a) (off2 := a) (len2 := 10 - a) (cap2 := 10 - a) (by simp; omega) (by omega)
 rw [List.take_of_length_le (by rw [List.length_drop]; omega), over_end _ _ _ (by rw [List.length_drop]; omega)] at d2
 obtain ⟨on3, l', d5⟩ := cpP_lg on2 d1 []
 have hres := relog_lg on2 l' [[], [], [], [], [], [], (S3.lg l').log] on3
 generalize hS4 : relog S2 (S3.lg l') [[], [], [], [], [], [], (S3.lg l').log] = S4 at hres
 obtain ⟨r1, r2, r3⟩ := hres
 have hrow := d2.same r1
 refine ⟨S4, ?_, ?_⟩
 · rw [R40_9_eq, lnStr_sv, oB, binV_ii, intsV_add, show IntKind.i64.wrap ((s0.length : Int) + 10) = ((s0.length + 10 : Nat) : Int) by rw [wrap_i64 (by omega) (by omega)]; omega, oB, binV_ii, intsV_sub,
    show IntKind.i64.wrap (((s0.length + 10 : Nat) : Int) - (a : Int)) = ((s0.length + 10 - a : Nat) : Int) by rw [wrap_i64 (by omega) (by omega)]; omega, oB, m1, oB]
   dsimp only
   rw [c1, oB]
   dsimp only
   rw [lnStr_sv, oB]
   dsimp only
   have sl1 : sliceV E0 37 (.slice S.next 0 (s0.length + 10 - a) (s0.length + 10 - a)) (some (.int .i64 (s0.length : Int))) none none (onS (onS S2)) = some (.slice S.next s0.length (10 - a) (10 - a), onS S2) := by
    unfold sliceV
    rw [und37]
    simp only [oB]
    rw [bounds_lo .i64 (by omega), size5]
    simp only [oB]
    rw [Nat.zero_add, Nat.mul_one, show s0.length + 10 - a - s0.length = 10 - a by omega]
    rfl
   have sl2 : sliceV E0 86 (.ptr b 0) (some (.int .i64 (a : Int))) none none (onS (onS S2)) = some (.slice b a (10 - a) (10 - a), onS S2) := by
    unfold sliceV
    rw [und86]
    simp only [oB]
    rw [bounds_lo .i64 (by omega), size5]
    simp only [oB]
    rw [Nat.zero_add, Nat.mul_one]
    rfl
   rw [sl1, oB]
   dsimp only
   rw [sl2, oB]
   dsimp only
   rw [show onS (onS S2) = S2.lg [] from rfl, d5, oB]
   dsimp only
   rw [endP_of (by rfl)]
   have e : relog S2 (S3.lg l') [[], [], (onS S2).log, (onS S2).log, [], (onS S2).log, (S3.lg l').log] = S4 := hS4
   rw [e, convert_row r3 und37 und5 und9 hrow (by simp; omega), oB]
   dsimp only
   rw [List.drop_zero, List.take_of_length_le (by simp; omega)]
 · refine ⟨?_, ?_, fun x hx hw => ?_⟩
   · rw [r2, d4, c4, m4]; omega
   · rw [r3, ho]
   · rw [r1, d3.keep x (by omega) (by omega), c3.keep x (by omega) (by omega), m3.keep x hx (fun h => h)]
theorem F40_spec (self : EV) (s0 : List UInt8) (n : Nat) (S : St) (ho : S.on = false) (h64 : n < 18446744073709551616) (hs : s0.length < 200000000) :
 ∃ S', F40 self rounds (sv s0) (.int .u64 (n : Int)) S = some (.ret (sv (s0 ++ digs n)), S') ∧ Grew (fun _ => False) S S' := by
 have v0 := varAt_new (s := S) ho (t := 86) (z := 10) (l := (List.replicate 10 (0 : UInt8)).map byteV) (by simp) (by omega) (by unfold big; decide)
 have g0 := grew_nwP (s := S) ho (fun _ => False) 86 10 (Tr.ofListFrom .nil ((List.replicate 10 (0 : UInt8)).map byteV) 0)
 have e1 : (n : Int).tmod 128 = ((n % 128 : Nat) : Int) := by rw [Int.tmod_eq_emod_of_nonneg (by omega)]; omega
 have e2 : IntKind.u64.wrap ((n : Int).tdiv 128) = ((n / 128 : Nat) : Int) := by
  rw [Int.tdiv_eq_ediv_of_nonneg (by omega), wrap_u64 (by omega) (by omega)]; omega
 have e4 : IntKind.u8.wrap (((n % 128 : Nat) : Int)) = ((UInt8.ofNat (n % 128)).toNat : Int) := by
  rw [wrap_u8 (by omega) (by omega), toNat_ofNat (by omega)]
 have hlit : nwP 86 10 (Tr.ofListFrom .nil [(.int .u8 0), (.int .u8 0), (.int .u8 0), (.int .u8 0), (.int .u8 0), (.int .u8 0), (.int .u8 0), (.int .u8 0), (.int .u8 0), (.int .u8 0)] 0) S = nwP 86 10 (Tr.ofListFrom .nil ((List.replicate 10 (0 : UInt8)).map byteV) 0) S := rfl
 rw [F40_eq, hlit, oB, binV_ii, intsV_rem _ _ _ (by decide), oB, cvI_int, oB, e1, e4, nwP_fst, show (V.int .i64 9) = .int .i64 ((9 : Nat) : Int) from rfl, ixA_ptr 10 1 false 1 .i64 (by decide), oB, Nat.zero_add, Nat.mul_one]
 have hnext : (nwP 86 10 (Tr.ofListFrom .nil ((List.replicate 10 (0 : UInt8)).map byteV) 0) S).2.next = S.next + 1 := rfl
 generalize (nwP 86 10 (Tr.ofListFrom .nil ((List.replicate 10 (0 : UInt8)).map byteV) 0) S).2 = S0 at *
 have on0 := g0.on.trans ho
 obtain ⟨S1, k1, k2, k3, k4⟩ := v0.st on0 (i := 9) (by omega) (byteV (UInt8.ofNat (n % 128)))
 have hst : stP 1 (.ptr S.next 9) (.int .u8 ((UInt8.ofNat (n % 128)).toNat : Int)) S0 = some (.tuple [], S1) := by
  show vu (stK S0 S.next 9 1 (one _)) = _
  have k1' : stK S0 S.next 9 1 (one (.int .u8 ((UInt8.ofNat (n % 128)).toNat : Int))) = some S1 := k1
  rw [k1']; rfl
 dsimp only
 rw [hst, oB, binV_ii, intsV_quo _ _ _ (by decide), e2, oB]
 have on1 := k3.on.trans on0
 obtain ⟨S2, cs, a, h1, h2, h3, h4, h5⟩ := L40_spec self rounds (R40_9 self rounds (finN E0 self Try.f40) noEx) (exB 0 (R40_9 self rounds (finN E0 self Try.f40) noEx) noEx) s0 S.next 9 (n / 128) rounds [UInt8.ofNat (n % 128)] ((List.replicate 10 0).set 9 (UInt8.ofNat (n % 128))) 9 S1 on1 (by omega) (by omega) (by unfold rounds; omega) (by rw [List.map_set]; exact k2) rfl (by omega) (by omega)
 have on2 := h5.on.trans on1
 have hnx : S.next < S2.next := by have := h5.next; omega
 obtain ⟨S3, r1, r2⟩ := R40_spec self rounds noEx (finN E0 self Try.f40) s0 cs S.next a S2 on2 hnx h2 h4 hs
 refine ⟨S3, ?_, (g0.own (Nat.le_refl _) (k3.trans h5)).trans r2⟩
 dsimp only
 rw [h1, exB_same, r1, h3]
 rfl
theorem kn40 {K : FuncId → Option KF} (hK : KnOk Try.prog E0 K) : KnWell Try.prog E0 40 kf46 :=
 specKF_text (fn := Try.f40) (c := C40) (d := B40) E0_ok hK (by kernel_rfl) (by kernel_rfl) (annot_isOf C40 _ (by kernel_rfl)) fun x s ho => by
  obtain ⟨S', h1, h2⟩ := F40_spec (ev E0 K 0) x.s x.n s ho x.hn x.hs
  exact ⟨0, .ret (sv (x.s ++ digs x.n)), S', h1, h2, Fz.same (under_sv _)⟩
theorem kn19 {K : FuncId → Option KF} (hK : KnOk Try.prog E0 K) (h40 : K 40 = some kf46) : KnWell Try.prog E0 19 kfPutText :=
 specKF_text (fn := Try.f19) (c := C19) (d := B19) E0_ok hK (by kernel_rfl) (by kernel_rfl) (annot_isOf C19 _ (by kernel_rfl)) fun x S ho => by
  refine ⟨1, .ret (sv (putText x.s x.t)), S, (?_ : F19 (ev E0 K 1) rounds (sv x.s) (sv x.t) S = some (.ret (sv (putText x.s x.t)), S)), Grew.refl _ _, Fz.same (under_sv _)⟩
  have := x.hs
  have := x.ht
  rw [F19_eq]
  simp only [lnStr_sv, oB, cvI_int]
  rw [wrap_u64 (by omega) (by omega), ev_known h40, kf46_run _ _ (by omega) (by omega)]
  simp only [callP_ret, binV_ss]
  have hd := digs_len (n := x.t.length) (by omega)
  rw [strOp_add _ _ (by rw [List.length_append]; omega)]
  rfl
end Go.Proofs.Ythmkdoaaciamlaa.W
namespace Go.Proofs.Ythmkdoaaciamlaa.W
open Go.Proofs.Ythmkdoaaciamlaa.Ev
mutual
def layN (s : List UInt8) : Nd → List UInt8
 | .mk _ k e d l => if k = 1 then putText (s ++ digs k.toNat ++ digs (if e then 1 else 0)) d else if k = 3 then putText (s ++ digs k.toNat) d else layL (s ++ digs k.toNat ++ digs l.length) l
def layL (s : List UInt8) : List Nd → List UInt8
 | [] => s
 | x :: l => layL (layN (putText s x.name) x) l
end
theorem layN_eq (s : List UInt8) (x : Nd) : layN s x = if x.kind = 1 then putText (s ++ digs x.kind.toNat ++ digs (if x.exec then 1 else 0)) x.data else if x.kind = 3 then putText (s ++ digs x.kind.toNat) x.data else layL (s ++ digs x.kind.toNat ++ digs x.kids.length) x.kids := by
 cases x; rw [layN]; rfl
theorem nameOk_len {s : List UInt8} (h : nameOk s = true) : s.length ≤ 56 := by
 unfold nameOk at h
 simp only [Bool.and_eq_true, decide_eq_true_eq] at h
 exact h.1.1.1.2
structure MayCons (p : Option (List UInt8)) (x : Nd) (l : List Nd) : Prop where
 name : nameOk x.name = true
 may : mayN x = true
 rest : mayL (some x.name) l = true
theorem mayL_cons {p : Option (List UInt8)} {x : Nd} {l : List Nd} (h : mayL p (x :: l) = true) : MayCons p x l := by
 rw [mayL] at h
 simp only [Bool.and_eq_true] at h
 exact ⟨h.1.1.1, h.1.1.2, h.2⟩
theorem mayL_all : ∀ {p : Option (List UInt8)} {l : List Nd}, mayL p l = true → ∀ y ∈ l, nameOk y.name = true ∧ mayN y = true
 | p, x :: l, h, y, hy => by
  have := mayL_cons h
  rcases List.mem_cons.1 hy with rfl | hy
  · exact ⟨this.name, this.may⟩
  · exact mayL_all this.rest y hy
 | p, [], h, y, hy => by cases hy
inductive MayCase (x : Nd) : Prop where
 | file (h : x.kind = 1) (hk : x.kids = [])
 | link (h : x.kind = 3) (hk : x.kids = [])
 | dir (h : x.kind = 2) (hk : mayL none x.kids = true)
theorem mayCase {x : Nd} (h : mayN x = true) : MayCase x := by
 rw [mayN_eq] at h
 by_cases h1 : x.kind = 1
 · rw [if_pos h1] at h
   exact .file h1 (List.isEmpty_iff.1 h)
 · rw [if_neg h1] at h
   by_cases h3 : x.kind = 3
   · rw [if_pos h3] at h
     simp only [Bool.and_eq_true] at h
     exact .link h3 (List.isEmpty_iff.1 h.2.1.1.2)
   · rw [if_neg h3] at h
     by_cases h2 : x.kind = 2
     · rw [if_pos h2] at h
       simp only [Bool.and_eq_true] at h
       exact .dir h2 h.1
     · rw [if_neg h2] at h; cases h
theorem putText_len (s t : List UInt8) (ht : t.length < 100000000) : (putText s t).length ≤ s.length + t.length + 11 := by
 unfold putText
 have := digs_len (n := t.length) (by omega)
 simp only [List.length_append]
 omega
mutual
theorem layN_len : ∀ (x : Nd) (s : List UInt8), x.ok → mayN x = true → (layN s x).length + 80 ≤ s.length + 3180 * cntN x
 | .mk n k e d l, s, ok, hm => by
  have hk := ok.at
  have hd := hk.data
  have hf := hk.few
  simp only [Nd.data, Nd.kids] at hd hf
  have e1 := digs_len (n := k.toNat) (by have := hk.kind; simp only [Nd.kind] at this; omega)
  have e2 := digs_len (n := if e then 1 else 0) (by split <;> omega)
  have e3 := digs_len (n := l.length) (by omega)
  rw [layN, cntN]
  split
  · have := putText_len (s ++ digs k.toNat ++ digs (if e then 1 else 0)) d (by omega)
    simp only [List.length_append] at this
    omega
  · split
    · have := putText_len (s ++ digs k.toNat) d (by omega)
      simp only [List.length_append] at this
      omega
    · rcases mayCase hm with h | h | ⟨h, hkids⟩
      · exact absurd h (by assumption)
      · exact absurd h (by assumption)
      · have := layL_len l (s ++ digs k.toNat ++ digs l.length) none (fun y hy => hk.kids y hy) hkids
        simp only [List.length_append] at this
        omega
theorem layL_len : ∀ (l : List Nd) (s : List UInt8) (p : Option (List UInt8)), (∀ y ∈ l, y.ok) → mayL p l = true → (layL s l).length ≤ s.length + 3180 * cntL l
 | [], s, p, _, _ => by rw [layL]; omega
 | x :: l, s, p, ok, hm => by
  have h := mayL_cons hm
  have hn := nameOk_len h.name
  have h1 := putText_len s x.name (by omega)
  have h2 := layN_len x (putText s x.name) (ok x (List.mem_cons_self ..)) h.may
  have h3 := layL_len l (layN (putText s x.name) x) (some x.name) (fun y hy => ok y (List.mem_cons_of_mem _ hy)) h.rest
  rw [layL, cntL]
  have : 1 ≤ cntN x := by rw [cntN_eq]; omega
  omega
end
end Go.Proofs.Ythmkdoaaciamlaa.W
namespace Go.Proofs.Ythmkdoaaciamlaa.W
open Go.Proofs.Ythmkdoaaciamlaa.Ev
structure LayIn where
 s : List UInt8
 x : Nd
 ok : x.ok
 may : mayN x = true
 fit : s.length + 3180 * cntN x ≤ 90000000
noncomputable def encLay (p : LayIn) : List V := [sv p.s, encN p.x]
theorem encLay_inj {p q : LayIn} (h : encLay p = encLay q) : p.s = q.s ∧ p.x = q.x := by
 simp only [encLay, List.cons.injEq, and_true] at h
 exact ⟨sv_inj h.1, encN_inj h.2⟩
noncomputable def kfLay : KF := specKF encLay (fun p => En.ret (sv (layN p.s p.x)))
theorem kfLay_run (s : List UInt8) (x : Nd) (ok : x.ok) (may : mayN x = true) (fit : s.length + 3180 * cntN x ≤ 90000000) (S : St) : kfLay.run [sv s, encN x] S = some (.ret (sv (layN s x)), S) :=
 specKF_run (enc := encLay) (out := fun p => En.ret (sv (layN p.s p.x))) (fun p q h => by obtain ⟨h1, h2⟩ := encLay_inj h; rw [h1, h2]) ⟨s, x, ok, may, fit⟩ S
theorem L22_spec (self : EV) (N : Nat) (nk : Ac → St → Rs) (ek : Nat → Ac → St → Rs) (x : Nd) (b : Nat) (ok : NdOk x) (S : St) (hx : NodeAt S b x)
 (h23 : ∀ s t : List UInt8, s.length < 100000000 → t.length < 100000000 → ∀ S, self.f 23 [sv s, sv t] S = some (.ret (sv (putText s t)), S))
 (h22 : ∀ y ∈ x.kids, ∀ s : List UInt8, mayN y = true → s.length + 3180 * cntN y ≤ 90000000 → ∀ S, self.f 22 [sv s, encN y] S = some (.ret (sv (layN s y)), S)) :
 ∀ (r : List Nd) (i n : Nat) (s : List UInt8) (p : Option (List UInt8)), x.kids.drop i = r → r.length < n → mayL p r = true → s.length + 3180 * cntL r + 80 ≤ 90000000 →
 L22_50 self N nk ek n (sv s) (.ptr b 0) (.int .i64 (i : Int)) S = ek 1 (fr 58 [(0, sv (layL s r))]) S
 | r, i, 0, s, p, _, hn, _, _ => by omega
 | [], i, n + 1, s, p, hi, hn, hm, hf => by
  rw [L22_50_eq, faP_ptr, oB, Nat.zero_add, hx.f4, oB, lnS_kids, oB, binV_ii, intsV_lss, dec_ge (drop_end hi), layL]
  rfl
 | y :: r, i, n + 1, s, p, hi, hn, hm, hf => by
  obtain ⟨hlt, hy, hr, hmem⟩ := drop_at hi
  have hfew := ok.few
  have hc := mayL_cons hm
  have hnl := nameOk_len hc.name
  have hpt := putText_len s y.name (by omega)
  have hcnt : 1 ≤ cntN y := by rw [cntN_eq]; omega
  rw [cntL] at hf
  have hll := layN_len y (putText s y.name) (ok.kids y hmem) hc.may
  rw [L22_50_eq, faP_ptr, oB, Nat.zero_add, hx.f4, oB, lnS_kids, oB, binV_ii, intsV_lss, dec_lt hlt]
  simp only [oB, ifK_bool, cond_true, hx.o4, onS_rd, onS_onS, ixP_kids x.kids i hlt, hy, faP_kid, ld1_csv]
  rw [h23 s y.name (by omega) (by omega), callD_ret]
  simp only [oB, hx.o4, onS_rd, onS_onS, ixP_kids x.kids i hlt, hy, ldA_kid]
  rw [h22 y hmem (putText s y.name) hc.may (by omega), callD_ret, endP_rd]
  · simp only [relog_onS hx.on, onS_onS, onS_rd, binV_ii, intsV_add, wrap_succ (show i < 9223372036854775807 by omega), oB]
    rw [L22_spec self N nk ek x b ok S hx h23 h22 r (i + 1) n (layN (putText s y.name) y) (some y.name) hr (by simp at hn; omega) hc.rest (by omega), layL]
  · rfl
theorem kn22 {K : FuncId → Option KF} (hK : KnOk Try.prog E0 K) (h46 : K 46 = some kf46) (h23 : K 23 = some kfPutText) : KnWell Try.prog E0 22 kfLay :=
 specKF_rec (fn := Try.f22) (c := C22) (d := B22) (fun p : LayIn => SizeOf.sizeOf p.x) (fun p q h => by obtain ⟨h1, h2⟩ := encLay_inj h; rw [h1, h2]; exact ⟨rfl, rfl⟩) E0_ok hK (by kernel_rfl) (by kernel_rfl) (annot_isOf C22 _ (by kernel_rfl)) fun K' hK' p S hself ho => by
  have e46 : K' 46 = some kf46 := by rw [hK' 46 (by decide)]; exact h46
  have e23 : K' 23 = some kfPutText := by rw [hK' 23 (by decide)]; exact h23
  obtain ⟨s, x, ok, may, fit⟩ := p
  obtain ⟨S1, k1, k2, k3, k4⟩ := node_box ho x
  have hok := ok.at
  have hdat := hok.data
  have hfew := hok.few
  have hcnt := cntN_eq x
  refine ⟨1, .ret (sv (layN s x)), S1, (?_ : F22 (ev E0 K' 1) rounds (sv s) (encN x) S = _), k3, Fz.same (under_sv _)⟩
  have h46' : ∀ (s : List UInt8) (n : Nat), n < 18446744073709551616 → s.length < 200000000 → ∀ S, (ev E0 K' 1).f 46 [sv s, .int .u64 (n : Int)] S = some (.ret (sv (s ++ digs n)), S) := fun s n hn hs S => by rw [ev_known e46, kf46_run s n hn hs]
  have h23' : ∀ s t : List UInt8, s.length < 100000000 → t.length < 100000000 → ∀ S, (ev E0 K' 1).f 23 [sv s, sv t] S = some (.ret (sv (putText s t)), S) := fun s t hs ht S => by rw [ev_known e23, kfPutText_run s t hs ht]
  rw [F22_eq, k1, oB, faP_ptr, oB, Nat.zero_add, k2.f1, oB, layN_eq]
  have hkind : ∃ k : Nat, x.kind = (k : Int) ∧ k ≤ 3 := by
   rcases mayCase may with ⟨h, _⟩ | ⟨h, _⟩ | ⟨h, _⟩ <;> rw [h]
   · exact ⟨1, rfl, by omega⟩
   · exact ⟨3, rfl, by omega⟩
   · exact ⟨2, rfl, by omega⟩
  obtain ⟨k, hk, hk3⟩ := hkind
  have hdk := digs_len (n := k) (by omega)
  have hcv : cvI .u64 (.int .i64 x.kind) S1 = some (.int .u64 (k : Int), S1) := by rw [cvI_int, hk, wrap_u64 (by omega) (by omega)]
  dsimp only
  rw [hcv, oB]
  dsimp only
  rw [h46' s k (by omega) (by omega), callP_ret, faP_ptr, oB, Nat.zero_add, k2.f1, oB, binV_ii, intsV_eql, oB, ifK_bool, show x.kind.toNat = k by rw [hk]; rfl]
  have hlen : (s ++ digs k).length ≤ s.length + 11 := by rw [List.length_append]; omega
  rcases mayCase may with ⟨h, hkids⟩ | ⟨h, hkids⟩ | ⟨h, hkids⟩
  · rw [decide_eq_true h, cond_true, if_pos h, faP_ptr, oB, Nat.zero_add, k2.f2, oB, ifK_bool]
    cases x.exec with
    | true =>
     rw [cond_true, show (V.int .u64 1) = .int .u64 ((1 : Nat) : Int) from rfl]
     have hd1 := digs_len (n := 1) (by omega)
     rw [h46' _ 1 (by omega) (by omega), callD_ret]
     simp only [faP_ptr, oB, Nat.zero_add, onS_onS, onS_rd, k2.o3]
     rw [h23' _ _ (by rw [List.length_append]; omega) (by omega), callD_ret, endP_rd]
     · simp only [onS_onS, onS_rd, relog_onS k2.on]; rfl
     · rfl
    | false =>
     rw [cond_false, show (V.int .u64 0) = .int .u64 ((0 : Nat) : Int) from rfl]
     have hd1 := digs_len (n := 0) (by omega)
     rw [h46' _ 0 (by omega) (by omega), callD_ret]
     simp only [faP_ptr, oB, Nat.zero_add, onS_onS, onS_rd, k2.o3]
     rw [h23' _ _ (by rw [List.length_append]; omega) (by omega), callD_ret, endP_rd]
     · simp only [onS_onS, onS_rd, relog_onS k2.on]; rfl
     · rfl
  · rw [decide_eq_false (by rw [h]; decide), cond_false, if_neg (by rw [h]; decide), if_pos h, binV_ii, intsV_eql, oB, ifK_bool, decide_eq_true h, cond_true, faP_ptr, oB, Nat.zero_add, k2.f3, oB]
    dsimp only
    rw [h23' _ _ (by omega) (by omega), callP_ret]
  · rw [decide_eq_false (by rw [h]; decide), cond_false, if_neg (by rw [h]; decide), if_neg (by rw [h]; decide), binV_ii, intsV_eql, oB, ifK_bool, decide_eq_false (by rw [h]; decide), cond_false, faP_ptr, oB, Nat.zero_add, k2.f4, oB, lnS_kids, oB, cvI_int, wrap_u64 (by omega) (by omega), oB]
    dsimp only
    have hd1 := digs_len (n := x.kids.length) (by omega)
    rw [h46' _ _ (by omega) (by omega), callP_ret]
    have hL := L22_spec (ev E0 K' 1) rounds (R22_46 (ev E0 K' 1) rounds (finN E0 (ev E0 K' 1) Try.f22) noEx) (exB 1 (R22_46 (ev E0 K' 1) rounds (finN E0 (ev E0 K' 1) Try.f22) noEx) noEx) x S.next hok S1 k2 h23' (fun y hy s hm hf S => hself ⟨s, y, hok.kids y hy, hm, hf⟩ S 0 (by
     show SizeOf.sizeOf y < SizeOf.sizeOf x
     have := List.sizeOf_lt_of_mem hy
     cases x with
     | mk n k e d l =>
      simp only [Nd.kids] at this
      simp only [Nd.mk.sizeOf_spec]
      omega)) x.kids 0 rounds (s ++ digs k ++ digs x.kids.length) none rfl (by unfold rounds; omega) hkids (by simp only [List.length_append]; omega)
    rw [show ((0 : Nat) : Int) = 0 from rfl] at hL
    rw [hL, exB_same, R22_46_eq]
end Go.Proofs.Ythmkdoaaciamlaa.W
