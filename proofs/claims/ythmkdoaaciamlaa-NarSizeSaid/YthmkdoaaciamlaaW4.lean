/-
  WHAT THE FUNCTIONS COME TO: each is read by the evaluator, printed, and told as a function of data, part 4 of 9 (no condition).
-/
import Derived.Test.YthmkdoaaciamlaaW3
namespace Go.Proofs.Ythmkdoaaciamlaa.W
open Go.Proofs.Ythmkdoaaciamlaa.Ev
def badByte (c : UInt8) : Bool := c == 47 || c == 0
def nameOk (s : List UInt8) : Bool := decide (1 ≤ s.length) && decide (s.length ≤ 56) && !(s.any badByte) && !(s == [46]) && !(s == [46, 46])
theorem u8_eq (c d : UInt8) : (c == d) = decide ((c.toNat : Int) = (d.toNat : Int)) := by
 rw [Bool.eq_iff_iff]
 simp only [beq_iff_eq, decide_eq_true_eq]
 constructor
 · rintro rfl; rfl
 · intro h; exact UInt8.toNat_inj.1 (by omega)
structure TextIn where
 s : List UInt8
 hs : s.length < 9223372036854775808
noncomputable def kfText (g : List UInt8 → V) : KF := specKF (fun p : TextIn => [sv p.s]) (fun p => En.ret (g p.s))
theorem kfText_run (g : List UInt8 → V) (s : List UInt8) (hs : s.length < 9223372036854775808) (S : St) : (kfText g).run [sv s] S = some (.ret (g s), S) :=
 specKF_run (enc := fun p : TextIn => [sv p.s]) (out := fun p => En.ret (g p.s)) (fun p q h => by
  simp only [List.cons.injEq, and_true] at h
  rw [sv_inj h]) ⟨s, hs⟩ S
theorem knText {K : FuncId → Option KF} (hK : KnOk Try.prog E0 K) {f : FuncId} {fn : Func} {c : Code} {d : D} (g : List UInt8 → V) (hu : ∀ n x, Under n (g x)) (hf : E0.fns.get f = some fn) (hb : fn.body = some c) (hd : isOf d c)
 (n : Nat) (h : ∀ s S, s.length < 9223372036854775808 → S.on = false → ∃ S', runF E0 (ev E0 K n) rounds fn d [sv s] S = some (.ret (g s), S') ∧ Grew (fun _ => False) S S') : KnWell Try.prog E0 f (kfText g) :=
 specKF_text E0_ok hK hf hb hd fun p s ho => by
  obtain ⟨S', h1, h2⟩ := h p.s s p.hs ho
  exact ⟨n, .ret (g p.s), S', h1, h2, Fz.same (hu _ _)⟩
noncomputable def gName (s : List UInt8) : V := .bool (nameOk s)
theorem L68_spec (self : EV) (N : Nat) (nk : Ac → St → Rs) (ek : Nat → Ac → St → Rs) (s : List UInt8) (hs : s.length < 9223372036854775808) (S : St) :
 ∀ (r : List UInt8) (i n : Nat), s.drop i = r → r.length < n →
 L68_20 self N nk ek n (sv s) (.int .i64 (i : Int)) S = bif r.any badByte then some (.ret (.bool false), S) else ek 0 (fr 36 [(0, sv s)]) S
 | r, i, 0, _, hn => by omega
 | [], i, n + 1, hi, hn => by
  rw [L68_20_eq]
  simp only [lnStr_sv, oB, binV_ii, intsV_lss, dec_ge (drop_end hi)]
  rfl
 | c :: r, i, n + 1, hi, hn => by
  obtain ⟨hlt, hc, hr, hmem⟩ := drop_at hi
  rw [L68_20_eq]
  simp only [lnStr_sv, oB, binV_ii, intsV_lss, dec_lt hlt, ifK_bool, cond_true, ixS_sv s .i64 i hlt, hc, intsV_eql, guardV_t, guardV_f, guardV_no]
  rw [List.any_cons, badByte, u8_eq c 47, u8_eq c 0, show (UInt8.toNat 47) = 47 from rfl, show (UInt8.toNat 0) = 0 from rfl]
  cases h1 : decide ((c.toNat : Int) = ((47 : Nat) : Int)) with
  | true =>
   rfl
  | false =>
   simp only [Bool.not_false, cond_true, oB, ixS_sv s .i64 i hlt, hc, binV_ii, intsV_eql, pickV, cond_false, ifK_bool, Bool.false_or]
   cases h2 : decide ((c.toNat : Int) = ((0 : Nat) : Int)) with
   | true =>
    rfl
   | false =>
    simp only [cond_false, intsV_add, oB, wrap_succ (show i < 9223372036854775807 by omega), Bool.false_or]
    exact L68_spec self N nk ek s hs S r (i + 1) n hr (by simp at hn; omega)
theorem kn68 {K : FuncId → Option KF} (hK : KnOk Try.prog E0 K) : KnWell Try.prog E0 68 (kfText gName) :=
 knText hK (fn := Try.f68) (c := C68) (d := B68) gName (fun _ _ => .bool _) (by kernel_rfl) (by kernel_rfl) (annot_isOf C68 _ (by kernel_rfl)) 0 fun s S hs ho => by
  refine ⟨S, (?_ : F68 (ev E0 K 0) rounds (sv s) S = _), Grew.refl _ _⟩
  have h1 := L68_spec (ev E0 K 0) rounds (R68_1 (ev E0 K 0) rounds (finN E0 (ev E0 K 0) Try.f68) noEx) (exB 0 (R68_1 (ev E0 K 0) rounds (finN E0 (ev E0 K 0) Try.f68) noEx) noEx) s hs S s 0 rounds rfl (by unfold rounds; omega)
  rw [F68_eq, show (V.int .i64 0) = .int .i64 ((0 : Nat) : Int) from rfl, h1, exB_same, R68_1_eq, gName, nameOk]
  cases hb : s.any badByte with
  | true => simp only [cond_true, Bool.not_true, Bool.and_false, Bool.false_and]
  | false =>
   simp only [cond_false, lnStr_sv, oB, binV_ii, intsV_geq, guardV_t, guardV_f, guardV_no, Bool.not_false, Bool.and_true]
   rw [show decide ((1 : Int) ≤ (s.length : Int)) = decide (1 ≤ s.length) by rw [decide_eq_decide]; omega]
   cases decide (1 ≤ s.length) with
   | false => rfl
   | true =>
    simp only [cond_true, lnStr_sv, oB, binV_ii, intsV_leq, pickV, guardV_t, guardV_f, guardV_no, Bool.true_and]
    rw [show decide ((s.length : Int) ≤ 56) = decide (s.length ≤ 56) by rw [decide_eq_decide]; omega]
    cases decide (s.length ≤ 56) with
    | false => rfl
    | true =>
     simp only [cond_true, oB, binV_ss, strOp_neq, pickV, guardV_t, guardV_f, guardV_no, Bool.true_and]
     cases (s == [46]) with
     | true => rfl
     | false =>
      simp only [Bool.not_false, cond_true, oB, binV_ss, strOp_neq, pickV, guardV_t, guardV_f, guardV_no, Bool.true_and]
end Go.Proofs.Ythmkdoaaciamlaa.W
namespace Go.Proofs.Ythmkdoaaciamlaa.W
open Go.Proofs.Ythmkdoaaciamlaa.Ev
def prevLess (p : Option (List UInt8)) (s : List UInt8) : Bool :=
 match p with
 | none => true
 | some q => Op.bytesLess q s
mutual
def mayN : Nd → Bool
 | .mk _ k e d l => if k = 1 then l.isEmpty else if k = 3 then !(d.any (· == 0)) && (!e && l.isEmpty && decide (1 ≤ d.length) && decide (d.length ≤ 255)) else if k = 2 then mayL none l && (!e && (d == [])) else false
def mayL : Option (List UInt8) → List Nd → Bool
 | _, [] => true
 | p, x :: l => (nameOk x.name && mayN x) && prevLess p x.name && mayL (some x.name) l
end
theorem mayN_eq (x : Nd) : mayN x = if x.kind = 1 then x.kids.isEmpty else if x.kind = 3 then !(x.data.any (· == 0)) && (!x.exec && x.kids.isEmpty && decide (1 ≤ x.data.length) && decide (x.data.length ≤ 255)) else if x.kind = 2 then mayL none x.kids && (!x.exec && (x.data == [])) else false := by
 cases x; rw [mayN]; rfl
noncomputable def gMay (x : Nd) : V := .bool (mayN x)
theorem L44d_spec (self : EV) (N : Nat) (nk : Ac → St → Rs) (ek : Nat → Ac → St → Rs) (x : Nd) (b : Nat) (hd : x.data.length ≤ 3000) (S : St) (hx : NodeAt S b x) :
 ∀ (r : List UInt8) (i n : Nat), x.data.drop i = r → r.length < n →
 L44_39 self N nk ek n (.ptr b 0) (.int .i64 (i : Int)) S = bif r.any (· == 0) then some (.ret (.bool false), S) else ek 1 (fr 102 [(1, .ptr b 0)]) S
 | r, i, 0, _, hn => by omega
 | [], i, n + 1, hi, hn => by
  rw [L44_39_eq]
  simp only [faP_ptr, Nat.zero_add, hx.f3, lnStr_sv, oB, binV_ii, intsV_lss, dec_ge (drop_end hi)]
  rfl
 | c :: r, i, n + 1, hi, hn => by
  obtain ⟨hlt, hc, hr, hmem⟩ := drop_at hi
  rw [L44_39_eq]
  simp only [faP_ptr, Nat.zero_add, hx.f3, lnStr_sv, oB, binV_ii, intsV_lss, dec_lt hlt, ifK_bool, cond_true, ixS_sv x.data .i64 i hlt, hc, intsV_eql]
  rw [List.any_cons, u8_eq c 0, show (UInt8.toNat 0) = 0 from rfl]
  cases h2 : decide ((c.toNat : Int) = ((0 : Nat) : Int)) with
  | true =>
   rfl
  | false =>
   simp only [cond_false, binV_ii, intsV_add, oB, wrap_succ (show i < 9223372036854775807 by omega), Bool.false_or]
   exact L44d_spec self N nk ek x b hd S hx r (i + 1) n hr (by simp at hn; omega)
def prevN (all : List Nd) : Nat → Option (List UInt8)
 | 0 => none
 | i + 1 => (all[i]?).map Nd.name
theorem L44k_spec (self : EV) (N : Nat) (nk : Ac → St → Rs) (ek : Nat → Ac → St → Rs) (x : Nd) (b : Nat) (ok : NdOk x) (h68 : ∀ y ∈ x.kids, ∀ s, self.f 68 [sv y.name] s = some (.ret (gName y.name), s))
 (h44 : ∀ y ∈ x.kids, ∀ s, self.f 44 [encN y] s = some (.ret (gMay y), s)) (S : St) (hx : NodeAt S b x) :
 ∀ (r : List Nd) (i n : Nat), x.kids.drop i = r → r.length < n →
 L44_67 self N nk ek n (.ptr b 0) (.int .i64 (i : Int)) S = bif mayL (prevN x.kids i) r then ek 3 (fr 102 [(1, .ptr b 0)]) S else some (.ret (.bool false), S)
 | r, i, 0, _, hn => by omega
 | [], i, n + 1, hi, hn => by
  rw [L44_67_eq]
  simp only [faP_ptr, oB, Nat.zero_add, hx.f4, lnS_kids, binV_ii, intsV_lss, dec_ge (drop_end hi), mayL]
  rfl
 | y :: r, i, n + 1, hi, hn => by
  obtain ⟨hlt, hy, hr, hmem⟩ := drop_at hi
  have hfew := ok.few
  rw [L44_67_eq, mayL]
  simp only [faP_ptr, oB, Nat.zero_add, hx.f4, lnS_kids, binV_ii, intsV_lss, dec_lt hlt, ifK_bool, cond_true, hx.o4, ixP_kids x.kids i hlt, hy, faP_kid, onS_rd, ld1_csv, h68 y hmem, callD_ret, gName, unV, guardV_t, guardV_f, guardV_no, Bool.not_not]
  cases hnm : nameOk y.name with
  | false =>
   simp only [cond_false, Bool.not_false, oB, callD_ret, pickV, cond_true, guardV_t, guardV_f, guardV_no, Bool.not_true, hx.o4, onS_onS]
   rw [endP_rd]
   · simp only [relog_onS hx.on, ifK_bool, cond_true, Bool.false_and, cond_false]
   · rfl
  | true =>
   simp only [cond_true, Bool.not_true, hx.o4, onS_onS, oB, ixP_kids x.kids i hlt, hy, onS_rd, ldA_kid, h44 y hmem, callD_ret, gMay, unV, pickV, cond_false, guardV_t, guardV_f, guardV_no, Bool.not_not]
   cases hmy : mayN y with
   | false =>
    simp only [cond_false, Bool.not_false, oB, cond_true, guardV_t, guardV_f, guardV_no, Bool.not_true, pickV, onS_onS]
    rw [endP_rd]
    · simp only [relog_onS hx.on, ifK_bool, cond_true, Bool.false_and, Bool.and_false, cond_false]
    · rfl
   | true =>
    simp only [cond_true, Bool.not_true, oB, cond_false, guardV_t, guardV_f, guardV_no, Bool.not_false, pickV, binV_ii, intsV_gtr, Bool.and_self, Bool.true_and]
    cases i with
    | zero =>
     simp only [show decide ((0 : Int) < ((0 : Nat) : Int)) = false from rfl, cond_false, oB, onS_onS]
     rw [endP_rd]
     · simp only [relog_onS hx.on, ifK_bool, cond_false, oB, binV_ii, intsV_add, wrap_succ (show 0 < 9223372036854775807 by omega), prevN, prevLess, Bool.true_and]
       rw [L44k_spec self N nk ek x b ok h68 h44 S hx r (0 + 1) n hr (by simp at hn; omega)]
       simp only [prevN, List.getElem?_eq_getElem hlt, hy, Option.map_some]
     · rfl
    | succ j =>
     have hj : j < x.kids.length := by omega
     simp only [show decide ((0 : Int) < ((j + 1 : Nat) : Int)) = true by simp, cond_true, oB, hx.o4, onS_onS, binV_ii, intsV_sub]
     rw [show ((j + 1 : Nat) : Int) - 1 = (j : Int) by omega, wrap_i64 (by omega) (by omega)]
     simp only [oB, ixP_kids x.kids j hj, ixP_kids x.kids (j + 1) hlt, hy, faP_kid, onS_rd, ld1_csv, hx.o4, onS_onS, binV_ss, strOp_geq]
     rw [endP_rd]
     · simp only [relog_onS hx.on, ifK_bool, prevN, prevLess, List.getElem?_eq_getElem hj, Option.map_some]
       cases hbl : Op.bytesLess x.kids[j].name y.name with
       | false => simp only [Bool.not_false, cond_true, Bool.false_and, cond_false]
       | true =>
        simp only [Bool.not_true, cond_false, Bool.true_and, binV_ii, intsV_add, wrap_succ (show j + 1 < 9223372036854775807 by omega), oB]
        rw [L44k_spec self N nk ek x b ok h68 h44 S hx r (j + 1 + 1) n hr (by simp at hn; omega)]
        simp only [prevN, List.getElem?_eq_getElem hlt, hy, Option.map_some]
     · rfl
theorem kn44 {K : FuncId → Option KF} (hK : KnOk Try.prog E0 K) (h68 : K 68 = some (kfText gName)) : KnWell Try.prog E0 44 (kfNode gMay) :=
 knNode_rec hK (fn := Try.f44) (c := C44) (d := B44) gMay (fun _ _ => .bool _) (by kernel_rfl) (by kernel_rfl) (annot_isOf C44 _ (by kernel_rfl)) 1 fun K' hK' x S ok hself ho => by
  obtain ⟨S1, k1, k2, k3, k4⟩ := node_box ho x
  have hok := ok.at
  refine ⟨S1, (?_ : F44 (ev E0 K' 1) rounds (encN x) S = _), k3⟩
  rw [F44_eq, k1]
  simp only [oB, faP_ptr, Nat.zero_add, k2.f1, binV_ii, intsV_eql, ifK_bool]
  rw [gMay, mayN_eq]
  by_cases h1 : x.kind = 1
  · simp only [h1, decide_true, cond_true, k2.f4, oB, lnS_kids, binV_ii, intsV_eql, if_true]
    congr 4
    cases x.kids with
    | nil => rfl
    | cons y l => simp; omega
  · simp only [h1, decide_false, cond_false, if_false]
    by_cases h3 : x.kind = 3
    · have hl := L44d_spec (ev E0 K' 1) rounds (R44_15 (ev E0 K' 1) rounds (R44_2 (ev E0 K' 1) rounds (finN E0 (ev E0 K' 1) Try.f44) noEx) (exB 0 (R44_2 (ev E0 K' 1) rounds (finN E0 (ev E0 K' 1) Try.f44) noEx) noEx)) (exB 1 (R44_15 (ev E0 K' 1) rounds (R44_2 (ev E0 K' 1) rounds (finN E0 (ev E0 K' 1) Try.f44) noEx) (exB 0 (R44_2 (ev E0 K' 1) rounds (finN E0 (ev E0 K' 1) Try.f44) noEx) noEx)) (exB 0 (R44_2 (ev E0 K' 1) rounds (finN E0 (ev E0 K' 1) Try.f44) noEx) noEx)) x S.next hok.data S1 k2 x.data 0 rounds rfl (by have := hok.data; unfold rounds; omega)
      rw [show ((0 : Nat) : Int) = 0 from rfl] at hl
      simp only [h3, decide_true, cond_true, if_true, hl, exB_same]
      cases hz : x.data.any (· == 0) with
      | true => rfl
      | false =>
       rw [R44_15_eq]
       simp only [cond_false, faP_ptr, Nat.zero_add, k2.f2, oB, unV, guardV_t, guardV_f, guardV_no, Bool.not_false, Bool.true_and]
       cases he : x.exec with
       | true => rfl
       | false =>
        simp only [Bool.not_false, cond_true, k2.f4, oB, lnS_kids, binV_ii, intsV_eql, pickV, guardV_t, guardV_f, guardV_no, Bool.true_and]
        rw [show decide ((x.kids.length : Int) = 0) = x.kids.isEmpty by cases x.kids with
         | nil => rfl
         | cons y l => simp; omega]
        cases x.kids.isEmpty with
        | false => rfl
        | true =>
         simp only [cond_true, k2.f3, oB, lnStr_sv, binV_ii, intsV_geq, pickV, guardV_t, guardV_f, guardV_no, Bool.true_and]
         rw [show decide ((1 : Int) ≤ (x.data.length : Int)) = decide (1 ≤ x.data.length) by rw [decide_eq_decide]; omega]
         cases decide (1 ≤ x.data.length) with
         | false => rfl
         | true =>
          simp only [cond_true, k2.f3, oB, lnStr_sv, binV_ii, intsV_leq, pickV, guardV_t, guardV_f, guardV_no, Bool.true_and]
          rw [show decide ((x.data.length : Int) ≤ 255) = decide (x.data.length ≤ 255) by rw [decide_eq_decide]; omega]
    · simp only [h3, decide_false, cond_false, if_false]
      by_cases h2 : x.kind = 2
      · have hl := L44k_spec (ev E0 K' 1) rounds (R44_56 (ev E0 K' 1) rounds (R44_2 (ev E0 K' 1) rounds (finN E0 (ev E0 K' 1) Try.f44) noEx) (exB 0 (R44_2 (ev E0 K' 1) rounds (finN E0 (ev E0 K' 1) Try.f44) noEx) noEx)) (exB 3 (R44_56 (ev E0 K' 1) rounds (R44_2 (ev E0 K' 1) rounds (finN E0 (ev E0 K' 1) Try.f44) noEx) (exB 0 (R44_2 (ev E0 K' 1) rounds (finN E0 (ev E0 K' 1) Try.f44) noEx) noEx)) (exB 0 (R44_2 (ev E0 K' 1) rounds (finN E0 (ev E0 K' 1) Try.f44) noEx) noEx)) x S.next hok
         (fun y hy s => by rw [ev_known (show K' 68 = _ by rw [hK' 68 (by decide)]; exact h68), kfText_run _ _ (hok.kids y hy).at.name]) (fun y hy s => hself y s 0 hy) S1 k2 x.kids 0 rounds rfl (by have := hok.few; unfold rounds; omega)
        rw [show ((0 : Nat) : Int) = 0 from rfl] at hl
        simp only [h2, decide_true, cond_true, if_true, hl, exB_same]
        rw [show prevN x.kids 0 = none from rfl]
        cases mayL none x.kids with
        | false => rfl
        | true =>
         rw [R44_56_eq]
         simp only [cond_true, faP_ptr, Nat.zero_add, k2.f2, oB, unV, guardV_t, guardV_f, guardV_no, Bool.true_and]
         cases he : x.exec with
         | true => rfl
         | false =>
          simp only [Bool.not_false, cond_true, k2.f3, oB, pickV, Bool.true_and]
          simp only [binV_ss, strOp_eql, oB]
      · simp only [h2, decide_false, cond_false, if_false]
        rw [R44_2_eq]
end Go.Proofs.Ythmkdoaaciamlaa.W
namespace Go.Proofs.Ythmkdoaaciamlaa.W
open Go.Proofs.Ythmkdoaaciamlaa.Ev
section
variable {s : St}
def AgAt (s : St) (b e z : Nat) (t : Tr V) : Prop := ∃ c, s.heap.get b = some (.cells e z 1 false c) ∧ c.get 0 = some t
theorem AgAt.grew {W : Nat → Prop} {u : St} {b e z : Nat} {t : Tr V} (h : AgAt s b e z t) (hb : b < s.next) (hw : ¬ W b) (g : Grew W s u) : AgAt u b e z t := by
 obtain ⟨c, h1, h2⟩ := h
 exact ⟨c, by rw [g.keep b hb hw]; exact h1, h2⟩
theorem ag_new (ho : s.on = false) (e z : Nat) (t : Tr V) : AgAt (nwP e z t s).2 s.next e z t ∧ Grew (fun _ => False) s (nwP e z t s).2 ∧ (nwP e z t s).2.next = s.next + 1 := by
 refine ⟨⟨Tr.ofListFrom .nil [t] 0, ?_, by rw [Tr.get_ofList]; rfl⟩, grew_nw ho _ _, rfl⟩
 show (newCells s e z [t]).heap.get s.next = _
 unfold newCells
 rw [nw_get, if_pos rfl]; rfl
theorem AgAt.ldk (ho : s.on = false) {b e z : Nat} {t : Tr V} (h : AgAt s b e z t) (hz : z < big) : ldK s b 0 z = some (t, s) := by
 obtain ⟨c, h1, h2⟩ := h
 unfold ldK
 rw [h1]
 simp only [ble_true.2 (show 0 + z ≤ z * 1 by omega), blt_true.2 (show z * 1 < big by omega), Bool.and_self, cond_true]
 unfold elemIn
 rw [show Nat.beq z z = true from beq_true.2 rfl, Nat.zero_mod, show Nat.beq 0 0 = true from rfl]
 simp only [Bool.and_self, cond_true, Nat.zero_div, h2, oB, note_off ho]
theorem AgAt.ldA (ho : s.on = false) {b e z : Nat} {t : Tr V} (h : AgAt s b e z t) (hz : z < big) : Go.Proofs.Ythmkdoaaciamlaa.Ev.ldA z (.ptr b 0) s = some (.agg z t, s) := by
 show ((ldK s b 0 z).bind fun p => some (V.agg z p.1, p.2)) = _
 rw [h.ldk ho hz]; rfl
theorem AgAt.ldrA (ho : s.on = false) {b e z : Nat} {t : Tr V} (h : AgAt s b e z t) (hz : z < big) : Go.Proofs.Ythmkdoaaciamlaa.Ev.ldrA z (.ptr b 0) s = some (.agg z t, s) := by
 show ((ldK s b 0 z).bind fun p => some (V.agg z p.1, p.2)) = _
 rw [h.ldk ho hz]; rfl
theorem AgAt.stA (ho : s.on = false) {b e z : Nat} {t : Tr V} (h : AgAt s b e z t) (hz : z < big) (u : Tr V) : ∃ w, stP z (.ptr b 0) (.agg z u) s = some (.tuple [], w) ∧ AgAt w b e z u ∧ Grew (fun x => x = b) s w ∧ w.next = s.next := by
 obtain ⟨c, h1, h2⟩ := h
 refine ⟨s.put b (.cells e z 1 false (c.set u 0)), ?_, ⟨c.set u 0, by rw [put_get, if_pos rfl], by rw [Tr.get_set, if_pos rfl]⟩, grew_put b _, rfl⟩
 show vu (bif Nat.beq z z && !false then stK s b 0 z u else none) = _
 rw [show Nat.beq z z = true from beq_true.2 rfl]
 simp only [Bool.not_false, Bool.and_self, cond_true]
 have : stK s b 0 z u = some (s.put b (.cells e z 1 false (c.set u 0))) := by
  unfold stK
  rw [h1]
  simp only [ble_true.2 (show 0 + z ≤ z * 1 by omega), blt_true.2 (show z * 1 < big by omega), Bool.and_self, Bool.not_false, cond_true]
  unfold elemTo
  rw [show Nat.beq z z = true from beq_true.2 rfl, Nat.zero_mod, show Nat.beq 0 0 = true from rfl]
  simp only [Bool.and_self, cond_true, Nat.zero_div, Tr.setC_eq, oB, note_off ho]
 rw [this]; rfl
theorem AgAt.ld1 (ho : s.on = false) {b e z i : Nat} {t : Tr V} {v : V} (h : AgAt s b e z t) (hz : z < big) (hi : i < z) (hv : t.get i = some v) : Go.Proofs.Ythmkdoaaciamlaa.Ev.ld1 (.ptr b i) s = some (v, s) := by
 obtain ⟨c, h1, h2⟩ := h
 show ld s b i = _
 exact ld_of ho h1 (by omega) (by omega) (by rw [cellOf_zero hi, h2]; exact hv)
theorem AgAt.st1 (ho : s.on = false) {b e z i : Nat} {t : Tr V} (h : AgAt s b e z t) (hz : z < big) (h1z : 1 < z) (hi : i < z) (v : V) (hs : v.size = 1) (hc : v.cells = one v) (hv : isTuple v = false) : ∃ w, stP 1 (.ptr b i) v s = some (.tuple [], w) ∧ AgAt w b e z (t.set v i) ∧ Grew (fun x => x = b) s w ∧ w.next = s.next := by
 obtain ⟨c, h1, h2⟩ := h
 refine ⟨s.put b (.cells e z 1 false (c.set (t.set v i) 0)), ?_, ⟨c.set (t.set v i) 0, by rw [put_get, if_pos rfl], by rw [Tr.get_set, if_pos rfl]⟩, grew_put b _, rfl⟩
 show vu (bif Nat.beq v.size 1 && !isTuple v then stK s b i 1 v.cells else none) = _
 rw [hs, hv, hc]
 simp only [show Nat.beq 1 1 = true from rfl, Bool.not_false, Bool.and_self, cond_true]
 have : stK s b i 1 (one v) = some (s.put b (.cells e z 1 false (c.set (t.set v i) 0))) := by
  unfold stK
  rw [h1]
  simp only [ble_true.2 (show i + 1 ≤ z * 1 by omega), blt_true.2 (show z * 1 < big by omega), Bool.and_self, Bool.not_false, cond_true]
  unfold elemTo
  rw [show Nat.beq 1 z = false from beq_false.2 (by omega)]
  simp only [Bool.false_and, cond_false, cellsTo, show (one v).get 0 = some v from rfl, oB, Nat.add_zero, Nat.div_eq_of_lt hi, Nat.mod_eq_of_lt hi, h2, Tr.setC_eq, note_off ho]
 rw [this]; rfl
end
def ixB (l : List UInt8) (c : UInt8) : Int := match l.findIdx? (fun x => x == c) with | some i => (i : Int) | none => -1
structure ByteIn where
 s : List UInt8
 c : UInt8
noncomputable def kfIndexByte : KF := specKF (fun p : ByteIn => [sv p.s, .int .u8 (p.c.toNat : Int)]) (fun p => En.ret (.int .i64 (ixB p.s p.c)))
theorem kfIndexByte_run (s : List UInt8) (c : UInt8) (S : St) : kfIndexByte.run [sv s, .int .u8 (c.toNat : Int)] S = some (.ret (.int .i64 (ixB s c)), S) :=
 specKF_run (enc := fun p : ByteIn => [sv p.s, .int .u8 (p.c.toNat : Int)]) (out := fun p => En.ret (.int .i64 (ixB p.s p.c))) (fun p q h => by
  simp only [List.cons.injEq, V.int.injEq, true_and, and_true] at h
  rw [sv_inj h.1, UInt8.toNat_inj.1 (show p.c.toNat = q.c.toNat by omega)]) ⟨s, c⟩ S
theorem toNat_ofNat {n : Nat} (h : n < 256) : (UInt8.ofNat n).toNat = n := by simp [UInt8.toNat_ofNat']; omega
theorem extV_one (l n c : Nat) (S : St) : extV 1 [.str l n, .int .u8 (.ofNat c)] S = bif Nat.blt c 256 then match indexByte c l 0 n with
 | some i => some (.val (.int .i64 (.ofNat i)) S)
 | none => some (.val (.int .i64 (-1)) S)
 else none := rfl
theorem callK_ext {E : Env} {self : EV} {f k : Nat} (h : E.ext.get f = some k) (x y args : List V) (S : St) : callK E self (.fn (.func f) x y) args S = (extV k (x ++ args ++ y) S).bind fun
 | .val v s => some (.ret v, s)
 | _ => none := by
 show (match E.ext.get f with | some k => _ | none => _) = _
 rw [h]
 rfl
theorem ext76 : E0.ext.get 76 = some 1 := by kernel_rfl
theorem ext_ixB (s : List UInt8) (c : UInt8) (S : St) : extV 1 [sv s, .int .u8 (c.toNat : Int)] S = some (.val (.int .i64 (ixB s c)) S) := by
 have h1 : extV 1 [sv s, .int .u8 (c.toNat : Int)] S = bif Nat.blt c.toNat 256 then match indexByte c.toNat s.length 0 (pack s) with
  | some i => some (.val (.int .i64 (.ofNat i)) S)
  | none => some (.val (.int .i64 (-1)) S)
  else none := extV_one _ _ _ _
 rw [h1, blt_true.2 c.toNat_lt, indexByte_spec, ixB]
 cases s.findIdx? (fun x => x == c) with
 | none => rfl
 | some i => rfl
theorem call76 (self : EV) (s : List UInt8) (c : UInt8) (S : St) : callK E0 self (.fn (.func 76) [] []) [sv s, .int .u8 (c.toNat : Int)] S = some (.ret (.int .i64 (ixB s c)), S) := by
 have h := callK_ext (E := E0) (self := self) ext76 [] [] [sv s, .int .u8 (c.toNat : Int)] S
 have h2 := ext_ixB s c S
 rw [List.nil_append, List.append_nil, h2] at h
 exact h
theorem F73_of (self : EV) (N : Nat) (s : V) (c : UInt8) (S : St) (v : V) (h : callK E0 self (.fn (.func 76) [] []) [s, .int .u8 (c.toNat : Int)] S = some (.ret v, S)) : F73 self N s (.int .u8 (c.toNat : Int)) S = some (.ret v, S) := by
 rw [F73_eq, h, callP_ret]
theorem F73_spec (self : EV) (N : Nat) (s : List UInt8) (c : UInt8) (S : St) : F73 self N (sv s) (.int .u8 (c.toNat : Int)) S = some (.ret (.int .i64 (ixB s c)), S) :=
 F73_of self N (sv s) c S (.int .i64 (ixB s c)) (call76 self s c S)
theorem kn63 {K : FuncId → Option KF} (hK : KnOk Try.prog E0 K) (h73 : K 73 = none) : KnWell Try.prog E0 63 kfIndexByte :=
 specKF_text (fn := Try.f63) (c := C63) (d := B63) E0_ok hK (by kernel_rfl) (by kernel_rfl) (annot_isOf C63 _ (by kernel_rfl)) fun p S ho => by
  refine ⟨1, .ret (.int .i64 (ixB p.s p.c)), S, (?_ : F63 (ev E0 K 1) rounds (sv p.s) (.int .u8 (p.c.toNat : Int)) S = _), Grew.refl _ _, Fz.same (.int _ _)⟩
  rw [F63_eq, ev_read (c := C73) (d := B73) (by kernel_rfl) (by kernel_rfl) (annot_isOf C73 _ (by kernel_rfl)) h73 (F73_spec (ev E0 K 0) rounds p.s p.c S)]
  rfl
theorem F82_spec (self : EV) (N : Nat) (r : Nat) (S : St) : ∃ v : Bool, F82 self N (.int .i32 (r : Int)) S = some (.ret (.bool v), S) := by
 rw [F82_eq, binV_ii, intsV_leq, show decide ((0 : Int) ≤ (r : Int)) = true by simp]
 simp only [oB, guardV_t, cond_true, binV_ii]
 rw [intsV_lss, intsV_lss]
 generalize decide ((r : Int) < 55296) = b1
 generalize decide ((57343 : Int) < (r : Int)) = b2
 cases b1 with
 | true => exact ⟨true, rfl⟩
 | false =>
  cases b2 with
  | false => exact ⟨false, rfl⟩
  | true =>
   simp only [cond_true, cond_false, oB, binV_ii, ifK_bool, pickV, guardV_t]
   rw [intsV_leq]
   generalize decide ((r : Int) ≤ 1114111) = b3
   cases b3
   · exact ⟨false, rfl⟩
   · exact ⟨true, rfl⟩
def bad2 : List UInt8 := [47, 0]
def ixR (r : Nat) : Int := if r = 47 then 0 else if r = 0 then 1 else -1
theorem ixB_bad2 (c : UInt8) : ixB bad2 c = ixR c.toNat := by
 unfold ixB bad2 ixR
 by_cases h1 : c = 47
 · subst h1; rfl
 · by_cases h2 : c = 0
   · subst h2; rfl
   · have h3 : ¬ c.toNat = 47 := fun h => h1 (UInt8.toNat_inj.1 h)
     have h4 : ¬ c.toNat = 0 := fun h => h2 (UInt8.toNat_inj.1 h)
     rw [if_neg h3, if_neg h4]
     have h5 : ((47 : UInt8) == c) = false := by simpa using fun h => h1 h.symm
     have h6 : ((0 : UInt8) == c) = false := by simpa using fun h => h2 h.symm
     simp [List.findIdx?_cons, h5, h6]
theorem enc_last (r : Nat) (h : 128 ≤ r) : ∃ a l, (Utf8.encode (r : Int)).data.toList = a ++ [l] ∧ 1 ≤ a.length ∧ a.length ≤ 3 ∧ 128 ≤ l.toNat := by
 unfold Utf8.encode
 have hc : 128 ≤ (if Utf8.valid (r : Int) then (r : Int).toNat else Utf8.runeError) := by
  split
  · simpa using h
  · decide
 generalize (if Utf8.valid (r : Int) then (r : Int).toNat else Utf8.runeError) = c at hc
 have hl : ∀ c : Nat, 128 ≤ (UInt8.ofNat (0x80 + c % 64)).toNat := fun c => by rw [toNat_ofNat (by omega)]; omega
 simp only
 rw [if_neg (by omega)]
 split
 · exact ⟨[_], _, rfl, by simp, by simp, hl c⟩
 · split
   · exact ⟨[_, _], _, rfl, by simp, by simp, hl c⟩
   · exact ⟨[_, _, _], _, rfl, by simp, by simp, hl c⟩
end Go.Proofs.Ythmkdoaaciamlaa.W
namespace Go.Proofs.Ythmkdoaaciamlaa.W
open Go.Proofs.Ythmkdoaaciamlaa.Ev
theorem und9 : und E0 9 = some .string := by kernel_rfl
theorem und21 : und E0 21 = some (.int .i32) := by kernel_rfl
section
variable {s : St}
theorem nextK_at (ho : s.on = false) {b l n pos : Nat} (h : s.heap.get b = some (.siter l n pos)) (hlt : pos < l) : nextK (.ptr b 0) true s = some (.tuple [.bool true, .int .i64 (pos : Int), .int .i32 ((decP l n pos).1 : Int)], s.put b (.siter l n (pos + (decP l n pos).2))) := by
 unfold nextK getO
 simp only [cond_true, show Nat.beq 0 0 = true from rfl, h, oB, note_off ho, blt_true.2 hlt]
 unfold setO
 rw [note_off ho]; rfl
theorem nextK_end (ho : s.on = false) {b l n pos : Nat} (h : s.heap.get b = some (.siter l n pos)) (hge : l ≤ pos) : nextK (.ptr b 0) true s = some (.tuple [.bool false], s) := by
 unfold nextK getO
 have hb : Nat.blt pos l = false := by
  cases hc : Nat.blt pos l with
  | false => rfl
  | true => rw [blt_true] at hc; omega
 simp only [cond_true, show Nat.beq 0 0 = true from rfl, h, oB, note_off ho, hb, cond_false]
theorem rangeStr_sv (l : List UInt8) : rangeStrK E0 9 (sv l) s = some (.ptr s.next 0, nw s (.siter l.length (pack l) 0)) := by
 unfold rangeStrK
 rw [und9]; rfl
theorem put_on {b : Nat} {o : O} (ho : s.on = false) : (s.put b o).on = false := ho
end
theorem dec_bad0 : decP 2 (pack bad2) 0 = (47, 1) := by decide +kernel
theorem dec_bad1 : decP 2 (pack bad2) 1 = (0, 1) := by decide +kernel
theorem L78_bad (self : EV) (N : Nat) (nk : Ac → St → Rs) (ek : Nat → Ac → St → Rs) (n : Nat) (b : Nat) (S : St) (ho : S.on = false) (h : S.heap.get b = some (.siter 2 (pack bad2) 0)) (hb : b < S.next) :
 ∃ S', L78_20 self N nk ek (n + 3) (.ptr b 0) S = ek 9 (fr 187 []) S' ∧ Grew (fun x => x = b) S S' := by
 have g0 : (S.put b (.siter 2 (pack bad2) (0 + (decP 2 (pack bad2) 0).2))).heap.get b = some (.siter 2 (pack bad2) 1) := by rw [put_get, if_pos rfl, dec_bad0]; rfl
 have g1 : ((S.put b (.siter 2 (pack bad2) (0 + (decP 2 (pack bad2) 0).2))).put b (.siter 2 (pack bad2) (1 + (decP 2 (pack bad2) 1).2))).heap.get b = some (.siter 2 (pack bad2) 2) := by rw [put_get, if_pos rfl, dec_bad1]; rfl
 refine ⟨_, ?_, (grew_put (s := S) b (.siter 2 (pack bad2) (0 + (decP 2 (pack bad2) 0).2))).trans (grew_put b (.siter 2 (pack bad2) (1 + (decP 2 (pack bad2) 1).2)))⟩
 rw [L78_20_eq, nextK_at ho h (by omega), dec_bad0]
 simp only [oB, extractV, List.getElem?_cons_zero, List.getElem?_cons_succ, ifK_bool, cond_true, binV_ii]
 rw [intsV_eql, show decide (((47 : Nat) : Int) = 65533) = false by decide]
 simp only [oB, ifK_bool, cond_false]
 rw [dec_bad0] at g0 g1
 rw [L78_20_eq, nextK_at (put_on ho) g0 (by omega), dec_bad1]
 simp only [oB, extractV, List.getElem?_cons_zero, List.getElem?_cons_succ, ifK_bool, cond_true, binV_ii]
 rw [intsV_eql, show decide (((0 : Nat) : Int) = 65533) = false by decide]
 simp only [oB, ifK_bool, cond_false]
 rw [dec_bad1] at g1
 rw [L78_20_eq, nextK_end (put_on (put_on ho)) g1 (by omega)]
 simp only [oB, extractV, List.getElem?_cons_zero, ifK_bool, cond_false]
theorem L78_enc (self : EV) (N : Nat) (nk : Ac → St → Rs) (ek : Nat → Ac → St → Rs) (n : Nat) (a : List UInt8) (l : UInt8) (h1 : 1 ≤ a.length) (h3 : a.length ≤ 3) (hl : 128 ≤ l.toNat) (S : St) (ho : S.on = false)
 (h63 : ∀ (s : List UInt8) (c : UInt8) S, self.f 63 [sv s, .int .u8 (c.toNat : Int)] S = some (.ret (.int .i64 (ixB s c)), S)) :
 L78_48 self N nk ek (n + 1) (sv bad2) (sv (a ++ [l])) (.int .i64 (a.length : Int)) (.int .i64 (a.length : Int)) S = some (.ret (.int .i64 (-1)), S) ∨ L78_48 self N nk ek (n + 1) (sv bad2) (sv (a ++ [l])) (.int .i64 (a.length : Int)) (.int .i64 (a.length : Int)) S = ek 1 (fr 187 []) S := by
 rw [L78_48_eq]
 simp only [lnStr_sv, oB, binV_ii, intsV_lss, show bad2.length = 2 from rfl]
 by_cases h2 : a.length = 1
 · left
   have hlast : (a ++ [l])[1]'(by simp; omega) = l := by rw [List.getElem_append_right (by omega)]; simp [h2]
   rw [h2]
   simp only [show decide (((1 : Nat) : Int) < ((2 : Nat) : Int)) = true by decide, ifK_bool, cond_true, ixS_sv bad2 .i64 1 (by decide), ixS_sv (a ++ [l]) .i64 1 (by simp; omega), hlast, oB, binV_ii, intsV_neq, relog_onS ho]
   have hne : decide (((bad2[1]'(by decide)).toNat : Int) = (l.toNat : Int)) = false := by
    rw [decide_eq_false_iff_not]
    show ¬ ((0 : Nat) : Int) = (l.toNat : Int)
    omega
   rw [hne]
   simp only [Bool.not_false, cond_true, intsV_add, oB]
   rw [show IntKind.i64.wrap (((1 : Nat) : Int) + 1) = ((2 : Nat) : Int) by decide, slice_sv und9 bad2 (bounds_lo .i64 (show 2 ≤ bad2.length by decide)) (Nat.le_refl _)]
   simp only [oB, ixS_sv (a ++ [l]) .i64 1 (by simp; omega), hlast]
   rw [show List.take (bad2.length - 2) (List.drop 2 bad2) = [] from rfl, h63 [] l, show ixB [] l = -1 from rfl]
   simp only [callD_ret, binV_ii, intsV_lss, show decide ((-1 : Int) < 0) = true by decide, oB, ifK_bool, cond_true, relog_onS ho, onS_onS]
 · right
   rw [show decide ((a.length : Int) < ((2 : Nat) : Int)) = false by simp; omega]
   rfl
theorem convertV_rune {E : Env} {src dst : TypeId} {k k' : IntKind} (hs : und E src = some (.int k)) (hd : und E dst = some .string) (n : Int) (S : St) : convertV E src dst (.int k' n) S = some (sv (Utf8.encode n).data.toList, S) := by
 unfold convertV sv
 rw [hs, hd]
 rfl
structure RuneIn where
 r : Nat
 hr : r ≤ 1114111
noncomputable def kfIndexRune : KF := specKF (fun p : RuneIn => [sv bad2, .int .i32 (p.r : Int)]) (fun p => En.ret (.int .i64 (ixR p.r)))
theorem kfIndexRune_run (r : Nat) (hr : r ≤ 1114111) (S : St) : kfIndexRune.run [sv bad2, .int .i32 (r : Int)] S = some (.ret (.int .i64 (ixR r)), S) :=
 specKF_run (enc := fun p : RuneIn => [sv bad2, .int .i32 (p.r : Int)]) (out := fun p => En.ret (.int .i64 (ixR p.r))) (fun p q h => by
  simp only [List.cons.injEq, V.int.injEq, true_and, and_true] at h
  rw [show p.r = q.r by omega]) ⟨r, hr⟩ S
theorem F78_far (self : EV) (m : Nat) (x : V) (b1 v : Bool) (a : List UInt8) (l : UInt8) (h1 : 1 ≤ a.length) (h3 : a.length ≤ 3) (hl : 128 ≤ l.toNat) (S : St) (ho : S.on = false)
 (h63 : ∀ (s : List UInt8) (c : UInt8) S, self.f 63 [sv s, .int .u8 (c.toNat : Int)] S = some (.ret (.int .i64 (ixB s c)), S))
 (e0 : binV E0 .leq 21 true false (.int .i32 0) x = some (.bool true)) (e1 : binV E0 .lss 21 false true x (.int .i32 128) = some (.bool false)) (e2 : binV E0 .eql 21 false true x (.int .i32 65533) = some (.bool b1))
 (h82 : self.f 82 [x] S = some (.ret (.bool v), S)) (hcv : convertV E0 21 9 x S = some (sv (a ++ [l]), S)) :
 ∃ S', F78 self (m + 3) (sv bad2) x S = some (.ret (.int .i64 (-1)), S') ∧ Grew (fun _ => False) S S' := by
 rw [F78_eq, e0]
 simp only [oB, guardV_t, cond_true]
 rw [e1]
 simp only [oB, pickV, cond_true, ifK_bool, cond_false]
 rw [e2]
 cases b1 with
 | true =>
  simp only [oB, ifK_bool, cond_true, rangeStr_sv]
  have hg := grew_nw ho (fun _ => False) (.siter bad2.length (pack bad2) 0)
  obtain ⟨S', h1, h2⟩ := L78_bad self (m + 3) (R78_16 self (m + 3) (finN E0 self Try.f78) (exB 0 (finN E0 self Try.f78) noEx)) (exB 9 (R78_16 self (m + 3) (finN E0 self Try.f78) (exB 0 (finN E0 self Try.f78) noEx)) (exB 0 (finN E0 self Try.f78) noEx)) m S.next (nw S (.siter bad2.length (pack bad2) 0)) (nw_on ho _) (by rw [nw_get, if_pos rfl]; rfl) (by show S.next < S.next + 1; omega)
  refine ⟨S', ?_, hg.own (Nat.le_refl _) h2⟩
  rw [h1, exB_same, R78_16_eq]
 | false =>
  simp only [oB, ifK_bool, cond_false]
  rw [h82]
  simp only [callP_ret, unV, oB, ifK_bool]
  cases v with
  | false => exact ⟨S, rfl, Grew.refl _ _⟩
  | true =>
   refine ⟨S, ?_, Grew.refl _ _⟩
   rw [Bool.not_true, cond_false, hcv, oB, lnStr_sv, oB, binV_ii, intsV_sub]
   rw [show (((a ++ [l]).length : Nat) : Int) - 1 = (a.length : Int) by simp, wrap_i64 (by omega) (by omega), oB]
   have hL := L78_enc self (m + 3) (R78_46 self (m + 3) (finN E0 self Try.f78) (exB 0 (finN E0 self Try.f78) noEx)) (exB 1 (R78_46 self (m + 3) (finN E0 self Try.f78) (exB 0 (finN E0 self Try.f78) noEx)) (exB 0 (finN E0 self Try.f78) noEx)) (m + 2) a l h1 h3 hl S ho h63
   rcases hL with hL | hL
   · exact hL
   · exact hL.trans (by rw [exB_same, R78_46_eq])
theorem F78_spec (self : EV) (m r : Nat) (S : St) (ho : S.on = false)
 (h63 : ∀ (s : List UInt8) (c : UInt8) S, self.f 63 [sv s, .int .u8 (c.toNat : Int)] S = some (.ret (.int .i64 (ixB s c)), S))
 (h82 : ∀ S, ∃ v : Bool, self.f 82 [.int .i32 (r : Int)] S = some (.ret (.bool v), S)) :
 ∃ S', F78 self (m + 3) (sv bad2) (.int .i32 (r : Int)) S = some (.ret (.int .i64 (ixR r)), S') ∧ Grew (fun _ => False) S S' := by
 have e0 : binV E0 .leq 21 true false (.int .i32 0) (.int .i32 (r : Int)) = some (.bool true) := by rw [binV_ii, intsV_leq, show decide ((0 : Int) ≤ (r : Int)) = true by simp]
 by_cases h128 : r < 128
 · have hc : (UInt8.ofNat r).toNat = r := toNat_ofNat (by omega)
   have h := h63 bad2 (UInt8.ofNat r) S
   rw [ixB_bad2, hc] at h
   refine ⟨S, ?_, Grew.refl _ _⟩
   rw [F78_eq, e0]
   simp only [oB, guardV_t, cond_true, binV_ii, intsV_lss]
   rw [show decide ((r : Int) < 128) = true by simp; omega]
   simp only [oB, pickV, cond_true, ifK_bool, cvI_int]
   rw [wrap_u8 (by omega) (by omega), h]
   rfl
 · have e1 : binV E0 .lss 21 false true (.int .i32 (r : Int)) (.int .i32 128) = some (.bool false) := by rw [binV_ii, intsV_lss, show decide ((r : Int) < 128) = false by simp; omega]
   have e2 : binV E0 .eql 21 false true (.int .i32 (r : Int)) (.int .i32 65533) = some (.bool (decide ((r : Int) = 65533))) := by rw [binV_ii, intsV_eql]
   obtain ⟨v, hv⟩ := h82 S
   obtain ⟨a, l, ha, h1, h3, hl⟩ := enc_last r (by omega)
   have hcv : convertV E0 21 9 (.int .i32 (r : Int)) S = some (sv (a ++ [l]), S) := by
    rw [← ha]
    exact convertV_rune und21 und9 _ S
   have hx : ixR r = -1 := by unfold ixR; rw [if_neg (by omega), if_neg (by omega)]
   rw [hx]
   exact F78_far self m _ _ v a l h1 h3 hl S ho h63 e0 e1 e2 hv hcv
theorem kn78 {K : FuncId → Option KF} (hK : KnOk Try.prog E0 K) (h63 : K 63 = some kfIndexByte) (h82 : K 82 = none) : KnWell Try.prog E0 78 kfIndexRune :=
 specKF_text (fn := Try.f78) (c := C78) (d := B78) E0_ok hK (by kernel_rfl) (by kernel_rfl) (annot_isOf C78 _ (by kernel_rfl)) fun p S ho => by
  obtain ⟨S', h1, h2⟩ := F78_spec (ev E0 K 1) (rounds - 3) p.r S ho (fun s c S => by rw [ev_known h63, kfIndexByte_run]) (fun S => by
   obtain ⟨v, hv⟩ := F82_spec (ev E0 K 0) rounds p.r S
   exact ⟨v, ev_read (c := C82) (d := B82) (by kernel_rfl) (by kernel_rfl) (annot_isOf C82 _ (by kernel_rfl)) h82 hv⟩)
  rw [show rounds - 3 + 3 = rounds by unfold rounds; omega] at h1
  exact ⟨1, .ret (.int .i64 (ixR p.r)), S', h1, h2, Fz.same (.int _ _)⟩
end Go.Proofs.Ythmkdoaaciamlaa.W
namespace Go.Proofs.Ythmkdoaaciamlaa.W
open Go.Proofs.Ythmkdoaaciamlaa.Ev
theorem byteP_at {l : List UInt8} {i : Nat} (h : i < l.length) : byteP (pack l) i = l[i].toNat := pack_at i l l[i] (List.getElem?_eq_getElem h)
theorem decP_ascii {l : List UInt8} {i : Nat} (h : i < l.length) (hc : l[i].toNat < 128) : decP l.length (pack l) i = (l[i].toNat, 1) := by
 unfold decP
 rw [byteP_at h, blt_true.2 hc]; rfl
theorem contP_at {l : List UInt8} {j : Nat} (h : contP l.length (pack l) j = true) : ∃ hj : j < l.length, 128 ≤ l[j].toNat := by
 unfold contP at h
 rw [Bool.and_eq_true, blt_true, Go.Proofs.Ythmkdoaaciamlaa.Ev.beq_true] at h
 obtain ⟨h1, h2⟩ := h
 rw [byteP_at h1] at h2
 exact ⟨h1, by omega⟩
structure Far (l : List UInt8) (i : Nat) (p : Nat × Nat) : Prop where
 lo : 128 ≤ p.1
 hi : p.1 ≤ 1114111
 pos : 1 ≤ p.2
 fit : i + p.2 ≤ l.length
 all : ∀ j, j < p.2 → ∃ hj : i + j < l.length, 128 ≤ l[i + j].toNat
theorem far_one {l : List UInt8} {i : Nat} (h : i < l.length) (hc : 128 ≤ l[i].toNat) {r : Nat} (h1 : 128 ≤ r) (h2 : r ≤ 1114111) : Far l i (r, 1) :=
 ⟨h1, h2, Nat.le_refl _, by show i + 1 ≤ _; omega, fun j hj => by
  have hj' : j < 1 := hj
  obtain rfl : j = 0 := by omega
  exact ⟨h, hc⟩⟩
theorem far_if {l : List UInt8} {i : Nat} (h : i < l.length) (hc : 128 ≤ l[i].toNat) {w X : Nat} (b : Bool) (hb : b = true → 128 ≤ X ∧ X ≤ 1114111) (h1 : 1 ≤ w) (hfit : i + w ≤ l.length)
 (hall : ∀ j, j < w → ∃ hj : i + j < l.length, 128 ≤ l[i + j].toNat) : Far l i (bif b then (X, w) else (65533, 1)) := by
 cases b with
 | true => exact ⟨(hb rfl).1, (hb rfl).2, h1, hfit, hall⟩
 | false => exact far_one h hc (by omega) (by omega)
theorem validP_le {X : Nat} (h : validP X = true) : X ≤ 1114111 := by
 unfold validP at h
 rw [Bool.or_eq_true, blt_true, Bool.and_eq_true, ble_true, ble_true] at h
 omega
theorem decP_far {l : List UInt8} {i : Nat} (h : i < l.length) (hc : 128 ≤ l[i].toNat) : Far l i (decP l.length (pack l) i) := by
 unfold decP
 rw [byteP_at h]
 have hlt := l[i].toNat_lt
 have h0 : Nat.blt l[i].toNat 128 = false := by
  cases hb : Nat.blt l[i].toNat 128 with
  | false => rfl
  | true => rw [blt_true] at hb; omega
 rw [h0, cond_false]
 cases h2 : (Nat.beq (l[i].toNat / 32) 6 && contP l.length (pack l) (i + 1)) with
 | true =>
  rw [Bool.and_eq_true, Go.Proofs.Ythmkdoaaciamlaa.Ev.beq_true] at h2
  obtain ⟨c1, c2⟩ := contP_at h2.2
  rw [cond_true]
  refine far_if h hc _ (fun hb => ?_) (by omega) (by omega) fun j hj => ?_
  · rw [ble_true] at hb; omega
  · match j, hj with
    | 0, _ => exact ⟨h, hc⟩
    | 1, _ => exact ⟨c1, c2⟩
 | false =>
 rw [cond_false]
 cases h3 : (Nat.beq (l[i].toNat / 16) 14 && contP l.length (pack l) (i + 1) && contP l.length (pack l) (i + 2)) with
 | true =>
  rw [Bool.and_eq_true, Bool.and_eq_true] at h3
  obtain ⟨c1, c2⟩ := contP_at h3.1.2
  obtain ⟨d1, d2⟩ := contP_at h3.2
  rw [cond_true]
  refine far_if h hc _ (fun hb => ?_) (by omega) (by omega) fun j hj => ?_
  · rw [Bool.and_eq_true, ble_true] at hb
    exact ⟨Nat.le_trans (by omega) hb.1, validP_le hb.2⟩
  · match j, hj with
    | 0, _ => exact ⟨h, hc⟩
    | 1, _ => exact ⟨c1, c2⟩
    | 2, _ => exact ⟨d1, d2⟩
 | false =>
 rw [cond_false]
 cases h4 : (Nat.beq (l[i].toNat / 8) 30 && contP l.length (pack l) (i + 1) && contP l.length (pack l) (i + 2) && contP l.length (pack l) (i + 3)) with
 | true =>
  rw [Bool.and_eq_true, Bool.and_eq_true, Bool.and_eq_true] at h4
  obtain ⟨c1, c2⟩ := contP_at h4.1.1.2
  obtain ⟨d1, d2⟩ := contP_at h4.1.2
  obtain ⟨e1, e2⟩ := contP_at h4.2
  rw [cond_true]
  refine far_if h hc _ (fun hb => ?_) (by omega) (by omega) fun j hj => ?_
  · rw [Bool.and_eq_true, ble_true] at hb
    exact ⟨Nat.le_trans (by omega) hb.1, validP_le hb.2⟩
  · match j, hj with
    | 0, _ => exact ⟨h, hc⟩
    | 1, _ => exact ⟨c1, c2⟩
    | 2, _ => exact ⟨d1, d2⟩
    | 3, _ => exact ⟨e1, e2⟩
 | false =>
  rw [cond_false]
  exact far_one h hc (by omega) (by omega)
def anyAt (s : List UInt8) (pos : Nat) : Option Nat := ((s.drop pos).findIdx? badByte).map fun j => pos + j
theorem anyAt_end {s : List UInt8} {pos : Nat} (h : s.length ≤ pos) : anyAt s pos = none := by unfold anyAt; rw [List.drop_eq_nil_of_le h]; rfl
theorem anyAt_hit {s : List UInt8} {pos : Nat} (h : pos < s.length) (hb : badByte s[pos] = true) : anyAt s pos = some pos := by
 unfold anyAt
 rw [List.drop_eq_getElem_cons h, List.findIdx?_cons, if_pos hb]; rfl
theorem anyAt_one {s : List UInt8} {pos : Nat} (h : pos < s.length) (hb : badByte s[pos] = false) : anyAt s pos = anyAt s (pos + 1) := by
 unfold anyAt
 rw [List.drop_eq_getElem_cons h, List.findIdx?_cons, if_neg (by rw [hb]; simp), Option.map_map]
 congr 1
 funext j
 show pos + (j + 1) = pos + 1 + j
 omega
theorem anyAt_skip {s : List UInt8} : ∀ (w pos : Nat), (∀ j, j < w → ∃ hj : pos + j < s.length, badByte s[pos + j] = false) → anyAt s pos = anyAt s (pos + w)
 | 0, pos, _ => rfl
 | w + 1, pos, h => by
  obtain ⟨h0, hb⟩ := h 0 (by omega)
  rw [anyAt_one (pos := pos) h0 hb, anyAt_skip w (pos + 1) fun j hj => by
   obtain ⟨h1, h2⟩ := h (j + 1) (by omega)
   have e : pos + 1 + j = pos + (j + 1) := by omega
   exact ⟨by omega, by simp only [e]; exact h2⟩]
  congr 1
  omega
theorem bad_iff (c : UInt8) : badByte c = decide (0 ≤ ixR c.toNat) := by
 unfold badByte ixR
 rw [u8_eq c 47, u8_eq c 0, show UInt8.toNat 47 = 47 from rfl, show UInt8.toNat 0 = 0 from rfl]
 by_cases h1 : c.toNat = 47
 · simp [h1]
 · by_cases h2 : c.toNat = 0
   · simp [h2]
   · simp only [h1, h2, if_false]
     rw [Bool.eq_iff_iff]
     simp
     omega
theorem far_ok {c : UInt8} (h : 128 ≤ c.toNat) : badByte c = false := by
 rw [bad_iff]
 unfold ixR
 rw [if_neg (by omega), if_neg (by omega)]; rfl
theorem ixR_far {r : Nat} (h : 128 ≤ r) : ixR r = -1 := by unfold ixR; rw [if_neg (by omega), if_neg (by omega)]
def outAny (L : Rs) (E : St → Rs) (o : Option Nat) (S' : St) : Prop :=
 match o with
 | some j => L = some (.ret (.int .i64 (j : Int)), S')
 | none => L = E S'
theorem L77_spec (self : EV) (N : Nat) (nk : Ac → St → Rs) (ek : Nat → Ac → St → Rs) (s : List UInt8) (b : Nat)
 (h78 : ∀ (r : Nat) S, r ≤ 1114111 → self.f 78 [sv bad2, .int .i32 (r : Int)] S = some (.ret (.int .i64 (ixR r)), S)) :
 ∀ (k pos n : Nat) (S : St), s.length ≤ pos + k → k < n → pos ≤ s.length → S.on = false → S.heap.get b = some (.siter s.length (pack s) pos) →
 ∃ S', outAny (L77_27 self N nk ek n (sv bad2) (.ptr b 0) S) (fun S' => ek 2 (fr 55 []) S') (anyAt s pos) S' ∧ Grew (fun x => x = b) S S'
 | k, pos, 0, S, hk, hn, hp, ho, hb => by omega
 | k, pos, n + 1, S, hk, hn, hp, ho, hb => by
  by_cases hend : pos = s.length
  · subst hend
    refine ⟨S, ?_, Grew.refl _ _⟩
    rw [anyAt_end (Nat.le_refl _), L77_27_eq, nextK_end ho hb (Nat.le_refl _)]
    rfl
  · have hlt : pos < s.length := by omega
    obtain ⟨k, rfl⟩ : ∃ k', k = k' + 1 := ⟨k - 1, by omega⟩
    have hstep : ∀ r w : Nat, decP s.length (pack s) pos = (r, w) → r ≤ 1114111 → 1 ≤ w → pos + w ≤ s.length →
     (ixR r = -1 → anyAt s pos = anyAt s (pos + w)) → (0 ≤ ixR r → anyAt s pos = some pos) → (ixR r = -1 ∨ 0 ≤ ixR r) →
     ∃ S', outAny (L77_27 self N nk ek (n + 1) (sv bad2) (.ptr b 0) S) (fun S' => ek 2 (fr 55 []) S') (anyAt s pos) S' ∧ Grew (fun x => x = b) S S' := by
     intro r w hd hr hw hfit hno hyes hor
     have hgr := grew_put (s := S) b (.siter s.length (pack s) (pos + w))
     rw [L77_27_eq, nextK_at ho hb hlt, hd]
     rw [oB]
     simp only [extractV, List.getElem?_cons_zero, List.getElem?_cons_succ]
     rw [oB, ifK_bool, cond_true, oB, oB, h78 r _ hr, callP_ret, binV_ii, intsV_geq, oB, ifK_bool]
     rcases hor with hneg | hge
     · rw [hneg, show decide ((0 : Int) ≤ -1) = false by decide, cond_false, hno hneg]
       obtain ⟨S', h1, h2⟩ := L77_spec self N nk ek s b h78 k (pos + w) n (S.put b (.siter s.length (pack s) (pos + w))) (by omega) (by omega) hfit ho (by rw [put_get, if_pos rfl])
       exact ⟨S', h1, hgr.trans h2⟩
     · rw [decide_eq_true hge, cond_true, hyes hge]
       exact ⟨_, rfl, hgr⟩
    by_cases hc : s[pos].toNat < 128
    · refine hstep _ 1 (decP_ascii hlt hc) (by omega) (by omega) (by omega) (fun h => anyAt_one hlt ?_) (fun h => anyAt_hit hlt ?_) ?_
      · rw [bad_iff, h]; rfl
      · rw [bad_iff]; exact decide_eq_true h
      · unfold ixR; split
        · right; omega
        · split
          · right; omega
          · left; rfl
    · have hf := decP_far hlt (by omega)
      have hx := ixR_far hf.lo
      exact hstep (decP s.length (pack s) pos).1 (decP s.length (pack s) pos).2 rfl hf.hi hf.pos hf.fit (fun _ => anyAt_skip _ _ fun j hj => by
       obtain ⟨h1, h2⟩ := hf.all j hj
       exact ⟨h1, far_ok h2⟩) (fun h => absurd h (by rw [hx]; decide)) (.inl hx)
end Go.Proofs.Ythmkdoaaciamlaa.W
namespace Go.Proofs.Ythmkdoaaciamlaa.W
open Go.Proofs.Ythmkdoaaciamlaa.Ev
theorem ixA_ptr (len z : Nat) (g : Bool) (k : Nat) (ik : IntKind) {b off n : Nat} (h : n < len) : ixA len z g k (.ptr b off) (.int ik (n : Int)) = some (.ptr b (off + n * z)) := by
 show (bif Nat.blt n len then some (V.ptr b (off + n * z)) else none) = _
 rw [blt_true.2 h]; rfl
theorem big256 : 256 < big := by unfold big; decide
theorem F81_spec (self : EV) (N : Nat) {b e : Nat} {t : Tr V} (c : UInt8) (S : St) (ho : S.on = false) (h : AgAt S b e 256 t) {v : V} (ht : t.get c.toNat = some v) : F81 self N (.ptr b 0) (.int .u8 (c.toNat : Int)) S = some (.ret v, S) := by
 have hc := c.toNat_lt
 rw [F81_eq, show nilCheckV (.ptr b 0) = some (.ptr b 0) from rfl, oB, ixA_ptr 256 1 false 1 .u8 hc, oB, Nat.zero_add, Nat.mul_one, h.ld1 ho big256 hc ht]
 rfl
def IsSet (t : Tr V) : Prop := ∀ c : UInt8, t.get c.toNat = some (.bool (badByte c))
theorem F80_new (self : EV) (N : Nat) (x0 : V) (S : St) : F80 self N x0 S = (some (nwP 96 256 (Tr.ofListFrom .nil (List.replicate 256 (.bool false)) 0) S)).bind fun p0 =>
 L80_8 self N (R80_2 self N (finN E0 self Try.f80) noEx) (exB 0 (R80_2 self N (finN E0 self Try.f80) noEx) noEx) N x0 p0.1 (.int .i64 0) p0.2 := by kernel_rfl
theorem isSet_made : IsSet (((Tr.ofListFrom .nil (List.replicate 256 (.bool false)) 0).set (.bool true) 47).set (.bool true) 0) := fun c => by
 have hc := c.toNat_lt
 rw [Tr.get_set, Tr.get_set, Tr.get_ofList]
 unfold badByte
 rw [u8_eq c 47, u8_eq c 0, show UInt8.toNat 47 = 47 from rfl, show UInt8.toNat 0 = 0 from rfl]
 by_cases h0 : c.toNat = 0
 · rw [if_pos h0, h0]; rfl
 · rw [if_neg h0]
   by_cases h1 : c.toNat = 47
   · rw [if_pos h1, h1]; rfl
   · rw [if_neg h1, List.getElem?_replicate, if_pos hc]
     have e1 : decide ((c.toNat : Int) = ((47 : Nat) : Int)) = false := by simp; omega
     have e2 : decide ((c.toNat : Int) = ((0 : Nat) : Int)) = false := by simp; omega
     rw [e1, e2]; rfl
theorem L80_step (self : EV) (N : Nat) (nk : Ac → St → Rs) (ek : Nat → Ac → St → Rs) (n i : Nat) (hi : i < 2) {b e : Nat} {t : Tr V} (S : St) (ho : S.on = false) (h : AgAt S b e 256 t) :
 ∃ S', L80_8 self N nk ek (n + 1) (sv bad2) (.ptr b 0) (.int .i64 (i : Int)) S = L80_8 self N nk ek n (sv bad2) (.ptr b 0) (.int .i64 ((i + 1 : Nat) : Int)) S' ∧ AgAt S' b e 256 (t.set (.bool true) (bad2[i]'hi).toNat) ∧ Grew (fun x => x = b) S S' := by
 obtain ⟨S', h1, h2, h3, _⟩ := h.st1 (i := (bad2[i]'hi).toNat) (v := .bool true) ho big256 (by omega) (bad2[i]'hi).toNat_lt rfl rfl rfl
 refine ⟨S', ?_, h2, h3⟩
 have hlt : decide (((bad2[i]'hi).toNat : Int) ≥ 128) = false := by
  match i, hi with
  | 0, _ => rfl
  | 1, _ => rfl
 rw [L80_8_eq, lnStr_sv, oB, binV_ii, intsV_lss, dec_lt (show i < bad2.length from hi), oB, ifK_bool, cond_true, ixS_sv bad2 .i64 i hi, oB, binV_ii, intsV_geq]
 rw [show decide ((128 : Int) ≤ ((bad2[i]'hi).toNat : Int)) = false from hlt, oB, ifK_bool, cond_false, ixA_ptr 256 1 false 1 .u8 (bad2[i]'hi).toNat_lt, oB, Nat.zero_add, Nat.mul_one, h1, oB, binV_ii, intsV_add, wrap_succ (by omega), oB]
theorem AgAt.stSame {s : St} (ho : s.on = false) {b e z : Nat} {t : Tr V} (h : AgAt s b e z t) (hz : z < big) : ∃ w, stP z (.ptr b 0) (.agg z t) s = some (.tuple [], w) ∧ AgAt w b e z t ∧ Grew (fun x => x = b) s w := by
 obtain ⟨w, h1, h2, h3, _⟩ := h.stA ho hz t
 exact ⟨w, h1, h2, h3⟩
theorem F80_spec (self : EV) (m : Nat) (S : St) (ho : S.on = false) : ∃ t S', F80 self (m + 3) (sv bad2) S = some (.ret (.tuple [.agg 256 t, .bool true]), S') ∧ IsSet t ∧ Grew (fun _ => False) S S' := by
 obtain ⟨k1, k2, k3⟩ := ag_new ho 96 256 (Tr.ofListFrom .nil (List.replicate 256 (.bool false)) 0)
 have hset := isSet_made
 have hon : (nwP 96 256 (Tr.ofListFrom .nil (List.replicate 256 (.bool false)) 0) S).2.on = false := nw_on ho _
 rw [F80_new, oB, nwP_fst]
 generalize (nwP 96 256 (Tr.ofListFrom .nil (List.replicate 256 (.bool false)) 0) S).2 = S1 at *
 obtain ⟨S2, a1, a2, a3⟩ := L80_step self (m + 3) (R80_2 self (m + 3) (finN E0 self Try.f80) noEx) (exB 0 (R80_2 self (m + 3) (finN E0 self Try.f80) noEx) noEx) (m + 2) 0 (by decide) S1 hon k1
 obtain ⟨S3, b1, b2, b3⟩ := L80_step self (m + 3) (R80_2 self (m + 3) (finN E0 self Try.f80) noEx) (exB 0 (R80_2 self (m + 3) (finN E0 self Try.f80) noEx) noEx) (m + 1) 1 (by decide) S2 (a3.on.trans hon) a2
 have on3 := b3.on.trans (a3.on.trans hon)
 obtain ⟨S4, c1, c2, c3⟩ := b2.stSame on3 big256
 refine ⟨_, S4, ?_, hset, k2.own (Nat.le_refl _) (a3.trans (b3.trans c3))⟩
 rw [show (V.int .i64 0) = .int .i64 ((0 : Nat) : Int) from rfl, a1, b1, L80_8_eq, lnStr_sv, oB, binV_ii, intsV_lss, dec_ge (show bad2.length ≤ 1 + 1 by decide), oB, ifK_bool, cond_false, exB_same, R80_2_eq, b2.ldA on3 big256, oB]
 dsimp only
 rw [c1, oB]
 dsimp only
 rw [c2.ldrA (c3.on.trans on3) big256]
 rfl
theorem L77_55_spec (self : EV) (N : Nat) (nk : Ac → St → Rs) (ek : Nat → Ac → St → Rs) (s : List UInt8) (hs : s.length < 9223372036854775808) (b : Nat) (S : St) (h81 : ∀ c : UInt8, self.f 81 [.ptr b 0, .int .u8 (c.toNat : Int)] S = some (.ret (.bool (badByte c)), S)) :
 ∀ (r : List UInt8) (i n : Nat), s.drop i = r → r.length < n → outAny (L77_55 self N nk ek n (sv s) (.ptr b 0) (.int .i64 (i : Int)) S) (fun S => ek 0 (fr 55 []) S) (anyAt s i) S
 | r, i, 0, _, hn => by omega
 | [], i, n + 1, hi, hn => by
  rw [anyAt_end (drop_end hi), L77_55_eq, lnStr_sv, oB, binV_ii, intsV_lss, dec_ge (drop_end hi)]
  rfl
 | c :: r, i, n + 1, hi, hn => by
  obtain ⟨hlt, hc, hr, hmem⟩ := drop_at hi
  rw [L77_55_eq, lnStr_sv, oB, binV_ii, intsV_lss, dec_lt hlt, oB, ifK_bool, cond_true, ixS_sv s .i64 i hlt, hc, oB, h81 c, callP_ret, ifK_bool]
  cases hb : badByte c with
  | true =>
   rw [anyAt_hit hlt (by rw [hc]; exact hb)]
   rfl
  | false =>
   rw [anyAt_one hlt (by rw [hc]; exact hb), cond_false, binV_ii, intsV_add, wrap_succ (by omega), oB]
   exact L77_55_spec self N nk ek s hs b S h81 r (i + 1) n hr (by simp at hn; omega)
def outI (o : Option Nat) : Int := match o with | some j => (j : Int) | none => -1
theorem F77_short (self : EV) (m : Nat) (s : List UInt8) (hs : s.length < m) (S : St) (ho : S.on = false)
 (h78 : ∀ (r : Nat) S, r ≤ 1114111 → self.f 78 [sv bad2, .int .i32 (r : Int)] S = some (.ret (.int .i64 (ixR r)), S)) :
 ∃ S', R77_22 self m (finN E0 self Try.f77) noEx (fr 55 [(0, sv s), (1, sv bad2)]) S = some (.ret (.int .i64 (outI (anyAt s 0))), S') ∧ Grew (fun _ => False) S S' := by
 have hg := grew_nw ho (fun _ => False) (.siter s.length (pack s) 0)
 obtain ⟨S', h1, h2⟩ := L77_spec self m (R77_23 self m (fun a s => projK [4] a fun a => finN E0 self Try.f77 a s) noEx) (exB 2 (R77_23 self m (fun a s => projK [4] a fun a => finN E0 self Try.f77 a s) noEx) noEx) s S.next h78 s.length 0 m (nw S (.siter s.length (pack s) 0)) (by omega) hs (by omega) (nw_on ho _) (by rw [nw_get, if_pos rfl])
 refine ⟨S', ?_, hg.own (Nat.le_refl _) h2⟩
 rw [R77_22_eq, rangeStr_sv, oB]
 unfold outAny at h1
 unfold outI
 cases hx : anyAt s 0 with
 | some j => rw [hx] at h1; exact h1
 | none =>
  rw [hx] at h1
  exact h1.trans (by dsimp only; rw [exB_same, R77_23_eq])
theorem F77_new (self : EV) (N : Nat) (x0 x1 : V) (S : St) : F77 self N x0 x1 S =
(binV E0 .eql 9 false true x1 (sv [])).bind fun t2 =>
ifK t2 (
some (.ret (.int .i64 (-1)), S)) (
(lnStr x1 S).bind fun p5 =>
(binV E0 .eql 3 false true p5.1 (.int .i64 1)).bind fun t6 =>
ifK t6 (
(ixS x1 (.int .i64 0)).bind fun t8 =>
(cvI .i32 t8 p5.2).bind fun p9 =>
(binV E0 .geq 21 false true p9.1 (.int .i32 128)).bind fun t12 =>
ifK t12 (
callP (self.f 78 [x0, (.int .i32 65533)] p9.2) fun t16 S16 =>
some (.ret t16, S16)) (
callP (self.f 78 [x0, p9.1] p9.2) fun t20 S20 =>
some (.ret t20, S20))) (
(lnStr x0 p5.2).bind fun p41 =>
callP (self.f 79 [p41.1] p41.2) fun t42 S42 =>
ifK t42 (
callP (self.f 80 [x1] S42) fun t44 S44 =>
(extractV t44 0).bind fun t46 =>
(extractV t44 1).bind fun t47 =>
(some (nwP 96 256 (Tr.ofListFrom .nil (List.replicate 256 (V.bool false)) 0) S44)).bind fun p48 =>
(stP 256 p48.1 t46 p48.2).bind fun p49 =>
ifK t47 (
L77_55 self N (R77_52 self N (R77_22 self N (finN E0 self Try.f77) noEx) noEx) (exB 0 (R77_52 self N (R77_22 self N (finN E0 self Try.f77) noEx) noEx) noEx) N x0 p48.1 (.int .i64 0) p49.2) (
R77_22 self N (finN E0 self Try.f77) noEx (fr 55 [(0, x0), (1, x1)]) p49.2)) (
R77_22 self N (finN E0 self Try.f77) noEx (fr 55 [(0, x0), (1, x1)]) S42))) := by kernel_rfl
theorem ag_lay {s : St} (ho : s.on = false) (e : Nat) (t0 u : Tr V) : ∃ w, stP 256 (.ptr s.next 0) (.agg 256 u) (nwP e 256 t0 s).2 = some (.tuple [], w) ∧ AgAt w s.next e 256 u ∧ Grew (fun _ => False) s w := by
 obtain ⟨k1, k2, _⟩ := ag_new ho e 256 t0
 obtain ⟨w, h1, h2, h3, _⟩ := k1.stA (nw_on ho _) big256 u
 exact ⟨w, h1, h2, k2.own (Nat.le_refl _) h3⟩
theorem F77_spec (self : EV) (m : Nat) (s : List UInt8) (hs : s.length < m + 3) (hs2 : s.length < 9223372036854775808) (S : St) (ho : S.on = false)
 (h78 : ∀ (r : Nat) S, r ≤ 1114111 → self.f 78 [sv bad2, .int .i32 (r : Int)] S = some (.ret (.int .i64 (ixR r)), S))
 (h79 : ∀ S, self.f 79 [.int .i64 (s.length : Int)] S = some (.ret (.bool (decide ((8 : Int) < (s.length : Int)))), S))
 (h80 : ∀ S, S.on = false → ∃ t S', self.f 80 [sv bad2] S = some (.ret (.tuple [.agg 256 t, .bool true]), S') ∧ IsSet t ∧ Grew (fun _ => False) S S')
 (h81 : ∀ (c : UInt8) S b e t, S.on = false → AgAt S b e 256 t → IsSet t → self.f 81 [.ptr b 0, .int .u8 (c.toNat : Int)] S = some (.ret (.bool (badByte c)), S)) :
 ∃ S', F77 self (m + 3) (sv s) (sv bad2) S = some (.ret (.int .i64 (outI (anyAt s 0))), S') ∧ Grew (fun _ => False) S S' := by
 rw [F77_new, binV_ss, strOp_eql, show (bad2 == []) = false from rfl, oB, ifK_bool, cond_false, lnStr_sv, oB, binV_ii, intsV_eql, show decide ((bad2.length : Int) = 1) = false by decide, oB, ifK_bool, cond_false, lnStr_sv, oB, h79, callP_ret, ifK_bool]
 cases decide ((8 : Int) < (s.length : Int)) with
 | false =>
  rw [cond_false]
  exact F77_short self (m + 3) s hs S ho h78
 | true =>
  obtain ⟨t, S1, k1, k2, k3⟩ := h80 S ho
  have on1 := k3.on.trans ho
  obtain ⟨S2, l1, l2, l3⟩ := ag_lay on1 96 (Tr.ofListFrom .nil (List.replicate 256 (V.bool false)) 0) t
  have on2 := l3.on.trans on1
  have hL := L77_55_spec self (m + 3) (R77_52 self (m + 3) (R77_22 self (m + 3) (finN E0 self Try.f77) noEx) noEx) (exB 0 (R77_52 self (m + 3) (R77_22 self (m + 3) (finN E0 self Try.f77) noEx) noEx) noEx) s hs2 S1.next S2 (fun c => h81 c S2 _ _ t on2 l2 k2) s 0 (m + 3) rfl hs
  refine ⟨S2, ?_, k3.trans l3⟩
  rw [cond_true, k1, callP_ret, show extractV (.tuple [.agg 256 t, .bool true]) 0 = some (.agg 256 t) from rfl, oB, show extractV (.tuple [.agg 256 t, .bool true]) 1 = some (.bool true) from rfl, oB, oB, nwP_fst, l1, oB, ifK_bool, cond_true]
  unfold outAny at hL
  unfold outI
  cases hx : anyAt s 0 with
  | some j => rw [hx] at hL; exact hL
  | none =>
   rw [hx] at hL
   exact hL.trans (by dsimp only; rw [exB_same, R77_52_eq])
theorem outI_any (s : List UInt8) : decide (0 ≤ outI (anyAt s 0)) = s.any badByte := by
 unfold anyAt outI
 rw [List.drop_zero]
 cases h : s.findIdx? badByte with
 | none =>
  rw [List.findIdx?_eq_none_iff] at h
  have : s.any badByte = false := by
   rw [List.any_eq_false]
   intro x hx
   rw [h x hx]; simp
  rw [this]; rfl
 | some j =>
  have : s.any badByte = true := by
   rw [List.any_eq_true]
   rw [List.findIdx?_eq_some_iff_getElem] at h
   obtain ⟨h1, h2, _⟩ := h
   exact ⟨_, List.getElem_mem h1, h2⟩
  rw [this]
  simp
noncomputable def kfAny : KF := specKF (fun p : TextIn => [sv p.s, sv bad2]) (fun p => En.ret (.bool (p.s.any badByte)))
theorem kfAny_run (s : List UInt8) (hs : s.length < 9223372036854775808) (S : St) : kfAny.run [sv s, sv bad2] S = some (.ret (.bool (s.any badByte)), S) :=
 specKF_run (enc := fun p : TextIn => [sv p.s, sv bad2]) (out := fun p => En.ret (.bool (p.s.any badByte))) (fun p q h => by
  simp only [List.cons.injEq, and_true] at h
  rw [sv_inj h]) ⟨s, hs⟩ S
theorem kn74 {K : FuncId → Option KF} (hK : KnOk Try.prog E0 K) (h78 : K 78 = some kfIndexRune) (h77 : K 77 = none) (h79 : K 79 = none) (h80 : K 80 = none) (h81 : K 81 = none) : KnWell Try.prog E0 74 kfAny :=
 specKF_text (fn := Try.f74) (c := C74) (d := B74) E0_ok hK (by kernel_rfl) (by kernel_rfl) (annot_isOf C74 _ (by kernel_rfl)) fun p S ho => by
  obtain ⟨S', h1, h2⟩ := F77_spec (ev E0 K 1) (rounds - 3) p.s (by have := p.hs; unfold rounds; omega) p.hs S ho (fun r S hr => by rw [ev_known h78, kfIndexRune_run r hr])
   (fun S => ev_read (c := C79) (d := B79) (by kernel_rfl) (by kernel_rfl) (annot_isOf C79 _ (by kernel_rfl)) h79 (show F79 (ev E0 K 0) rounds _ S = _ by rw [F79_eq, binV_ii, intsV_gtr]; rfl))
   (fun S ho => by
    obtain ⟨t, S', h1, h2, h3⟩ := F80_spec (ev E0 K 0) (rounds - 3) S ho
    rw [show rounds - 3 + 3 = rounds by unfold rounds; omega] at h1
    exact ⟨t, S', ev_read (c := C80) (d := B80) (by kernel_rfl) (by kernel_rfl) (annot_isOf C80 _ (by kernel_rfl)) h80 h1, h2, h3⟩)
   (fun c S b e t ho h hs => ev_read (c := C81) (d := B81) (by kernel_rfl) (by kernel_rfl) (annot_isOf C81 _ (by kernel_rfl)) h81 (F81_spec (ev E0 K 0) rounds c S ho h (hs c)))
  rw [show rounds - 3 + 3 = rounds by unfold rounds; omega] at h1
  refine ⟨2, .ret (.bool (p.s.any badByte)), S', (?_ : F74 (ev E0 K 2) rounds (sv p.s) (sv bad2) S = _), h2, Fz.same (.bool _)⟩
  rw [F74_eq, ev_read (c := C77) (d := B77) (by kernel_rfl) (by kernel_rfl) (annot_isOf C77 _ (by kernel_rfl)) h77 h1, callP_ret, binV_ii, intsV_geq, outI_any]
  rfl
end Go.Proofs.Ythmkdoaaciamlaa.W
