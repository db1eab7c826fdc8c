/-
  WHAT THE FUNCTIONS COME TO: each is read by the evaluator, printed, and told as a function of data, part 7 of 8 (no condition).
-/
import Derived.Test.YtcbaodegkfokjaaDoorW6
namespace Go.Proofs.YtcbaodegkfokjaaDoor.W
open Go.Proofs.YtcbaodegkfokjaaDoor.Ev
def splitS : List UInt8 → List (List UInt8)
 | [] => [[]]
 | c :: s => if c = 47 then [] :: splitS s else match splitS s with
  | [] => [[c]]
  | p :: ps => (c :: p) :: ps
theorem splitS_ne : ∀ s, splitS s ≠ []
 | [] => by simp [splitS]
 | c :: s => by
  rw [splitS]
  split
  · simp
  · split <;> simp
theorem splitS_append : ∀ a b, splitS (a ++ 47 :: b) = splitS a ++ splitS b
 | [], b => by rw [List.nil_append, show splitS (47 :: b) = [] :: splitS b by rw [splitS, if_pos rfl]]; rfl
 | c :: a, b => by
  rw [List.cons_append, splitS, splitS_append a b, splitS]
  split
  · rfl
  · have := splitS_ne a
    cases h : splitS a with
    | nil => exact absurd h this
    | cons p ps => rfl
theorem split_none : ∀ s : List UInt8, s.findIdx? (fun x => x == 47) = none → splitS s = [s]
 | [], _ => rfl
 | c :: s, h => by
  rw [List.findIdx?_cons] at h
  by_cases hc : c = 47
  · rw [hc] at h; simp at h
  · rw [if_neg (by simpa using hc)] at h
    rw [splitS, if_neg hc, split_none s (by simpa using h)]
theorem split_some : ∀ (s : List UInt8) (i : Nat), s.findIdx? (fun x => x == 47) = some i → i < s.length ∧ splitS s = s.take i :: splitS (s.drop (i + 1))
 | [], i, h => by simp at h
 | c :: s, i, h => by
  rw [List.findIdx?_cons] at h
  by_cases hc : c = 47
  · rw [hc] at h
    simp at h
    subst h
    rw [splitS, if_pos hc]
    exact ⟨by simp, rfl⟩
  · rw [if_neg (by simpa using hc)] at h
    cases hf : s.findIdx? (fun x => x == 47) with
    | none => rw [hf] at h; simp at h
    | some j =>
     rw [hf] at h
     simp at h
     subst h
     obtain ⟨h1, h2⟩ := split_some s j hf
     rw [splitS, if_neg hc, h2]
     exact ⟨by simp; omega, rfl⟩
theorem f43_run {K : FuncId → Option KF} (h43 : K 43 = none) (h52 : K 52 = none) (h48 : K 48 = none) (m : Nat) (s : List UInt8) (S : St) : (ev E0 K (m + 3)).f 43 [sv s, sv [47]] S = some (.ret (.int .i64 (ixB s 47)), S) := by
 have e48 := ev_read (c := C48) (d := B48) (by kernel_rfl) (by kernel_rfl) (annot_isOf C48 _ (by kernel_rfl)) h48 (F73_spec (ev E0 K m) rounds s 47 S)
 have e52 : F52 (ev E0 K (m + 1)) rounds (sv s) (sv [47]) S = some (.ret (.int .i64 (ixB s 47)), S) := by
  rw [F52_eq, lnStr_sv, oB]
  dsimp only
  rw [binV_ii, intsV_eql, show decide ((([47] : List UInt8).length : Int) = 0) = false from rfl, oB, guardV_f, Bool.not_false, oB, cond_true, oB, oB, cond_true, oB, oB, cond_true, binV_ss, strOp_eql, oB, pickV_bool, cond_false, oB, ifK_bool]
  by_cases hs : s = [47]
  · rw [hs]
    rw [beq_self_eq_true, cond_true]
    rfl
  · rw [beq_false_of_ne (fun e => hs e.symm), cond_false, binV_ii, intsV_eql, show decide ((([47] : List UInt8).length : Int) = 1) = true from rfl, oB, ifK_bool, cond_true, show (V.int .i64 0) = .int .i64 ((0 : Nat) : Int) from rfl, ixS_sv [47] .i64 0 (by decide), oB]
    show callP ((ev E0 K (m + 1)).f 48 [sv s, .int .u8 ((47 : UInt8).toNat : Int)] S) _ = _
    rw [e48, callP_ret]
 have e52' := ev_read (c := C52) (d := B52) (by kernel_rfl) (by kernel_rfl) (annot_isOf C52 _ (by kernel_rfl)) h52 e52
 refine ev_read (c := C43) (d := B43) (by kernel_rfl) (by kernel_rfl) (annot_isOf C43 _ (by kernel_rfl)) h43 (?_ : F43 (ev E0 K (m + 2)) rounds (sv s) (sv [47]) S = _)
 rw [F43_eq]
 show callP ((ev E0 K (m + 1 + 1)).f 52 [sv s, sv [47]] S) _ = _
 rw [e52', callP_ret]
def runP {σ : Type} (step : σ → List UInt8 → Option σ) : List (List UInt8) → σ → Option σ
 | [], x => some x
 | p :: ps, x => (step x p).bind (runP step ps)
structure Ys {σ : Type} (K : FuncId → Option KF) (n0 : Nat) (y : V) (step : σ → List UInt8 → Option σ) (I : (Nat → Prop) → σ → St → Prop) (J : (Nat → Prop) → St → Prop) : Prop where
 on : ∀ {O x S}, I O x S → S.on = false
 lt : ∀ {O x S b}, I O x S → O b → b < S.next
 keep : ∀ {O x S S'}, I O x S → Grew O S S' → I (fun b => O b ∨ (S.next ≤ b ∧ b < S'.next)) x S'
 weak : ∀ {O O' x S}, I O x S → (∀ b, O' b → O b) → I O' x S
 call : ∀ {O x S p}, I O x S → p.length ≤ 10000 → ∀ n, n0 ≤ n → ∃ S', callK E0 (ev E0 K n) y [sv p] S = some (.ret (.bool (step x p).isSome), S') ∧ (∀ x', step x p = some x' → I O x' S') ∧ (step x p = none → J O S') ∧ Grew (fun b => ¬ O b) S S'
section
variable {σ : Type} {K : FuncId → Option KF} {n0 : Nat} {y : V} {step : σ → List UInt8 → Option σ} {I : (Nat → Prop) → σ → St → Prop} {J : (Nat → Prop) → St → Prop}
theorem Ys.keepO (h : Ys K n0 y step I J) {O x S S'} (hI : I O x S) (g : Grew O S S') : I O x S' := h.weak (h.keep hI g) fun _ hb => .inl hb
theorem L44_spec (hY : Ys K n0 y step I J) (h43 : K 43 = none) (h52 : K 52 = none) (h48 : K 48 = none) (m : Nat) (hm : n0 ≤ m + 3) (N b1 b2 b3 : Nat) (h12 : b1 ≠ b2) (h23 : b3 ≠ b2) (O : Nat → Prop) (o1 : O b1) (o2 : O b2) (o3 : O b3) :
 ∀ (s : List UInt8) (n : Nat) (x : σ) (S : St), s.length ≤ 10000 → s.length < n → I O x S → Bx S b1 9 [sv [47]] → Bx S b2 9 [sv s] → Bx S b3 3 [.int .i64 0] →
 ∃ S', L44_5 (ev E0 K (m + 3)) N (R44_1 (ev E0 K (m + 3)) N (fun a s => projK [] a fun a => finN E0 (ev E0 K (m + 3)) Tryd.f44 a s) noEx) (exB 2 (R44_1 (ev E0 K (m + 3)) N (fun a s => projK [] a fun a => finN E0 (ev E0 K (m + 3)) Tryd.f44 a s) noEx) noEx) n y (.ptr b1 0) (.ptr b2 0) (.ptr b3 0) S = some (.ret (.tuple []), S') ∧
  (∀ x', runP step (splitS s) x = some x' → I O x' S') ∧ (runP step (splitS s) x = none → J O S') ∧ Grew (fun b => ¬ O b ∨ b = b2) S S'
 | s, 0, x, S, _, hn, _, _, _, _ => by omega
 | s, n + 1, x, S, hs, hn, hI, q1, q2, q3 => by
  have ho := hY.on hI
  have l1 := hY.lt hI o1
  have l2 := hY.lt hI o2
  have l3 := hY.lt hI o3
  have hld : ∀ {v : V}, ([v] : List V)[0]'(by show 0 < 1; decide) = v := rfl
  rw [L44_5_eq, Bx.ld1 ho q2 0 (by show 0 < 1; decide) big1, oB]
  dsimp only
  rw [Bx.ld1 ho q1 0 (by show 0 < 1; decide) big1, oB]
  dsimp only
  rw [hld, hld, f43_run h43 h52 h48 m s S, callP_ret]
  cases hf : s.findIdx? (fun x => x == 47) with
  | none =>
   have hsp := split_none s hf
   obtain ⟨S', c1, c2, c3, c4⟩ := hY.call hI hs (m + 3) hm
   have hfin : (fun a s => projK [] a fun a => finN E0 (ev E0 K (m + 3)) Tryd.f44 a s) (fr 52 []) S' = some (.ret (.tuple []), S') := by kernel_rfl
   refine ⟨S', ?_, fun x' hx => ?_, fun hx => ?_, c4.mono fun b _ hb => .inl hb⟩
   · rw [show ixB s 47 = -1 by unfold ixB; rw [hf], binV_ii, intsV_lss, show decide ((-1 : Int) < 0) = true from rfl, oB, ifK_bool, cond_true, exB_same, R44_1_eq, Bx.ld1 ho q2 0 (by show 0 < 1; decide) big1, oB]
     dsimp only
     rw [hld, c1, callP_ret]
     exact hfin
   · rw [hsp, runP] at hx
     cases hst : step x s with
     | none => rw [hst] at hx; cases hx
     | some x2 =>
      rw [hst] at hx
      have : x2 = x' := by simpa [runP] using hx
      rw [← this]
      exact c2 x2 hst
   · rw [hsp, runP] at hx
     cases hst : step x s with
     | none => exact c3 hst
     | some x2 => rw [hst] at hx; simp [runP] at hx
  | some i =>
   obtain ⟨hi, hsp⟩ := split_some s i hf
   have hpl : (s.take i).length ≤ 10000 := by rw [List.length_take]; omega
   obtain ⟨S1, c1, c2, c3, c4⟩ := hY.call hI hpl (m + 3) hm
   rw [show ixB s 47 = (i : Int) by unfold ixB; rw [hf], binV_ii, intsV_lss, show decide ((i : Int) < 0) = false by simp, oB, ifK_bool, cond_false, Bx.ld1 ho q2 0 (by show 0 < 1; decide) big1, oB]
   dsimp only
   rw [Bx.ld1 ho q3 0 (by show 0 < 1; decide) big1, oB]
   dsimp only
   rw [hld, hld, binV_ii, intsV_add, wrap_i64 (by omega) (by omega), Int.add_zero, oB, slice_sv und9 s (bounds_hi .i64 (by omega)) (by omega), oB]
   dsimp only
   rw [List.drop_zero, Nat.sub_zero, c1, callP_ret, unV_not, oB, ifK_bool]
   cases hst : step x (s.take i) with
   | none =>
    rw [show (!((none : Option σ).isSome)) = true from rfl, cond_true]
    refine ⟨S1, rfl, fun x' hx => ?_, fun _ => c3 hst, c4.mono fun b _ hb => .inl hb⟩
    rw [hsp, runP, hst] at hx
    cases hx
   | some x2 =>
    have on1 := c4.on.trans ho
    have p1 := q1.grew l1 (fun h => h o1) c4
    have p2 := q2.grew l2 (fun h => h o2) c4
    have p3 := q3.grew l3 (fun h => h o3) c4
    have hI1 := c2 x2 hst
    have hst2 := bx_sto on1 p2 (v := sv (s.drop (i + 1))) rfl rfl rfl
    have g2 : Grew (fun b => b = b2) S1 (S1.put b2 (bxO 9 [sv (s.drop (i + 1))])) := grew_put b2 _
    have p2' := bx_put (s := S1) b2 9 [sv (s.drop (i + 1))]
    have n2 : (S1.put b2 (bxO 9 [sv (s.drop (i + 1))])).next = S1.next := rfl
    generalize S1.put b2 (bxO 9 [sv (s.drop (i + 1))]) = S2 at hst2 g2 p2' n2
    have n1 := c4.next
    have hI2 := hY.keepO hI1 (g2.mono fun b _ hb => by rw [hb]; exact o2)
    obtain ⟨S3, k1, k2, k3, k4⟩ := L44_spec hY h43 h52 h48 m hm N b1 b2 b3 h12 h23 O o1 o2 o3 (s.drop (i + 1)) n x2 S2 (by rw [List.length_drop]; omega) (by rw [List.length_drop]; omega) hI2 (p1.grew (by omega) h12 g2) p2' (p3.grew (by omega) h23 g2)
    refine ⟨S3, ?_, fun x' hx => ?_, fun hx => ?_, ((c4.mono fun b _ hb => .inl hb).trans (g2.mono fun b _ hb => .inr hb)).trans k4⟩
    · rw [show (!((some x2 : Option σ).isSome)) = false from rfl, cond_false, Bx.ld1 on1 p2 0 (by show 0 < 1; decide) big1, oB]
      dsimp only
      rw [Bx.ld1 on1 p1 0 (by show 0 < 1; decide) big1, oB]
      dsimp only
      rw [hld, hld, lnStr_sv, oB]
      dsimp only
      rw [binV_ii, intsV_add, show (([47] : List UInt8).length : Int) = 1 from rfl, wrap_succ (by omega), oB, slice_sv und9 s (bounds_lo .i64 (by omega)) (Nat.le_refl _), oB]
      dsimp only
      rw [show List.take (s.length - (i + 1)) (s.drop (i + 1)) = s.drop (i + 1) from List.take_of_length_le (by rw [List.length_drop]; exact Nat.le_refl _), hst2, oB]
      exact k1
    · rw [hsp, runP, hst] at hx
      exact k2 x' hx
    · rw [hsp, runP, hst] at hx
      exact k3 hx
theorem split_run (hY : Ys K n0 y step I J) (h43 : K 43 = none) (h52 : K 52 = none) (h48 : K 48 = none) (h44 : K 44 = none) (m : Nat) (hm : n0 ≤ m + 3) {b1 b2 b3 : Nat} (h12 : b1 ≠ b2) (h23 : b3 ≠ b2) {O : Nat → Prop} (o1 : O b1) (o2 : O b2) (o3 : O b3)
 {s : List UInt8} {x : σ} {S : St} (hs : s.length ≤ 10000) (hI : I O x S) (q1 : Bx S b1 9 [sv [47]]) (q2 : Bx S b2 9 [sv s]) (q3 : Bx S b3 3 [.int .i64 0]) :
 ∃ S', (ev E0 K (m + 4)).f 44 [y, .ptr b1 0, .ptr b2 0, .ptr b3 0] S = some (.ret (.tuple []), S') ∧ (∀ x', runP step (splitS s) x = some x' → I O x' S') ∧ (runP step (splitS s) x = none → J O S') ∧ Grew (fun b => ¬ O b ∨ b = b2) S S' := by
 obtain ⟨S', h1, h2⟩ := L44_spec hY h43 h52 h48 m hm rounds b1 b2 b3 h12 h23 O o1 o2 o3 s rounds x S hs (by unfold rounds; omega) hI q1 q2 q3
 refine ⟨S', ev_read (c := C44) (d := B44) (by kernel_rfl) (by kernel_rfl) (annot_isOf C44 _ (by kernel_rfl)) h44 (?_ : F44 (ev E0 K (m + 3)) rounds y (.ptr b1 0) (.ptr b2 0) (.ptr b3 0) S = _), h2⟩
 rw [F44_eq, Bx.ld1 (hY.on hI) q1 0 (by show 0 < 1; decide) big1, oB]
 dsimp only
 rw [show ([sv [47]] : List V)[0]'(by show 0 < 1; decide) = sv [47] from rfl, lnStr_sv, oB]
 dsimp only
 rw [binV_ii, intsV_eql, show decide ((([47] : List UInt8).length : Int) = 0) = false from rfl, oB, ifK_bool, cond_false, R44_0_eq]
 exact h1
end
theorem body44 : E0.ext.get 44 = none ∧ hasBody E0 44 = true := ⟨by kernel_rfl, by kernel_rfl⟩
theorem f21_run {K : FuncId → Option KF} (h21 : K 21 = none) (h31 : K 31 = none) (m : Nat) (s : List UInt8) (S : St) (ho : S.on = false) :
 ∃ S', (ev E0 K (m + 2)).f 21 [sv s, sv [47]] S = some (.ret (.fn (.func 44) [] [.ptr (S.next + 1) 0, .ptr S.next 0, .ptr (S.next + 2) 0]), S') ∧ Bx S' S.next 9 [sv s] ∧ Bx S' (S.next + 1) 9 [sv [47]] ∧ Bx S' (S.next + 2) 3 [.int .i64 0] ∧ Grew (fun _ => False) S S' ∧ S'.next = S.next + 3 := by
 obtain ⟨S1, a1, a2, a3, a4⟩ := box_one ho 9 (oneV_sv s)
 have on1 := a3.on.trans ho
 obtain ⟨S2, b1, b2, b3, b4⟩ := box_one on1 9 (oneV_sv [47])
 have on2 := b3.on.trans on1
 obtain ⟨S3, c1, c2, c3, c4⟩ := box_one on2 3 (oneV_int .i64 0)
 rw [a4] at b1 b2 b4
 rw [b4] at c1 c2
 have e31 := ev_read (K := K) (n := m) (c := C31) (d := B31) (args := [sv s, sv [47], .int .i64 0]) (s := S) (r := (.ret (.fn (.func 44) [] [.ptr (S.next + 1) 0, .ptr S.next 0, .ptr (S.next + 2) 0]), S3)) (by kernel_rfl) (by kernel_rfl) (annot_isOf C31 _ (by kernel_rfl)) h31 (by
  show F31 (ev E0 K m) rounds (sv s) (sv [47]) (.int .i64 0) S = _
  rw [F31_eq, a1, oB]
  dsimp only
  rw [b1, oB]
  dsimp only
  rw [c1, oB])
 refine ⟨S3, ev_read (c := C21) (d := B21) (by kernel_rfl) (by kernel_rfl) (annot_isOf C21 _ (by kernel_rfl)) h21 (?_ : F21 (ev E0 K (m + 1)) rounds (sv s) (sv [47]) S = _), (a2.grew (by omega) (fun h => h) b3).grew (by omega) (fun h => h) c3, b2.grew (by omega) (fun h => h) c3, c2, (a3.trans b3).trans c3, by omega⟩
 rw [F21_eq, e31, callP_ret]
end Go.Proofs.YtcbaodegkfokjaaDoor.W
namespace Go.Proofs.YtcbaodegkfokjaaDoor.W
open Go.Proofs.YtcbaodegkfokjaaDoor.Ev
def stepF (x : Nd) (p : List UInt8) : Option Nd := if x.kind = 2 ∧ p ≠ [] then x.kids.find? (fun y => y.name == p) else none
def findS (x : Nd) (p : List UInt8) : Option Nd := if p = [] then some x else runP stepF (splitS p) x
def zN : Nd := .mk [] 0 false [] []
theorem build_zN : buildV E0 24 [] = some (encN zN) := by
 unfold zN
 rw [encN, encL]
 kernel_rfl
def ixName (l : List Nd) (p : List UInt8) : Int := match l.findIdx? (fun y => y.name == p) with | some i => (i : Int) | none => -1
theorem body23 : E0.ext.get 23 = none ∧ hasBody E0 23 = true := ⟨by kernel_rfl, by kernel_rfl⟩
theorem f23_run {K : FuncId → Option KF} (h23 : K 23 = none) (m : Nat) (y : Nd) (p : List UInt8) (b : Nat) (S : St) (ho : S.on = false) (hb : Bx S b 9 [sv p]) (lb : b < S.next) :
 ∃ S', callK E0 (ev E0 K (m + 1)) (.fn (.func 23) [] [.ptr b 0]) [encN y] S = some (.ret (.bool (y.name == p)), S') ∧ Grew (fun _ => False) S S' := by
 obtain ⟨S1, a1, a2, a3, a4⟩ := node_box ho y
 refine ⟨S1, ?_, a3⟩
 rw [callK_fn body23.1 body23.2]
 refine ev_read (c := C23) (d := B23) (by kernel_rfl) (by kernel_rfl) (annot_isOf C23 _ (by kernel_rfl)) h23 (?_ : F23 (ev E0 K m) rounds (encN y) (.ptr b 0) S = _)
 rw [F23_eq, a1, oB]
 dsimp only
 rw [faP_ptr, oB, Nat.zero_add, a2.f0, oB]
 dsimp only
 rw [Bx.ld1 a2.on (hb.grew lb (fun h => h) a3) 0 (by show 0 < 1; decide) big1, oB]
 dsimp only
 rw [show ([sv p] : List V)[0]'(by show 0 < 1; decide) = sv p from rfl, binV_ss, strOp_eql, oB]
theorem L22_spec {K : FuncId → Option KF} (h23 : K 23 = none) (m N : Nat) (all : List Nd) (hfew : all.length ≤ 3000) (p : List UInt8) (b : Nat) :
 ∀ (r : List Nd) (i n : Nat) (S : St), all.drop i = r → r.length < n → S.on = false → Bx S b 9 [sv p] → b < S.next →
 ∃ S', L22_6 (ev E0 K (m + 1)) N (R22_1 (ev E0 K (m + 1)) N (finN E0 (ev E0 K (m + 1)) Tryd.f22) noEx) (exB 0 (R22_1 (ev E0 K (m + 1)) N (finN E0 (ev E0 K (m + 1)) Tryd.f22) noEx) noEx) n (kidsV (encL all)) (.fn (.func 23) [] [.ptr b 0]) (.int .i64 (all.length : Int)) (.int .i64 (i : Int)) S = some (.ret (.int .i64 (match r.findIdx? (fun y => y.name == p) with | some j => ((i + j : Nat) : Int) | none => -1)), S') ∧ Grew (fun _ => False) S S'
 | r, i, 0, S, _, hn, _, _, _ => by omega
 | [], i, n + 1, S, hi, hn, ho, hb, lb => by
  rw [L22_6_eq, binV_ii, intsV_lss, dec_ge (drop_end hi), oB, ifK_bool, cond_false, exB_same, R22_1_eq]
  exact ⟨S, rfl, Grew.refl _ _⟩
 | z :: r, i, n + 1, S, hi, hn, ho, hb, lb => by
  obtain ⟨hlt, hz, hr, hmem⟩ := drop_at hi
  obtain ⟨S1, a1, a2⟩ := f23_run h23 m z p b S ho hb lb
  rw [L22_6_eq, binV_ii, intsV_lss, dec_lt hlt, oB, ifK_bool, cond_true, ixP_kids all i hlt, hz, oB, ldA_kid, oB]
  dsimp only
  rw [a1, callP_ret, ifK_bool, List.findIdx?_cons]
  by_cases h : (z.name == p) = true
  · rw [h, cond_true, if_pos rfl]
    exact ⟨S1, rfl, a2⟩
  · rw [Bool.not_eq_true] at h
    obtain ⟨S2, b1, b2⟩ := L22_spec h23 m N all hfew p b r (i + 1) n S1 hr (by simp at hn; omega) (a2.on.trans ho) (hb.grew lb (fun h => h) a2) (by have := a2.next; omega)
    refine ⟨S2, ?_, a2.trans b2⟩
    rw [h, cond_false, if_neg (by simp), binV_ii, intsV_add, wrap_succ (by omega), oB, b1]
    cases r.findIdx? (fun y => y.name == p) with
    | none => rfl
    | some j => simp only [Option.map_some]; rw [show i + 1 + j = i + (j + 1) by omega]
theorem f22_run {K : FuncId → Option KF} (h22 : K 22 = none) (h23 : K 23 = none) (m : Nat) (l : List Nd) (hfew : l.length ≤ 3000) (p : List UInt8) (b : Nat) (S : St) (ho : S.on = false) (hb : Bx S b 9 [sv p]) (lb : b < S.next) :
 ∃ S', (ev E0 K (m + 2)).f 22 [kidsV (encL l), .fn (.func 23) [] [.ptr b 0]] S = some (.ret (.int .i64 (ixName l p)), S') ∧ Grew (fun _ => False) S S' := by
 obtain ⟨S', h1, h2⟩ := L22_spec h23 m rounds l hfew p b l 0 rounds S rfl (by unfold rounds; omega) ho hb lb
 refine ⟨S', ev_read (c := C22) (d := B22) (by kernel_rfl) (by kernel_rfl) (annot_isOf C22 _ (by kernel_rfl)) h22 (?_ : F22 (ev E0 K (m + 1)) rounds (kidsV (encL l)) (.fn (.func 23) [] [.ptr b 0]) S = _), h2⟩
 rw [F22_eq, lnS_kids, oB]
 dsimp only
 rw [show ((0 : Nat) : Int) = 0 from rfl] at h1
 rw [h1]
 unfold ixName
 cases l.findIdx? (fun y => y.name == p) with
 | none => rfl
 | some j => simp only [Nat.zero_add]
theorem find_ix : ∀ (l : List Nd) (p : List UInt8), (l.findIdx? (fun y => y.name == p) = none ∧ l.find? (fun y => y.name == p) = none) ∨ ∃ i, ∃ h : i < l.length, l.findIdx? (fun y => y.name == p) = some i ∧ l.find? (fun y => y.name == p) = some l[i]
 | [], p => .inl ⟨rfl, rfl⟩
 | z :: l, p => by
  by_cases h : (z.name == p) = true
  · refine .inr ⟨0, by simp, ?_, ?_⟩
    · rw [List.findIdx?_cons, if_pos h]
    · rw [List.find?_cons, h]; rfl
  · rw [Bool.not_eq_true] at h
    rcases find_ix l p with ⟨h1, h2⟩ | ⟨i, hi, h1, h2⟩
    · refine .inl ⟨?_, ?_⟩
      · rw [List.findIdx?_cons, h, h1]; rfl
      · rw [List.find?_cons, h]; exact h2
    · refine .inr ⟨i + 1, by simp; omega, ?_, ?_⟩
      · rw [List.findIdx?_cons, h, h1]; rfl
      · rw [List.find?_cons, h]; exact h2
structure FindI (l p0 p1 p2 : Nat) (O : Nat → Prop) (x : Nd) (S : St) : Prop where
 on : S.on = false
 lt : ∀ b, O b → b < S.next
 hl : ¬ O l
 h0 : ¬ O p0
 h1 : ¬ O p1
 h2 : ¬ O p2
 n0 : p0 ≠ l
 n1 : p1 ≠ l
 n2 : p2 ≠ l
 n01 : p0 ≠ p1
 n02 : p0 ≠ p2
 n12 : p1 ≠ p2
 ll : l < S.next
 l0 : p0 < S.next
 l1 : p1 < S.next
 l2 : p2 < S.next
 ok : x.ok
 rec_ : S.heap.get l = some (O7_14 0 none (.ptr p0 0) (.ptr p1 0) (.ptr p2 0))
 node : AgAt S p0 24 5 (treeN x)
 out : ∃ t, AgAt S p1 24 5 t
 is : ∃ t, AgAt S p2 4 1 t
structure FindJ (l p0 p1 p2 : Nat) (O : Nat → Prop) (S : St) : Prop where
 on : S.on = false
 rec_ : S.heap.get l = some (O7_14 1 (some .ret) (.ptr p0 0) (.ptr p1 0) (.ptr p2 0))
 ll : l < S.next
 l1 : p1 < S.next
 l2 : p2 < S.next
 out : AgAt S p1 24 5 (treeN zN)
 is : AgAt S p2 4 1 (one (.bool false))
theorem find_ys {K : FuncId → Option KF} (h22 : K 22 = none) (h23 : K 23 = none) (l p0 p1 p2 : Nat) : Ys K 4 (.yield l) stepF (FindI l p0 p1 p2) (FindJ l p0 p1 p2) where
 on := fun h => h.on
 lt := fun h => h.lt _
 keep := fun {O x S S'} h g => by
  have hn := g.next
  have ll := h.ll
  have l0 := h.l0
  have l1 := h.l1
  have l2 := h.l2
  refine ⟨g.on.trans h.on, fun b hb => ?_, fun hb => ?_, fun hb => ?_, fun hb => ?_, fun hb => ?_, h.n0, h.n1, h.n2, h.n01, h.n02, h.n12, by omega, by omega, by omega, by omega, h.ok, by rw [g.keep l h.ll h.hl]; exact h.rec_, h.node.grew h.l0 h.h0 g, ?_, ?_⟩
  · rcases hb with hb | hb
    · have := h.lt b hb; omega
    · exact hb.2
  · rcases hb with hb | hb
    · exact h.hl hb
    · omega
  · rcases hb with hb | hb
    · exact h.h0 hb
    · omega
  · rcases hb with hb | hb
    · exact h.h1 hb
    · omega
  · rcases hb with hb | hb
    · exact h.h2 hb
    · omega
  · obtain ⟨t, ht⟩ := h.out
    exact ⟨t, ht.grew h.l1 h.h1 g⟩
  · obtain ⟨t, ht⟩ := h.is
    exact ⟨t, ht.grew h.l2 h.h2 g⟩
 weak := fun h hw => ⟨h.on, fun b hb => h.lt b (hw b hb), fun hb => h.hl (hw _ hb), fun hb => h.h0 (hw _ hb), fun hb => h.h1 (hw _ hb), fun hb => h.h2 (hw _ hb), h.n0, h.n1, h.n2, h.n01, h.n02, h.n12, h.ll, h.l0, h.l1, h.l2, h.ok, h.rec_, h.node, h.out, h.is⟩
 call := fun {O x S p} h hp n hn => by
  obtain ⟨k, rfl⟩ : ∃ k, n = k + 4 := ⟨n - 4, by omega⟩
  have ho := h.on
  have ll := h.ll
  have l0 := h.l0
  have l1 := h.l1
  have l2 := h.l2
  obtain ⟨S1, a1, a2, a3, a4⟩ := one_new ho 9 (sv []) (sv p) rfl rfl rfl
  have on1 := a3.on.trans ho
  have hrec1 : S1.heap.get l = some (O7_14 0 none (.ptr p0 0) (.ptr p1 0) (.ptr p2 0)) := by rw [a3.keep l ll (fun h => h)]; exact h.rec_
  have hmid : midR l (frR 34 [(2, .ptr p0 0), (4, .ptr p1 0), (5, .ptr p2 0), (6, .ptr S.next 0), (13, sv p)] l) S1 = fun k => k (S1.put l (O7_14 2 none (.ptr p0 0) (.ptr p1 0) (.ptr p2 0))) := funext fun k => midR_of on1 hrec1 rfl
  have g2 : Grew (fun b => b = l) S1 (S1.put l (O7_14 2 none (.ptr p0 0) (.ptr p1 0) (.ptr p2 0))) := grew_put l _
  have hl2 : (S1.put l (O7_14 2 none (.ptr p0 0) (.ptr p1 0) (.ptr p2 0))).heap.get l = some (O7_14 2 none (.ptr p0 0) (.ptr p1 0) (.ptr p2 0)) := by rw [put_get, if_pos rfl]
  have nn2 : (S1.put l (O7_14 2 none (.ptr p0 0) (.ptr p1 0) (.ptr p2 0))).next = S1.next := rfl
  generalize S1.put l (O7_14 2 none (.ptr p0 0) (.ptr p1 0) (.ptr p2 0)) = S2 at g2 hl2 nn2 hmid
  have on2 := g2.on.trans on1
  have hp2 := a2.grew (by omega) (by omega) g2
  have g02 : Grew (fun b => b = l) S S2 := (a3.mono fun _ _ h => h.elim).trans g2
  have c0 := h.node.grew l0 h.n0 g02
  obtain ⟨t1, ht1⟩ := h.out
  have c1 := ht1.grew l1 h.n1 g02
  obtain ⟨t2, ht2⟩ := h.is
  have c2 := ht2.grew l2 h.n2 g02
  have stop : ∀ S3, Grew (fun _ => False) S2 S3 → ∃ S', ((buildV E0 24 []).bind fun t33 => (stP 5 (.ptr p1 0) t33 S3).bind fun p34 => (stP 1 (.ptr p2 0) (.bool false) p34.2).bind fun p35 => endRound l 1 (some .ret) false p35.2) = some (.ret (.bool false), S') ∧ FindJ l p0 p1 p2 O S' ∧ Grew (fun b => ¬ O b) S S' := fun S3 g3 => by
   have on3 := g3.on.trans on2
   have nn3 := g3.next
   obtain ⟨S4, e1, e2, e3, e4⟩ := (c1.grew (by omega) (fun h => h) g3).stA on3 big5 (treeN zN)
   have on4 := e3.on.trans on3
   have c2' := (c2.grew (by omega) (fun h => h) g3).grew (by omega) (fun e => h.n12 e.symm) e3
   obtain ⟨S5, f1, f2, f3, f4⟩ := c2'.st_one on4 (.bool false) rfl rfl rfl
   have on5 := f3.on.trans on4
   have hl5 : S5.heap.get l = some (O7_14 2 none (.ptr p0 0) (.ptr p1 0) (.ptr p2 0)) := by
    rw [f3.keep l (by omega) (fun e => h.n2 e.symm), e3.keep l (by omega) (fun e => h.n1 e.symm), g3.keep l (by omega) (fun h => h)]; exact hl2
   have g6 : Grew (fun b => b = l) S5 (S5.put l (O7_14 1 (some .ret) (.ptr p0 0) (.ptr p1 0) (.ptr p2 0))) := grew_put l _
   have hfin := endRound_of (st' := 1) (pend' := some .ret) (back := false) on5 hl5
   refine ⟨S5.put l (O7_14 1 (some .ret) (.ptr p0 0) (.ptr p1 0) (.ptr p2 0)), ?_, ⟨g6.on.trans on5, by rw [put_get, if_pos rfl], by show l < S5.next; omega, by show p1 < S5.next; omega, by show p2 < S5.next; omega, (e2.grew (by omega) h.n12 f3).grew (by omega) h.n1 g6, f2.grew (by omega) h.n2 g6⟩, ?_⟩
   · rw [build_zN, oB, encN_tree, e1, oB]
     dsimp only
     rw [f1, oB]
     exact hfin
   · refine ((((g02.mono fun b _ hb => ?_).trans (g3.mono fun _ _ hb => hb.elim)).trans (e3.mono fun b _ hb => ?_)).trans (f3.mono fun b _ hb => ?_)).trans (g6.mono fun b _ hb => ?_)
     · rw [hb]; exact h.hl
     · rw [hb]; exact h.h1
     · rw [hb]; exact h.h2
     · rw [hb]; exact h.hl
  have hfk : ∀ (i : Nat) v, (cellsN x)[i]? = some v → ld1 (.ptr p0 i) S2 = some (v, S2) := fun i v hi => by
   have hlt := (List.getElem?_eq_some_iff.1 hi).1
   exact AgAt.ld1 on2 c0 big5 (show i < 5 from hlt) (by unfold treeN; rw [Tr.get_ofList]; exact hi)
  suffices hY : ∃ S', Y7_14 (ev E0 K (k + 3)) rounds l (.ptr p0 0) (.ptr p1 0) (.ptr p2 0) (sv p) S = some (.ret (.bool (stepF x p).isSome), S') ∧ (∀ x', stepF x p = some x' → FindI l p0 p1 p2 O x' S') ∧ (stepF x p = none → FindJ l p0 p1 p2 O S') ∧ Grew (fun b => ¬ O b) S S' by
   obtain ⟨S', y1, y2⟩ := hY
   exact ⟨S', round_run (da := DA7_14) (db := DB7_14) ho h.rec_ (annot_isOf YA7_14 _ (by kernel_rfl)) (annot_isOf YB7_14 _ (by kernel_rfl)) y1, y2⟩
  rw [Y7_14_eq, oB, nwP_fst, a1, oB]
  dsimp only
  rw [hmid]
  dsimp only
  rw [faP_ptr, oB, Nat.zero_add, hfk 1 _ rfl, oB]
  dsimp only
  rw [binV_ii, intsV_eql, oB, guardV_t, oB]
  by_cases hk : x.kind = 2
  · rw [decide_eq_true hk, cond_true, Bx.ld1 on2 hp2 0 (by show 0 < 1; decide) big1, oB, oB, cond_true]
    dsimp only
    rw [show ([sv p] : List V)[0]'(by show 0 < 1; decide) = sv p from rfl, show (sv []) = sv ([] : List UInt8) from rfl, binV_ss, strOp_neq, oB, pickV_bool, cond_true, oB, ifK_bool]
    by_cases hpe : p = []
    · obtain ⟨S', z1, z2, z3⟩ := stop S2 (Grew.refl _ _)
      have hst : stepF x p = none := by unfold stepF; rw [if_neg (fun h => h.2 hpe)]
      refine ⟨S', ?_, fun x' hx => ?_, fun _ => z2, z3⟩
      · rw [beq_iff_eq.2 hpe, Bool.not_true, cond_false, binV_ii, intsV_lss, show decide ((-1 : Int) < 0) = true from rfl, oB, ifK_bool, cond_true, hst]
        exact z1
      · rw [hst] at hx; cases hx
    · rw [beq_false_of_ne hpe, Bool.not_false, cond_true, faP_ptr, oB, Nat.zero_add, hfk 4 _ rfl, oB]
      dsimp only
      obtain ⟨S3, d1, d2⟩ := f22_run h22 h23 (k + 1) x.kids h.ok.at.few p S.next S2 on2 hp2 (by omega)
      have on3 := d2.on.trans on2
      have nn3 := d2.next
      rw [d1, callE_ret, binV_ii, intsV_lss, oB, ifK_bool]
      have hstep : stepF x p = x.kids.find? (fun y => y.name == p) := by unfold stepF; rw [if_pos ⟨hk, hpe⟩]
      rcases find_ix x.kids p with ⟨f1, f2⟩ | ⟨i, hi, f1, f2⟩
      · obtain ⟨S', z1, z2, z3⟩ := stop S3 d2
        have hst := hstep.trans f2
        refine ⟨S', ?_, fun x' hx => ?_, fun _ => z2, z3⟩
        · rw [show ixName x.kids p = -1 by unfold ixName; rw [f1], show decide ((-1 : Int) < 0) = true from rfl, cond_true, hst]
          exact z1
        · rw [hst] at hx; cases hx
      · have hst := hstep.trans f2
        have hix : ixName x.kids p = (i : Int) := by unfold ixName; rw [f1]
        have c0' := c0.grew (by omega) (fun h => h) d2
        have hf4 : ld1 (.ptr p0 4) S3 = some (kidsV (encL x.kids), S3) := AgAt.ld1 on3 c0' big5 (by decide) (by unfold treeN; rw [Tr.get_ofList]; rfl)
        obtain ⟨S4, e1, e2, e3, e4⟩ := c0'.stA on3 big5 (treeN x.kids[i])
        have on4 := e3.on.trans on3
        have hl4 : S4.heap.get l = some (O7_14 2 none (.ptr p0 0) (.ptr p1 0) (.ptr p2 0)) := by
         rw [e3.keep l (by omega) (fun e => h.n0 e.symm), d2.keep l (by omega) (fun h => h)]; exact hl2
        have g6 : Grew (fun b => b = l) S4 (S4.put l (O7_14 0 none (.ptr p0 0) (.ptr p1 0) (.ptr p2 0))) := grew_put l _
        have hfin := endRound_of (st' := 0) (pend' := none) (back := true) on4 hl4
        refine ⟨S4.put l (O7_14 0 none (.ptr p0 0) (.ptr p1 0) (.ptr p2 0)), ?_, fun x' hx => ?_, fun hx => (by rw [hst] at hx; cases hx), ?_⟩
        · rw [hix, show decide ((i : Int) < 0) = false by simp, cond_false, oB, hf4, oB]
          dsimp only
          rw [ixP_kids x.kids i hi, oB, ldA_kid, oB, hst]
          dsimp only
          rw [encN_tree, e1, oB]
          exact hfin
        · rw [hst] at hx
          have hx : x.kids[i] = x' := by simpa using hx
          subst hx
          have c1' := ((c1.grew (by omega) (fun h => h) d2).grew (by omega) (fun e => h.n01 e.symm) e3).grew (by omega) h.n1 g6
          have c2' := ((c2.grew (by omega) (fun h => h) d2).grew (by omega) (fun e => h.n02 e.symm) e3).grew (by omega) h.n2 g6
          exact ⟨g6.on.trans on4, fun b hb => by have := h.lt b hb; show b < S4.next; omega, h.hl, h.h0, h.h1, h.h2, h.n0, h.n1, h.n2, h.n01, h.n02, h.n12, by show l < S4.next; omega, by show p0 < S4.next; omega, by show p1 < S4.next; omega, by show p2 < S4.next; omega, h.ok.at.kids _ (List.getElem_mem hi), by rw [put_get, if_pos rfl], e2.grew (by omega) h.n0 g6, ⟨_, c1'⟩, ⟨_, c2'⟩⟩
        · refine (((g02.mono fun b _ hb => ?_).trans (d2.mono fun _ _ hb => hb.elim)).trans (e3.mono fun b _ hb => ?_)).trans (g6.mono fun b _ hb => ?_)
          · rw [hb]; exact h.hl
          · rw [hb]; exact h.h0
          · rw [hb]; exact h.hl
  · obtain ⟨S', z1, z2, z3⟩ := stop S2 (Grew.refl _ _)
    have hst : stepF x p = none := by unfold stepF; rw [if_neg (fun h => hk h.1)]
    refine ⟨S', ?_, fun x' hx => ?_, fun _ => z2, z3⟩
    · rw [decide_eq_false hk, cond_false, oB, oB, cond_false, oB, pickV_bool, cond_false, oB, ifK_bool, cond_false, binV_ii, intsV_lss, show decide ((-1 : Int) < 0) = true from rfl, oB, ifK_bool, cond_true, hst]
      exact z1
    · rw [hst] at hx; cases hx
end Go.Proofs.YtcbaodegkfokjaaDoor.W
namespace Go.Proofs.YtcbaodegkfokjaaDoor.W
open Go.Proofs.YtcbaodegkfokjaaDoor.Ev
theorem agAt_cells {s : St} {b e z : Nat} {t : Tr V} (h : AgAt s b e z t) {o : O} (hd : s.heap.get b = some o) (hn : ∀ a c d l m, o ≠ .cells a c d l m) : False := by
 obtain ⟨c, h1, _⟩ := h
 rw [h1] at hd
 cases hd
 exact hn _ _ _ _ _ rfl
theorem fin7 {self : EV} {a : Ac} {p1 p2 : Nat} {t : Tr V} {v : V} (S : St) (ho : S.on = false) (bs : List Nat) (hd : a.defers = bs.map mkR) (h4 : evO E0 a (.tmp 4) = some (.ptr p1 0)) (h5 : evO E0 a (.tmp 5) = some (.ptr p2 0)) (hn : bs.Nodup) (h : ∀ b ∈ bs, S.heap.get b = some .defb)
 (ho1 : AgAt S p1 24 5 t) (ho2 : AgAt S p2 4 1 (one v)) (l1 : p1 < S.next) (l2 : p2 < S.next) : ∃ S', finR E0 self Tryd.f7 a S = some (.ret (.tuple [.agg 5 t, v]), S') ∧ Grew (fun b => b ∈ bs) S S' := by
 have key : ∀ S, S.on = false → AgAt S p1 24 5 t → AgAt S p2 4 1 (one v) → ((evO E0 a (.tmp 4)).bind fun v => (ldRes E0 24 v S).bind fun p => (evO E0 a (.tmp 5)).bind fun w => (ldRes E0 4 w p.2).bind fun q => some (En.ret (.tuple [p.1, q.1]), q.2)) = some (.ret (.tuple [.agg 5 t, v]), S) := fun S ho k1 k2 => by
  rw [h4, oB, show ldRes E0 24 (.ptr p1 0) S = ldrA 5 (.ptr p1 0) S by kernel_rfl, k1.ldrA ho big5, oB, h5, oB]
  dsimp only
  rw [show ldRes E0 4 (.ptr p2 0) S = ldr1 (.ptr p2 0) S by kernel_rfl, k2.ldr_one ho, oB]
 have hlv : ∀ S, leaves E0 self Tryd.f7 a [] .ret S = ((resultsV E0 a Tryd.f7.results.toList S).bind fun q => some (.ret (oneOr q.1), q.2)) := fun S => by kernel_rfl
 have hrk : ∀ S, resK E0 a Tryd.f7.results.toList (fun vs s => some (.ret (oneOr vs), s)) S = ((evO E0 a (.tmp 4)).bind fun v => (ldRes E0 24 v S).bind fun p => (evO E0 a (.tmp 5)).bind fun w => (ldRes E0 4 w p.2).bind fun q => some (En.ret (.tuple [p.1, q.1]), q.2)) := fun S => by kernel_rfl
 cases bs with
 | nil =>
  refine ⟨S, ?_, Grew.refl _ _⟩
  unfold finR
  rw [hd]
  show resK E0 a Tryd.f7.results.toList _ S = _
  rw [hrk S, key S ho ho1 ho2]
 | cons b bs =>
  obtain ⟨S', h1, h2, h3⟩ := leaves_marks (E := E0) (self := self) (fn := Tryd.f7) (a := a) (m := .ret) (b :: bs) ho hn h
  have hne : ∀ {p e z u}, AgAt S p e z u → p ∉ b :: bs := fun hp hm => agAt_cells hp (h _ hm) (fun _ _ _ _ _ hh => by cases hh)
  have o1' := ho1.grew l1 (hne ho1) h2
  have o2' := ho2.grew l2 (hne ho2) h2
  refine ⟨S', ?_, h2⟩
  rw [finR_defer (d := mkR b) (ds := bs.map mkR) (by rw [hd]; rfl)]
  rw [List.map_cons] at h1
  rw [h1]
  exact lvK_sound (ALe.refl a) (by
   have hk : lvK E0 self Tryd.f7 a [] .ret S' = ((evO E0 a (.tmp 4)).bind fun v => (ldRes E0 24 v S').bind fun p => (evO E0 a (.tmp 5)).bind fun w => (ldRes E0 4 w p.2).bind fun q => some (En.ret (.tuple [p.1, q.1]), q.2)) := by kernel_rfl
   rw [hk, key S' (h2.on.trans ho) o1' o2'])
structure FindIn where
 x : Nd
 ok : x.ok
 p : List UInt8
 hp : p.length ≤ 10000
noncomputable def encFind (q : FindIn) : List V := [encN q.x, sv q.p]
noncomputable def outFind (x : Nd) (p : List UInt8) : V := .tuple [encN ((findS x p).getD zN), .bool (findS x p).isSome]
noncomputable def kfFind : KF := specKF encFind (fun q => En.ret (outFind q.x q.p))
theorem kfFind_run (x : Nd) (ok : x.ok) (p : List UInt8) (hp : p.length ≤ 10000) (S : St) : kfFind.run [encN x, sv p] S = some (.ret (outFind x p), S) :=
 specKF_run (enc := encFind) (out := fun q => En.ret (outFind q.x q.p)) (fun a b h => by
  simp only [encFind, List.cons.injEq, and_true] at h
  rw [encN_inj h.1, sv_inj h.2]) ⟨x, ok, p, hp⟩ S
theorem F7_spec {K : FuncId → Option KF} (h21 : K 21 = none) (h31 : K 31 = none) (h22 : K 22 = none) (h23 : K 23 = none) (h43 : K 43 = none) (h44 : K 44 = none) (h48 : K 48 = none) (h52 : K 52 = none) (x : Nd) (ok : x.ok) (p : List UInt8) (hp : p.length ≤ 10000) (S : St) (ho : S.on = false) :
 ∃ S', F7 (ev E0 K 10) rounds (encN x) (sv p) S = some (.ret (outFind x p), S') ∧ Grew (fun _ => False) S S' := by
 obtain ⟨S1, k1, k2, k3, k4⟩ := box_new ho 24 (cellsN x)
 have on1 := k3.on.trans ho
 obtain ⟨t0, b0, bget⟩ := VarAt.agg (Bx.var k2 (by show 0 < 5; decide) big5)
 have b0 : AgAt S1 S.next 24 5 t0 := b0
 have l1 : ldA 5 (.ptr S.next 0) S1 = some (encN x, S1) := by rw [encN_cells]; exact Bx.ldA on1 k2 rfl big5
 obtain ⟨c1, c2, c3⟩ := ag_new on1 24 5 (Tr.ofListFrom .nil [(sv []), (.int .i64 0), (.bool false), (sv []), .nilslice] 0)
 have hF := F7_eq (ev E0 K 10) rounds (encN x) (sv p) S
 rw [encN_cells, k1, oB, oB, nwP_fst] at hF
 dsimp only at hF
 generalize (nwP 24 5 (Tr.ofListFrom .nil [(sv []), (.int .i64 0), (.bool false), (sv []), .nilslice] 0) S1).2 = S2 at c1 c2 c3 hF
 have on2 := c2.on.trans on1
 obtain ⟨d1, d2, d3⟩ := ag_new on2 4 1 (one (.bool false))
 rw [oB, nwP_fst] at hF
 generalize (nwP 4 1 (one (.bool false)) S2).2 = S3 at d1 d2 d3 hF
 have on3 := d2.on.trans on2
 have c1' := c1.grew (by omega) (fun h => h) d2
 have k2' : Bx S3 S.next 24 (cellsN x) := (k2.grew (by omega) (fun h => h) c2).grew (by omega) (fun h => h) d2
 have b0' : AgAt S3 S.next 24 5 (treeN x) := by
  refine ⟨Tr.ofListFrom .nil [treeN x] 0, k2', by rw [Tr.get_ofList]; rfl⟩
 have g03 : Grew (fun _ => False) S S3 := (k3.trans c2).trans d2
 rw [show (sv []) = sv ([] : List UInt8) from rfl, binV_ss, strOp_eql, oB, ifK_bool] at hF
 rw [encN_cells x, hF]
 clear hF
 by_cases hpe : p = []
 · have hfind : outFind x p = .tuple [encN x, .bool true] := by unfold outFind findS; rw [if_pos hpe]; rfl
   rw [beq_iff_eq.2 hpe, cond_true]
   obtain ⟨S4, e1, e2, e3, e4⟩ := c1'.stA on3 big5 (treeN x)
   have on4 := e3.on.trans on3
   have d1' := d1.grew (by omega) (by omega) e3
   obtain ⟨S5, f1, f2, f3, f4⟩ := d1'.st_one on4 (.bool true) rfl rfl rfl
   have on5 := f3.on.trans on4
   have e2' := e2.grew (by omega) (by omega) f3
   rw [b0'.ldA on3 big5, oB]
   dsimp only
   rw [e1, oB]
   dsimp only
   rw [f1, oB]
   obtain ⟨S6, g1, g2⟩ := fin7 (self := ev E0 K 10) (p1 := S1.next) (p2 := S2.next) (a := frD 34 [(0, vAgg (cellsN x)), (1, sv p), (2, .ptr S.next 0), (4, .ptr S1.next 0), (5, .ptr S2.next 0), (8, sv p), (9, .bool true), (10, .agg 5 (treeN x))] []) S5 on5 [] rfl (by kernel_rfl) (by kernel_rfl) List.nodup_nil (fun _ h => by cases h) e2' f2 (by omega) (by omega)
   refine ⟨S6, ?_, ?_⟩
   · rw [hfind, encN_tree]
     exact g1
   · refine ⟨by have := g2.next; have := f3.next; have := e3.next; have := g03.next; omega, (g2.on.trans on5).trans ho.symm, fun y hy _ => ?_⟩
     rw [g2.keep y (by have := f3.next; have := e3.next; have := g03.next; omega) (fun h => by cases h), f3.keep y (by omega) (by omega), e3.keep y (by omega) (by omega), g03.keep y hy (fun h => h)]
 · rw [beq_false_of_ne hpe, cond_false]
   obtain ⟨S4, e1, e2, e3, e4, e5, e6⟩ := f21_run h21 h31 8 p S3 on3
   have on4 := e5.on.trans on3
   have g5 : Grew (fun _ => False) S4 (nw (nw S4 .defb) (O7_14 0 none (.ptr S.next 0) (.ptr S1.next 0) (.ptr S2.next 0))) := (grew_nw on4 _ _).trans (grew_nw (nw_on on4 _) _ _)
   have n5 : (nw (nw S4 .defb) (O7_14 0 none (.ptr S.next 0) (.ptr S1.next 0) (.ptr S2.next 0))).next = S4.next + 2 := rfl
   have hd5 : (nw (nw S4 .defb) (O7_14 0 none (.ptr S.next 0) (.ptr S1.next 0) (.ptr S2.next 0))).heap.get S4.next = some .defb := by
    rw [nw_get, if_neg (by show S4.next ≠ S4.next + 1; omega), nw_get, if_pos rfl]
   have hl5 : (nw (nw S4 .defb) (O7_14 0 none (.ptr S.next 0) (.ptr S1.next 0) (.ptr S2.next 0))).heap.get (S4.next + 1) = some (O7_14 0 none (.ptr S.next 0) (.ptr S1.next 0) (.ptr S2.next 0)) := by
    rw [nw_get]; exact if_pos rfl
   have hrange := fun (self : EV) (kn kr : St → Rs) (ke : Nat → St → Rs) (kp : V → St → Rs) => rangeP_fn (s := S4) (self := self) (first := []) (captured := [.ptr (S3.next + 1) 0, .ptr S3.next 0, .ptr (S3.next + 2) 0]) (o := O7_14 0 none (.ptr S.next 0) (.ptr S1.next 0) (.ptr S2.next 0)) (kn := kn) (kr := kr) (ke := ke) (kp := kp) body44.1 body44.2
   generalize nw (nw S4 .defb) (O7_14 0 none (.ptr S.next 0) (.ptr S1.next 0) (.ptr S2.next 0)) = S5 at g5 n5 hd5 hl5 hrange
   have on5 := g5.on.trans on4
   have g35 : Grew (fun _ => False) S3 S5 := e5.trans g5
   have hI : FindI (S4.next + 1) S.next S1.next S2.next (fun b => b < S5.next ∧ b ≠ S4.next + 1 ∧ b ≠ S.next ∧ b ≠ S1.next ∧ b ≠ S2.next) x S5 :=
    ⟨on5, fun b hb => hb.1, fun hb => hb.2.1 rfl, fun hb => hb.2.2.1 rfl, fun hb => hb.2.2.2.1 rfl, fun hb => hb.2.2.2.2 rfl, by omega, by omega, by omega, by omega, by omega, by omega, by omega, by omega, by omega, by omega, ok, hl5, b0'.grew (by omega) (fun h => h) g35, ⟨_, c1'.grew (by omega) (fun h => h) g35⟩, ⟨_, d1.grew (by omega) (fun h => h) g35⟩⟩
   have own : ∀ b, S3.next ≤ b → b < S4.next + 1 → b < S5.next ∧ b ≠ S4.next + 1 ∧ b ≠ S.next ∧ b ≠ S1.next ∧ b ≠ S2.next := fun b h1 h2 => ⟨by omega, by omega, by omega, by omega, by omega⟩
   obtain ⟨S6, q1, q2, q3, q4⟩ := split_run (find_ys h22 h23 (S4.next + 1) S.next S1.next S2.next) h43 h52 h48 h44 6 (by omega) (b1 := S3.next + 1) (b2 := S3.next) (b3 := S3.next + 2) (by omega) (by omega) (own _ (by omega) (by omega)) (own _ (by omega) (by omega)) (own _ (by omega) (by omega)) hp hI
    (e3.grew (by omega) (fun h => h) g5) (e2.grew (by omega) (fun h => h) g5) (e4.grew (by omega) (fun h => h) g5)
   have on6 := q4.on.trans on5
   have n6 := q4.next
   have hd6 : S6.heap.get S4.next = some .defb := by
    rw [q4.keep S4.next (by omega) (fun h => by
     rcases h with h | h
     · exact h (own _ (by omega) (by omega))
     · omega)]
    exact hd5
   have hold : ∀ y, y < S.next → S6.heap.get y = S.heap.get y := fun y hy => by
    have hy3 : y < S3.next := by have := g03.next; omega
    rw [q4.keep y (by have := g35.next; omega) (fun h => by
     rcases h with h | h
     · exact h ⟨by have := g35.next; omega, by omega, by omega, by omega, by omega⟩
     · omega), g35.keep y hy3 (fun h => h), g03.keep y hy (fun h => h)]
   rw [show ev E0 K 10 = ev E0 K (8 + 2) from rfl, e1, callPF_ret, hrange]
   show ∃ S', onEn ((ev E0 K (6 + 4)).f 44 [.yield (S4.next + 1), .ptr (S3.next + 1) 0, .ptr S3.next 0, .ptr (S3.next + 2) 0] S5) _ _ = _ ∧ _
   rw [q1]
   show ∃ S', endLP (S4.next + 1) S6 _ _ _ = _ ∧ _
   have hfind : findS x p = runP stepF (splitS p) x := by unfold findS; rw [if_neg hpe]
   cases hr : runP stepF (splitS p) x with
   | some y =>
    have hI6 := q2 y hr
    have hend : ∀ (kn kr : St → Rs) (ke : Nat → St → Rs), endLP (S4.next + 1) S6 kn kr ke = kn (S6.put (S4.next + 1) (O7_14 3 none (.ptr S.next 0) (.ptr S1.next 0) (.ptr S2.next 0))) := fun kn kr ke => endLP_norm (kn := kn) (kr := kr) (ke := ke) on6 hI6.rec_ (by decide)
    have g7 : Grew (fun b => b = S4.next + 1) S6 (S6.put (S4.next + 1) (O7_14 3 none (.ptr S.next 0) (.ptr S1.next 0) (.ptr S2.next 0))) := grew_put _ _
    have n7 : (S6.put (S4.next + 1) (O7_14 3 none (.ptr S.next 0) (.ptr S1.next 0) (.ptr S2.next 0))).next = S6.next := rfl
    generalize S6.put (S4.next + 1) (O7_14 3 none (.ptr S.next 0) (.ptr S1.next 0) (.ptr S2.next 0)) = S7 at hend g7 n7
    have on7 := g7.on.trans on6
    have nd7 := hI6.node.grew hI6.l0 hI6.n0 g7
    obtain ⟨u1, ou1⟩ := hI6.out
    have ou7 := ou1.grew hI6.l1 hI6.n1 g7
    obtain ⟨u2, is1⟩ := hI6.is
    have is7 := is1.grew hI6.l2 hI6.n2 g7
    obtain ⟨S8, r1, r2, r3, r4⟩ := ou7.stA on7 big5 (treeN y)
    have on8 := r3.on.trans on7
    have is8 := is7.grew (by omega) (by omega) r3
    obtain ⟨S9, s1, s2, s3, s4⟩ := is8.st_one on8 (.bool true) rfl rfl rfl
    have on9 := s3.on.trans on8
    have hd9 : S9.heap.get S4.next = some .defb := by
     rw [s3.keep S4.next (by omega) (by omega), r3.keep S4.next (by omega) (by omega), g7.keep S4.next (by omega) (by omega)]
     exact hd6
    obtain ⟨Sf, w1, w2⟩ := fin7 (self := ev E0 K (8 + 2)) (p1 := S1.next) (p2 := S2.next) (a := frD 34 [(2, .ptr S.next 0), (4, .ptr S1.next 0), (5, .ptr S2.next 0), (33, .agg 5 (treeN y))] [mkR S4.next]) S9 on9 [S4.next] rfl (by kernel_rfl) (by kernel_rfl) (List.nodup_cons.2 ⟨by simp, List.nodup_nil⟩) (fun b hb => by rw [List.mem_singleton.1 hb]; exact hd9) (r2.grew (by omega) (by omega) s3) s2 (by omega) (by omega)
    refine ⟨Sf, ?_, ?_⟩
    · rw [hend, R7_8_eq, nd7.ldA on7 big5, oB]
      dsimp only
      rw [r1, oB]
      dsimp only
      rw [s1, oB]
      have : outFind x p = .tuple [.agg 5 (treeN y), .bool true] := by
       unfold outFind
       rw [hfind, hr]
       show V.tuple [encN y, .bool true] = _
       rw [encN_tree]
      rw [this]
      exact w1
    · refine ⟨by have := w2.next; have := g35.next; have := g03.next; omega, (w2.on.trans on9).trans ho.symm, fun z hz _ => ?_⟩
      have := g35.next
      have := g03.next
      rw [w2.keep z (by omega) (fun h => by rw [List.mem_singleton] at h; omega), s3.keep z (by omega) (by omega), r3.keep z (by omega) (by omega), g7.keep z (by omega) (by omega)]
      exact hold z hz
   | none =>
    have hJ := q3 hr
    have hend : ∀ (kn kr : St → Rs) (ke : Nat → St → Rs), endLP (S4.next + 1) S6 kn kr ke = kr (S6.put (S4.next + 1) (O7_14 3 (some .ret) (.ptr S.next 0) (.ptr S1.next 0) (.ptr S2.next 0))) := fun kn kr ke => endLP_ret (kn := kn) (kr := kr) (ke := ke) on6 hJ.rec_ (by decide)
    have g7 : Grew (fun b => b = S4.next + 1) S6 (S6.put (S4.next + 1) (O7_14 3 (some .ret) (.ptr S.next 0) (.ptr S1.next 0) (.ptr S2.next 0))) := grew_put _ _
    have n7 : (S6.put (S4.next + 1) (O7_14 3 (some .ret) (.ptr S.next 0) (.ptr S1.next 0) (.ptr S2.next 0))).next = S6.next := rfl
    generalize S6.put (S4.next + 1) (O7_14 3 (some .ret) (.ptr S.next 0) (.ptr S1.next 0) (.ptr S2.next 0)) = S7 at hend g7 n7
    have on7 := g7.on.trans on6
    have hd7 : S7.heap.get S4.next = some .defb := by
     rw [g7.keep S4.next (by omega) (by omega)]
     exact hd6
    obtain ⟨Sf, w1, w2⟩ := fin7 (self := ev E0 K (8 + 2)) (p1 := S1.next) (p2 := S2.next) (a := frD 34 [(0, vAgg (cellsN x)), (1, sv p), (2, .ptr S.next 0), (4, .ptr S1.next 0), (5, .ptr S2.next 0), (8, sv p), (9, .bool false), (11, sv p), (12, .fn (.func 44) [] [.ptr (S3.next + 1) 0, .ptr S3.next 0, .ptr (S3.next + 2) 0])] [mkR S4.next]) S7 on7 [S4.next] rfl (by kernel_rfl) (by kernel_rfl) (List.nodup_cons.2 ⟨by simp, List.nodup_nil⟩) (fun b hb => by rw [List.mem_singleton.1 hb]; exact hd7) (hJ.out.grew hJ.l1 (by omega) g7) (hJ.is.grew hJ.l2 (by omega) g7) (by have := hJ.l1; omega) (by have := hJ.l2; omega)
    refine ⟨Sf, ?_, ?_⟩
    · have : outFind x p = .tuple [.agg 5 (treeN zN), .bool false] := by
       unfold outFind
       rw [hfind, hr]
       show V.tuple [encN zN, .bool false] = _
       rw [encN_tree]
      rw [hend, this]
      exact w1
    · refine ⟨by have := w2.next; have := g35.next; have := g03.next; omega, (w2.on.trans on7).trans ho.symm, fun z hz _ => ?_⟩
      have := g35.next
      have := g03.next
      rw [w2.keep z (by omega) (fun h => by rw [List.mem_singleton] at h; omega), g7.keep z (by omega) (by omega)]
      exact hold z hz
theorem kn7 {K : FuncId → Option KF} (hK : KnOk Tryd.prog E0 K) (h21 : K 21 = none) (h31 : K 31 = none) (h22 : K 22 = none) (h23 : K 23 = none) (h43 : K 43 = none) (h44 : K 44 = none) (h48 : K 48 = none) (h52 : K 52 = none) : KnWell Tryd.prog E0 7 kfFind :=
 specKF_text (fn := Tryd.f7) (c := C7) (d := B7) E0_ok hK (by kernel_rfl) (by kernel_rfl) (annot_isOf C7 _ (by kernel_rfl)) fun q S ho => by
  obtain ⟨x, ok, p, hp⟩ := q
  obtain ⟨S', h1, h2⟩ := F7_spec h21 h31 h22 h23 h43 h44 h48 h52 x ok p hp S ho
  exact ⟨10, .ret (outFind x p), S', h1, h2, Fz.same (.tuple (.cons (under_encN _ _) (.cons (.bool _) .nil)))⟩
end Go.Proofs.YtcbaodegkfokjaaDoor.W
namespace Go.Proofs.YtcbaodegkfokjaaDoor.W
open Go.Proofs.YtcbaodegkfokjaaDoor.Ev Go.RowKit
theorem works_runs : saysTrue ((ev E0 (fun _ => none) 400).f 5 [] s0) = true := by decide +kernel
theorem kn5 : KnWell Tryd.prog E0 5 kfTrue := by
 refine ⟨specKF_loc, fun w0 ρ s w args cargs e t hR hv hg => ?_⟩
 unfold kfTrue specKF at hg
 simp only at hg
 by_cases hx : ∃ x : Unit, ([] : List V) = args
 · rw [dif_pos hx] at hg
   simp only [oS, pM] at hg
   obtain ⟨rfl, rfl⟩ := hg
   obtain ⟨_, rfl⟩ := hx
   obtain ⟨l⟩ := cargs
   cases hv
   exact (closed_walk E0_ok knOk_nil glob0 works_runs w).mono fun ce w' ⟨h1, h2⟩ => ⟨ρ, .bool true, h1, Rho.le_refl ρ, .bool true, hR.grown h2⟩
 · rw [dif_neg hx] at hg; cases hg
noncomputable def K1 := knAdd (fun _ => none) 5 kfTrue
theorem ok1 : KnOk Tryd.prog E0 K1 := knOk_nil.add kn5
noncomputable def K2 := knAdd K1 19 kfCut
theorem ok2 : KnOk Tryd.prog E0 K2 := ok1.add (kn19 ok1)
noncomputable def K3 := knAdd K2 20 kfFewer
theorem ok3 : KnOk Tryd.prog E0 K3 := ok2.add (kn20 ok2)
noncomputable def K4 := knAdd K3 6 kfSmall
theorem ok4 : KnOk Tryd.prog E0 K4 := ok3.add (kn6 ok3 rfl rfl)
noncomputable def K5 := knAdd K4 7 kfFind
theorem ok5 : KnOk Tryd.prog E0 K5 := ok4.add (kn7 ok4 rfl rfl rfl rfl rfl rfl rfl rfl)
end Go.Proofs.YtcbaodegkfokjaaDoor.W
