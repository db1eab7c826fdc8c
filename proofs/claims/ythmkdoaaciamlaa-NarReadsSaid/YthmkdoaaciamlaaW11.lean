/-
  WHAT THE FUNCTIONS COME TO: each is read by the evaluator, printed, and told as a function of data, part 11 of 12 (no condition).
-/
import Derived.Test.YthmkdoaaciamlaaW10
import Derived.Test.YthmkdoaaciamlaaProg
import Derived.KernelRfl
namespace Go.Proofs.Ythmkdoaaciamlaa.W
open Go.Proofs.Ythmkdoaaciamlaa.Ev
theorem mayN_file {x : Nd} (h : mayN x = true) (hk : x.kind = 1) : x.kids = [] := by
 rw [mayN_eq, if_pos hk] at h
 exact List.isEmpty_iff.1 h
theorem mayN_link {x : Nd} (h : mayN x = true) (hk : x.kind = 3) : x.kids = [] ∧ x.exec = false := by
 rw [mayN_eq, if_neg (by omega), if_pos hk] at h
 simp only [Bool.and_eq_true, Bool.not_eq_true'] at h
 exact ⟨List.isEmpty_iff.1 h.2.1.1.2, h.2.1.1.1⟩
theorem mayN_dir {x : Nd} (h : mayN x = true) (hk : x.kind = 2) : mayL none x.kids = true ∧ x.exec = false ∧ x.data = [] := by
 rw [mayN_eq, if_neg (by omega), if_neg (by omega), if_pos hk] at h
 simp only [Bool.and_eq_true, Bool.not_eq_true', beq_iff_eq] at h
 exact ⟨h.1, h.2.1, h.2.2⟩
theorem nameIt_back (x : Nd) : nameIt (nameIt x []) x.name = x := by cases x; rfl
theorem cntL_len : ∀ l : List Nd, l.length ≤ cntL l
 | [] => Nat.zero_le _
 | x :: l => by
  have := cntL_len l
  have h1 : 1 ≤ cntN x := by rw [cntN_eq]; omega
  rw [cntL, List.length_cons]; omega
theorem cntL_mem {l : List Nd} {y : Nd} (h : y ∈ l) : cntN y ≤ cntL l := by
 induction l with
 | nil => cases h
 | cons x l ih =>
  rw [cntL]
  rcases List.mem_cons.1 h with rfl | h
  · omega
  · have := ih h; omega
theorem kidsN_lay {f : RSt → Option Nd × RSt} : ∀ (l : List Nd) (rest : List UInt8) (acc : List Nd), (∀ y ∈ l, y.name.length < 18446744073709551616 ∧ ∀ rest, f ⟨layN [] y ++ rest, false⟩ = (some (nameIt y []), ⟨rest, false⟩)) → kidsN f l.length ⟨layL [] l ++ rest, false⟩ acc = (some (acc ++ l), ⟨rest, false⟩)
 | [], rest, acc, _ => by
  rw [layL, List.append_nil]; rfl
 | y :: l, rest, acc, h => by
  obtain ⟨h1, h2⟩ := h y (List.mem_cons_self ..)
  rw [List.length_cons, kidsN, layL_cons, List.append_assoc, rText_put h1]
  simp only
  rw [List.append_assoc, h2]
  simp only
  rw [kidsN_lay l rest _ fun z hz => h z (List.mem_cons_of_mem _ hz), nameIt_back, List.append_assoc]
  rfl
theorem readN_lay : ∀ (m d : Nat) (x : Nd) (rest : List UInt8), m ≤ 14 → x.ok → mayN x = true → cntN x ≤ 2001 → deepN m x < m → deepN m x ≤ d → readN d ⟨layN [] x ++ rest, false⟩ = (some (nameIt x []), ⟨rest, false⟩)
 | 0, _, _, _, _, _, _, _, h, _ => by omega
 | m + 1, d, x, rest, hm, ok, may, hcnt, hlt, hd => by
  have hok := ok.at
  have hdata := hok.data
  rw [readN_eq, oneN, layN_nil]
  rcases mayCase may with ⟨hk, _⟩ | ⟨hk, _⟩ | ⟨hk, hkids⟩
  · have hno := mayN_file may hk
    rw [if_pos hk, hk, show (1 : Int).toNat = 1 from rfl, List.append_assoc, List.append_assoc, rNum_digs (by omega)]
    dsimp only
    rw [if_pos (show 1 % 1000 = 1 from rfl), fileN, rNum_digs (by split <;> omega)]
    simp only
    rw [rText_put (by omega)]
    simp only
    cases x with
    | mk n k e dt l =>
     simp only [Nd.kind, Nd.kids, Nd.exec, Nd.data] at hk hno ⊢
     subst hk hno
     cases e <;> simp [nameIt, Nd.kind, Nd.kids, Nd.exec, Nd.data]
  · obtain ⟨hno, hex⟩ := mayN_link may hk
    rw [if_neg (show ¬ x.kind = 1 by omega), if_pos hk, hk, show (3 : Int).toNat = 3 from rfl, List.append_assoc, rNum_digs (by omega)]
    dsimp only
    rw [if_neg (show ¬ 3 % 1000 = 1 by decide), if_pos (show 3 % 1000 = 3 from rfl), linkN, rText_put (by omega)]
    simp only
    cases x with
    | mk n k e dt l =>
     simp only [Nd.kind, Nd.kids, Nd.exec, Nd.data] at hk hno hex ⊢
     subst hk hno hex
     simp [nameIt, Nd.kind, Nd.kids, Nd.exec, Nd.data]
  · obtain ⟨_, hex, hdt⟩ := mayN_dir may hk
    have hm0 : m ≠ 0 := by
     intro h0
     subst h0
     rw [deepN, if_pos (.inr rfl)] at hlt
     omega
    rw [deep_dir hk hm0] at hlt hd
    have hge := foldl_max_ge (f := deepN m) x.kids 1
    obtain ⟨d', rfl⟩ : ∃ d', d = d' + 1 := ⟨d - 1, by have := hge.1; omega⟩
    have hlen := cntL_len x.kids
    rw [cntN_eq] at hcnt
    rw [if_neg (show ¬ x.kind = 1 by omega), if_neg (show ¬ x.kind = 3 by omega), hk, show (2 : Int).toNat = 2 from rfl, List.append_assoc, List.append_assoc, rNum_digs (by omega)]
    dsimp only
    rw [if_neg (show ¬ 2 % 1000 = 1 by decide), if_neg (show ¬ 2 % 1000 = 3 by decide), if_pos (show 2 % 1000 = 2 from rfl), subN, dirN, rNum_digs (by omega)]
    simp only
    rw [if_neg (by simp; omega), kidsN_lay x.kids rest [] fun y hy => ⟨by have := (hok.kids y hy).at.name; omega, fun rest => readN_lay m d' y rest (by omega) (hok.kids y hy) (mayL_all hkids y hy).2 (by have := cntL_mem hy; omega) (by have := hge.2 y hy; omega) (by have := hge.2 y hy; omega)⟩]
    simp only
    cases x with
    | mk n k e dt l =>
     simp only [Nd.kind, Nd.kids, Nd.exec, Nd.data] at hk hex hdt ⊢
     subst hk hex hdt
     simp [nameIt, Nd.kind, Nd.kids, Nd.exec, Nd.data]
end Go.Proofs.Ythmkdoaaciamlaa.W
namespace Go.Proofs.Ythmkdoaaciamlaa.W
open Go.Proofs.Ythmkdoaaciamlaa.Ev
def Back (full : List UInt8) (p : Wn) (y : Nd) (rest : List UInt8) : Prop := p.1 = some y ∧ p.2.2.left full = rest ∧ p.2.2.lost = false
theorem notLost_back {full : List UInt8} {p : Wn} {y : Nd} {rest : List UInt8} (h : Back full p y rest) : Back full (notLost p) y rest := by
 obtain ⟨o, e, w⟩ := p
 obtain ⟨h1, h2, h3⟩ := h
 simp only at h1 h2 h3
 subst h1
 rw [notLost, if_neg (by rw [h3]; simp)]
 exact ⟨rfl, h2, h3⟩
theorem kidsW_lay {f : WSt → Wn} {full : List UInt8} (dp : Nat) : ∀ (l : List Nd) (rest : List UInt8) (acc : List Nd) (w : WSt), w.left full = layL [] l ++ rest → w.lost = false → (∀ y ∈ l, y.name.length < 18446744073709551616 ∧ ∀ rest w, w.left full = layN [] y ++ rest → w.lost = false → Back full (f w) (nameIt y []) rest) →
 (kidsW f full dp l.length w acc).1 = some (acc ++ l) ∧ (kidsW f full dp l.length w acc).2.2.left full = rest ∧ (kidsW f full dp l.length w acc).2.2.lost = false
 | [], rest, acc, w, hw, hl, _ => by
  rw [layL] at hw
  exact ⟨by rw [List.append_nil]; rfl, hw, hl⟩
 | y :: l, rest, acc, w, hw, hl, h => by
  obtain ⟨h1, h2⟩ := h y (List.mem_cons_self ..)
  rw [layL_cons, List.append_assoc] at hw
  obtain ⟨t1, t2, t3⟩ := wText_put h1 hw
  rw [List.append_assoc] at t2
  obtain ⟨b1, b2, b3⟩ := h2 _ _ t2 (t3.trans hl)
  rw [List.length_cons, kidsW]
  cases hf : f (wText full w).2 with
  | mk o p =>
   obtain ⟨e, w'⟩ := p
   rw [hf] at b1 b2 b3
   simp only at b1 b2 b3
   subst b1
   simp only
   rw [t1, nameIt_back]
   obtain ⟨k1, k2, k3⟩ := kidsW_lay dp l rest (acc ++ [y]) w' b2 b3 fun z hz => h z (List.mem_cons_of_mem _ hz)
   exact ⟨by rw [k1, List.append_assoc]; rfl, k2, k3⟩
theorem readW_lay (full : List UInt8) : ∀ (m d : Nat) (x : Nd) (rest : List UInt8) (w : WSt), m ≤ 14 → d ≤ 13 → x.ok → mayN x = true → cntN x ≤ 2001 → deepN m x < m → deepN m x ≤ d → w.left full = layN [] x ++ rest → w.lost = false → Back full (readW full d w) (nameIt x []) rest
 | 0, _, _, _, _, _, _, _, _, _, h, _, _, _ => by omega
 | m + 1, d, x, rest, w, hm, hd13, ok, may, hcnt, hlt, hd, hw, hl => by
  have hok := ok.at
  have hdata := hok.data
  rw [readW_eq full d hd13, oneW]
  refine notLost_back ?_
  rw [layN_nil] at hw
  rcases mayCase may with ⟨hk, _⟩ | ⟨hk, _⟩ | ⟨hk, hkids⟩
  · have hno := mayN_file may hk
    rw [if_pos hk, hk, show (1 : Int).toNat = 1 from rfl, List.append_assoc, List.append_assoc] at hw
    obtain ⟨a1, a2, a3⟩ := wNum_digs (by omega) hw
    obtain ⟨b1, b2, b3⟩ := wNum_digs (by split <;> omega) a2
    obtain ⟨c1, c2, c3⟩ := wText_put (by omega) b2
    rw [if_pos a1, fileW, b1, if_pos (by split <;> omega)]
    refine ⟨?_, c2, c3.trans (b3.trans (a3.trans hl))⟩
    simp only
    rw [c1]
    cases x with
    | mk n k e dt l =>
     simp only [Nd.kind, Nd.kids, Nd.exec, Nd.data] at hk hno ⊢
     subst hk hno
     cases e <;> simp [nameIt, Nd.kind, Nd.kids, Nd.exec, Nd.data]
  · obtain ⟨hno, hex⟩ := mayN_link may hk
    rw [if_neg (show ¬ x.kind = 1 by omega), if_pos hk, hk, show (3 : Int).toNat = 3 from rfl, List.append_assoc] at hw
    obtain ⟨a1, a2, a3⟩ := wNum_digs (by omega) hw
    obtain ⟨c1, c2, c3⟩ := wText_put (by omega) a2
    rw [if_neg (by rw [a1]; decide), if_pos a1, linkW]
    refine ⟨?_, c2, c3.trans (a3.trans hl)⟩
    simp only
    rw [c1]
    cases x with
    | mk n k e dt l =>
     simp only [Nd.kind, Nd.kids, Nd.exec, Nd.data] at hk hno hex ⊢
     subst hk hno hex
     simp [nameIt, Nd.kind, Nd.kids, Nd.exec, Nd.data]
  · obtain ⟨_, hex, hdt⟩ := mayN_dir may hk
    have hm0 : m ≠ 0 := by
     intro h0
     subst h0
     rw [deepN, if_pos (.inr rfl)] at hlt
     omega
    rw [deep_dir hk hm0] at hlt hd
    have hge := foldl_max_ge (f := deepN m) x.kids 1
    obtain ⟨d', rfl⟩ : ∃ d', d = d' + 1 := ⟨d - 1, by have := hge.1; omega⟩
    have hlen := cntL_len x.kids
    rw [cntN_eq] at hcnt
    rw [if_neg (show ¬ x.kind = 1 by omega), if_neg (show ¬ x.kind = 3 by omega), hk, show (2 : Int).toNat = 2 from rfl, List.append_assoc, List.append_assoc] at hw
    obtain ⟨a1, a2, a3⟩ := wNum_digs (by omega) hw
    obtain ⟨b1, b2, b3⟩ := wNum_digs (by omega) a2
    rw [if_neg (by rw [a1]; decide), if_neg (by rw [a1]; decide), if_pos a1, subW, dirW, b1, if_neg (by omega)]
    obtain ⟨k1, k2, k3⟩ := kidsW_lay (f := readW full d') (13 - (d' + 1) + 1) x.kids rest [] (wNum full (wNum full w).2).2 b2 (b3.trans (a3.trans hl)) fun y hy => ⟨by have := (hok.kids y hy).at.name; omega, fun rest w hw hl => readW_lay full m d' y rest w (by omega) (by omega) (hok.kids y hy) (mayL_all hkids y hy).2 (by have := cntL_mem hy; omega) (by have := hge.2 y hy; omega) (by have := hge.2 y hy; omega) hw hl⟩
    cases hkk : kidsW (readW full d') full (13 - (d' + 1) + 1) x.kids.length (wNum full (wNum full w).2).2 [] with
    | mk o p =>
     obtain ⟨e, w'⟩ := p
     rw [hkk] at k1 k2 k3
     simp only [List.nil_append] at k1 k2 k3
     subst k1
     refine ⟨?_, k2, k3⟩
     cases x with
     | mk n k e dt l =>
      simp only [Nd.kind, Nd.kids, Nd.exec, Nd.data] at hk hex hdt ⊢
      subst hk hex hdt
      simp [nameIt, Nd.kind, Nd.kids, Nd.exec, Nd.data]
end Go.Proofs.Ythmkdoaaciamlaa.W
namespace Go.Proofs.Ythmkdoaaciamlaa.W
open Go.Proofs.Ythmkdoaaciamlaa.Ev
structure Taken (x : Nd) (s : List UInt8) : Prop where
 name : x.name = []
 may : mayN x = true
 deep : deepN 14 x ≤ 12
 cnt : cntN x ≤ 2000
 bytes : s = putText [] magicN ++ layN [] x
 fit : s.length ≤ 60000
theorem check_parts {x : Nd} (h : checkN x = 0) : x.name = [] ∧ deepN 14 x ≤ 12 := by
 unfold checkN at h
 cases ht : tooDeepN x with
 | true => rw [ht, if_pos rfl] at h; omega
 | false =>
  rw [ht, if_neg (by simp)] at h
  cases hn : (x.name == [] && mayN x) with
  | false => rw [hn, if_neg (by simp)] at h; omega
  | true =>
   rw [Bool.and_eq_true, beq_iff_eq] at hn
   unfold tooDeepN at ht
   exact ⟨hn.1, by simpa using ht⟩
theorem taken {x : Nd} {s : List UInt8} (ok : x.ok) (h0 : (encodeN x).2 = 0) (hs : (encodeN x).1 = s) : Taken x s := by
 unfold encodeN at h0 hs
 by_cases hc : checkN x = 0
 · rw [if_pos hc] at h0 hs
   obtain ⟨may, cnt⟩ := check_ok ok hc
   obtain ⟨nm, dp⟩ := check_parts hc
   by_cases hf : (layN (putText [] magicN) x).length ≤ 60000
   · rw [if_pos hf] at hs
     simp only at hs
     exact ⟨nm, may, dp, cnt, by rw [← hs, layN_acc], by rw [← hs]; exact hf⟩
   · rw [if_neg hf] at h0
     simp at h0
 · rw [if_neg hc] at h0
   exact absurd h0 hc
theorem nameIt_nil {x : Nd} (h : x.name = []) : nameIt x [] = x := by cases x; simp only [Nd.name] at h; subst h; rfl
theorem decR_taken {x : Nd} {s : List UInt8} (ok : x.ok) (h0 : (encodeN x).2 = 0) (hs : (encodeN x).1 = s) : decR s = (x, 0) := by
 have t := taken ok h0 hs
 have h1 : rText ⟨s, false⟩ = (magicN, ⟨layN [] x, false⟩) := by
  rw [t.bytes]
  exact rText_put (by decide) _ _
 have h2 := readN_lay 14 13 x [] (by omega) ok t.may (by have := t.cnt; omega) (by have := t.deep; omega) (by have := t.deep; omega)
 rw [List.append_nil, nameIt_nil t.name] at h2
 unfold decR
 rw [h1, h2]
 simp only
 rw [if_pos ⟨trivial, trivial, trivial, h0, hs⟩]
end Go.Proofs.Ythmkdoaaciamlaa.W
namespace Go.Proofs.Ythmkdoaaciamlaa.W
open Go.Proofs.Ythmkdoaaciamlaa.Ev
def decW (s : List UInt8) : Nd × Int :=
 if (wText s ⟨.pos 0, false⟩).1 = magicN then match readW s 13 (wText s ⟨.pos 0, false⟩).2 with
 | (some n, _, w) => if w.lost = false ∧ (w.left s).length = 0 ∧ (encodeN n).2 = 0 ∧ (encodeN n).1 = s then (n, 0) else (noN, 4)
 | _ => (noN, 4)
 else (noN, 4)
theorem decW_taken {x : Nd} {s : List UInt8} (ok : x.ok) (h0 : (encodeN x).2 = 0) (hs : (encodeN x).1 = s) : decW s = (x, 0) := by
 have t := taken ok h0 hs
 obtain ⟨h1, h2, h3⟩ := wText_put (full := s) (w := ⟨.pos 0, false⟩) (t := magicN) (rest := layN [] x) (by decide) (by show s.drop 0 = _; rw [List.drop_zero]; exact t.bytes)
 obtain ⟨b1, b2, b3⟩ := readW_lay s 14 13 x [] (wText s ⟨.pos 0, false⟩).2 (by omega) (by omega) ok t.may (by have := t.cnt; omega) (by have := t.deep; omega) (by have := t.deep; omega) (by rw [h2, List.append_nil]) h3
 unfold decW
 rw [if_pos h1]
 cases hr : readW s 13 (wText s ⟨.pos 0, false⟩).2 with
 | mk o p =>
  obtain ⟨e, w⟩ := p
  rw [hr] at b1 b2 b3
  simp only at b1 b2 b3
  subst b1
  simp only
  rw [nameIt_nil t.name, if_pos ⟨b3, by rw [b2]; rfl, h0, hs⟩]
end Go.Proofs.Ythmkdoaaciamlaa.W
namespace Go.Proofs.Ythmkdoaaciamlaa.W
open Go.Proofs.Ythmkdoaaciamlaa.Ev
theorem wTake_eats {full : List UInt8} {w : WSt} {n : Nat} (h : (wTake full w n).lost = false) : n ≠ 0 ∧ n ≤ (w.left full).length ∧ w.lost = false ∧ (wTake full w n).left full = (w.left full).drop n := by
 by_cases hc : n = 0 ∨ (w.left full).length < n
 · unfold wTake at h
   rw [if_pos hc] at h
   cases h
 · obtain ⟨t1, t2⟩ := wTake_left (full := full) (w := w) (n := n) (by omega) (by omega)
   exact ⟨by omega, by omega, by rw [← t2]; exact h, t1⟩
theorem wNum_eats {full : List UInt8} {w : WSt} (h : (wNum full w).2.lost = false) : w.lost = false ∧ ((wNum full w).2.left full).length + 1 ≤ (w.left full).length := by
 obtain ⟨h1, h2, h3, h4⟩ := wTake_eats (n := rowK (w.left full)) h
 have e : (wNum full w).2.left full = (w.left full).drop (rowK (w.left full)) := h4
 exact ⟨h3, by rw [e, List.length_drop]; omega⟩
theorem wText_eats {full : List UInt8} {w : WSt} (h : (wText full w).2.lost = false) : (wNum full w).2.lost = false ∧ ((wText full w).2.left full).length + (wText full w).1.length + 1 ≤ (w.left full).length := by
 unfold wText at h ⊢
 by_cases h0 : (wNum full w).1 = 0
 · rw [if_pos h0] at h ⊢
   have := wNum_eats h
   exact ⟨h, by simp only [List.length_nil]; omega⟩
 · rw [if_neg h0] at h ⊢
   by_cases h1 : ((wNum full w).2.left full).length < (wNum full w).1
   · rw [if_pos h1] at h; cases h
   · rw [if_neg h1] at h ⊢
     obtain ⟨k1, k2, k3, k4⟩ := wTake_eats h
     have := wNum_eats k3
     refine ⟨k3, ?_⟩
     show ((wTake full (wNum full w).2 (wNum full w).1).left full).length + _ + 1 ≤ _
     rw [k4, List.length_drop, List.length_take]
     omega
end Go.Proofs.Ythmkdoaaciamlaa.W
namespace Go.Proofs.Ythmkdoaaciamlaa.W
open Go.Proofs.Ythmkdoaaciamlaa.Ev
def EatsW (full : List UInt8) (f : WSt → Wn) : Prop := ∀ w y e w', f w = (some y, e, w') → w'.lost = false → (w.left full).length ≤ 3000 → w.lost = false ∧ cntN y + (w'.left full).length ≤ (w.left full).length ∧ y.ok
theorem kidsW_eats {full : List UInt8} {f : WSt → Wn} (hf : EatsW full f) (hlo : ∀ w y e w', f w = (some y, e, w') → w'.lost = false) (dp : Nat) : ∀ (n : Nat) (w : WSt) (acc l : List Nd) (e : Nat) (w' : WSt), kidsW f full dp n w acc = (some l, e, w') → w'.lost = false → (w.left full).length ≤ 3000 → okL acc → w.lost = false ∧ cntL l + (w'.left full).length ≤ cntL acc + (w.left full).length ∧ okL l ∧ l.length = acc.length + n
 | 0, w, acc, l, e, w', h, hl, h3, hok => by
  rw [kidsW] at h
  simp only [pM, oS] at h
  obtain ⟨rfl, _, rfl⟩ := h
  exact ⟨hl, Nat.le_refl _, hok, rfl⟩
 | n + 1, w, acc, l, e, w', h, hl, h3, hok => by
  rw [kidsW] at h
  split at h
  · simp at h
  · rename_i y e2 w2 hy
    have hl2 := hlo _ y e2 w2 hy
    by_cases hlt : (wText full w).2.lost = false
    · obtain ⟨h6, h7⟩ := wText_eats hlt
      obtain ⟨h1, h2, h5⟩ := hf _ y e2 w2 hy hl2 (by omega)
      obtain ⟨i1, i2, i3, i4⟩ := kidsW_eats hf hlo dp n w2 _ l e w' h hl (by omega) (okL_add hok (nameIt_ok h5 (by omega)))
      rw [cntL_add, nameIt_cnt] at i2
      exact ⟨(wNum_eats h6).1, by omega, i3, by rw [i4, List.length_append]; simp; omega⟩
    · exfalso
      have hlost : (wText full w).2 = ⟨.nil, true⟩ ∨ True := .inr trivial
      have h0 : ((wText full w).2.left full).length ≤ 3000 ∨ 3000 < ((wText full w).2.left full).length := by omega
      rcases h0 with h0 | h0
      · exact hlt (hf _ y e2 w2 hy hl2 h0).1
      · have : ((wText full w).2.left full).length ≤ (w.left full).length := by
         unfold wText
         split
         · unfold wNum
           by_cases hc : rowK (w.left full) = 0
           · unfold wTake WSt.left; rw [if_pos (.inl hc)]; exact Nat.zero_le _
           · rw [(wTake_left hc (rowK_le _)).1, List.length_drop]; omega
         · split
           · exact Nat.zero_le _
           · rename_i hz hn
             have h1 := (wTake_left (full := full) (w := (wNum full w).2) hz (by omega)).1
             show ((wTake full (wNum full w).2 (wNum full w).1).left full).length ≤ _
             rw [h1, List.length_drop]
             have : ((wNum full w).2.left full).length ≤ (w.left full).length := by
              unfold wNum
              by_cases hc : rowK (w.left full) = 0
              · unfold wTake WSt.left; rw [if_pos (.inl hc)]; exact Nat.zero_le _
              · rw [(wTake_left hc (rowK_le _)).1, List.length_drop]; omega
             omega
        omega
end Go.Proofs.Ythmkdoaaciamlaa.W
namespace Go.Proofs.Ythmkdoaaciamlaa.W
open Go.Proofs.Ythmkdoaaciamlaa.Ev
theorem notLost_some {p : Wn} {y : Nd} {e : Nat} {w : WSt} (h : notLost p = (some y, e, w)) : p = (some y, e, w) ∧ w.lost = false := by
 obtain ⟨o, e', w'⟩ := p
 cases o with
 | none => exact absurd (congrArg Prod.fst (show ((none, e', w') : Wn) = (some y, e, w) from h)) (by simp)
 | some z =>
  rw [notLost] at h
  by_cases hl : w'.lost = true
  · rw [if_pos hl] at h; simp at h
  · rw [if_neg hl] at h
    refine ⟨h, ?_⟩
    simp only [pM] at h
    rw [← h.2.2]
    simpa using hl
theorem oneW_lost {f : Option (WSt → Wn)} {full : List UInt8} {dp : Nat} {w : WSt} {y : Nd} {e : Nat} {w' : WSt} (h : oneW f full dp w = (some y, e, w')) : w'.lost = false := (notLost_some h).2
theorem readW_lost (full : List UInt8) (d : Nat) : ∀ w y e w', readW full d w = (some y, e, w') → w'.lost = false := fun w y e w' h => by
 cases d with
 | zero => exact oneW_lost h
 | succ d => exact oneW_lost h
theorem oneW_eats {f : Option (WSt → Wn)} {full : List UInt8} (hf : ∀ g, f = some g → EatsW full g ∧ ∀ w y e w', g w = (some y, e, w') → w'.lost = false) (dp : Nat) : EatsW full (oneW f full dp) := fun w y e w' h hl h3 => by
 replace h := (notLost_some h).1
 split at h
 · unfold fileW at h
   split at h
   · simp only [pM, oS] at h
     obtain ⟨rfl, _, rfl⟩ := h
     obtain ⟨h1, h2⟩ := wText_eats hl
     obtain ⟨h5, h6⟩ := wNum_eats h1
     obtain ⟨h7, h8⟩ := wNum_eats h5
     obtain ⟨h9, h10⟩ := wNum_eats h7
     refine ⟨h9, by rw [cntN, cntL]; omega, ?_⟩
     rw [Nd.ok]
     exact ⟨by simp, by omega, by omega, by simp, by rw [cntL]; omega, by rw [okL]; trivial⟩
   · simp at h
 · split at h
   · unfold linkW at h
     simp only [pM, oS] at h
     obtain ⟨rfl, _, rfl⟩ := h
     obtain ⟨h1, h2⟩ := wText_eats hl
     obtain ⟨h5, h6⟩ := wNum_eats h1
     obtain ⟨h7, h8⟩ := wNum_eats h5
     refine ⟨h7, by rw [cntN, cntL]; omega, ?_⟩
     rw [Nd.ok]
     exact ⟨by simp, by omega, by omega, by simp, by rw [cntL]; omega, by rw [okL]; trivial⟩
   · split at h
     · unfold dirW at h
       split at h
       · simp at h
       · rename_i g
         split at h
         · simp at h
         · rename_i hk
           split at h
           · simp at h
           · rename_i l e2 w2 hkid
             simp only [pM, oS] at h
             obtain ⟨rfl, _, rfl⟩ := h
             obtain ⟨hg1, hg2⟩ := hf g rfl
             by_cases hb : ((wNum full (wNum full w).2).2.left full).length ≤ 3000
             · obtain ⟨i1, i2, i3, i4⟩ := kidsW_eats hg1 hg2 _ _ _ _ l e2 w2 hkid hl hb (by rw [okL]; trivial)
               obtain ⟨h5, h6⟩ := wNum_eats i1
               obtain ⟨h7, h8⟩ := wNum_eats h5
               rw [cntL] at i2
               simp only [List.length_nil, Nat.zero_add] at i4
               refine ⟨h7, by rw [cntN]; omega, ?_⟩
               rw [Nd.ok]
               exact ⟨by simp, by omega, by simp, by omega, by omega, i3⟩
             · exfalso
               have key : ∀ v : WSt, ((wNum full v).2.left full).length ≤ (v.left full).length := fun v => by
                unfold wNum
                by_cases hc : rowK (v.left full) = 0
                · unfold wTake WSt.left; rw [if_pos (.inl hc)]; exact Nat.zero_le _
                · rw [(wTake_left hc (rowK_le _)).1, List.length_drop]; omega
               have k1 := key w
               have k2 := key (wNum full w).2
               omega
     · simp at h
theorem readW_eats (full : List UInt8) : ∀ d, EatsW full (readW full d)
 | 0 => oneW_eats (fun g h => by cases h) 13
 | d + 1 => oneW_eats (fun g h => by cases h; exact ⟨readW_eats full d, readW_lost full d⟩) _
end Go.Proofs.Ythmkdoaaciamlaa.W
namespace Go.Proofs.Ythmkdoaaciamlaa.W
open Go.Proofs.Ythmkdoaaciamlaa.Ev
theorem decR_cases (s : List UInt8) (hs : s.length ≤ 3001) : decR s = (noN, 4) ∨ ∃ n, decR s = (n, 0) ∧ n.ok ∧ (encodeN n).2 = 0 ∧ (encodeN n).1 = s := by
 unfold decR
 split
 · exact .inl rfl
 · rename_i n q hr
   by_cases h : (rText ⟨s, false⟩).1 = magicN ∧ q.lost = false ∧ q.left = [] ∧ (encodeN n).2 = 0 ∧ (encodeN n).1 = s
   · rw [if_pos h]
     exact .inr ⟨n, rfl, (readN_eats 13 _ n q hr (by have h := rText_pred ⟨s, false⟩; simp only at h; omega)).2.2.2, h.2.2.2⟩
   · rw [if_neg h]; exact .inl rfl
theorem wText_pred (full : List UInt8) (w : WSt) : ((wText full w).2.left full).length ≤ (w.left full).length - 1 := by
 by_cases h : (wText full w).2.lost = false
 · have := (wText_eats h).2
   omega
 · skip
   by_cases hk : rowK (w.left full) = 0
   · have hn : wNum full w = (0, ⟨.nil, true⟩) := by
      unfold wNum wTake
      rw [if_pos (.inl hk), hk]; rfl
     unfold wText
     rw [hn, if_pos rfl]
     exact Nat.zero_le _
   · have hle := rowK_le (w.left full)
     have h1 : (wNum full w).2.left full = (w.left full).drop (rowK (w.left full)) := (wTake_left hk hle).1
     have h2 : ((wNum full w).2.left full).length ≤ (w.left full).length - 1 := by rw [h1, List.length_drop]; omega
     unfold wText
     split
     · exact h2
     · split
       · exact Nat.zero_le _
       · rename_i hz hn
         show ((wTake full (wNum full w).2 (wNum full w).1).left full).length ≤ _
         rw [(wTake_left hz (by omega)).1, List.length_drop]
         omega
theorem decW_cases (s : List UInt8) (hs : s.length ≤ 3001) : decW s = (noN, 4) ∨ ∃ n, decW s = (n, 0) ∧ n.ok ∧ (encodeN n).2 = 0 ∧ (encodeN n).1 = s := by
 unfold decW
 by_cases hm : (wText s ⟨.pos 0, false⟩).1 = magicN
 · rw [if_pos hm]
   split
   · rename_i n e w hr
     by_cases h : w.lost = false ∧ (w.left s).length = 0 ∧ (encodeN n).2 = 0 ∧ (encodeN n).1 = s
     · rw [if_pos h]
       exact .inr ⟨n, rfl, (readW_eats s 13 _ n e w hr h.1 (by
        have h := wText_pred s ⟨.pos 0, false⟩
        have e0 : (WSt.left s ⟨.pos 0, false⟩).length = s.length := by show (s.drop 0).length = _; rw [List.drop_zero]
        omega)).2.2, h.2.2⟩
     · rw [if_neg h]; exact .inl rfl
   · exact .inl rfl
 · rw [if_neg hm]; exact .inl rfl
theorem dec_one (s : List UInt8) (hs : s.length ≤ 3001) : decR s = decW s := by
 rcases decR_cases s hs with h | ⟨n, h, ok, h0, h1⟩
 · rcases decW_cases s hs with k | ⟨n, k, ok, h0, h1⟩
   · rw [h, k]
   · have := decR_taken ok h0 h1
     rw [this, k]
 · rw [h, decW_taken ok h0 h1]
end Go.Proofs.Ythmkdoaaciamlaa.W
namespace Go.Proofs.Ythmkdoaaciamlaa.W
open Go.Proofs.Ythmkdoaaciamlaa.Ev
set_option maxRecDepth 100000
noncomputable section
noncomputable def C12 : Code := Try.f12.body.getD .skip
noncomputable def B12 : D := (annot C12 [[], [], [], [], [], [], [], []]).1
noncomputable def F12 (self : EV) (N : Nat) (x0 : V) (S : St) : Rs := runF E0 self N Try.f12 B12 [x0] S
theorem F12_eq (self : EV) (N : Nat) (x0 : V) (S : St) : F12 self N x0 S =
(some (nwP 24 5 (Tr.ofListFrom .nil [(sv []), (.int .i64 0), (.bool false), (sv []), .nilslice] 0) S)).bind fun p0 =>
(some (nwP 26 1 (one (.int .i64 0)) p0.2)).bind fun p1 =>
callPF E0 self Try.f12 (frD 42 [(0, x0), (2, p0.1), (3, p1.1), (7, (.fn (.func 25) [] [p0.1, p1.1])), (8, x0)] (adOf (.fn (.func 25) [] [p0.1, p1.1]) [] :: [])) (self.f 26 [x0] p1.2) fun t5 S5 =>
(buildV E0 57 [(0, t5)]).bind fun t6 =>
(boxK 57 t6 S5).bind fun p7 =>
(nilCheckV p7.1).bind fun t10 =>
(faP 0 false 1 t10).bind fun t11 =>
(ld1 t11 p7.2).bind fun p12 =>
callPF E0 self Try.f12 (frD 42 [(0, x0), (2, p0.1), (3, p1.1), (4, p7.1), (7, (.fn (.func 25) [] [p0.1, p1.1])), (8, x0), (9, t5), (10, t6), (11, p7.1), (12, p7.1), (13, t10), (14, t11), (15, p12.1)] (adOf (.fn (.func 25) [] [p0.1, p1.1]) [] :: [])) (self.f 28 [p12.1] p12.2) fun t13 S13 =>
(binV E0 .eql 9 false true t13 (sv [119, 104, 105, 115, 107, 45, 116, 114, 101, 101])).bind fun t14 =>
callPF E0 self Try.f12 (frD 42 [(0, x0), (2, p0.1), (3, p1.1), (4, p7.1), (7, (.fn (.func 25) [] [p0.1, p1.1])), (8, x0), (9, t5), (10, t6), (11, p7.1), (12, p7.1), (13, t10), (14, t11), (15, p12.1), (16, t13), (17, t14)] (adOf (.fn (.func 25) [] [p0.1, p1.1]) [] :: [])) (self.f 27 [t14] S13) fun t15 S15 =>
callPF E0 self Try.f12 (frD 42 [(0, x0), (2, p0.1), (3, p1.1), (4, p7.1), (7, (.fn (.func 25) [] [p0.1, p1.1])), (8, x0), (9, t5), (10, t6), (11, p7.1), (12, p7.1), (13, t10), (14, t11), (15, p12.1), (16, t13), (17, t14), (18, t15), (19, p7.1)] (adOf (.fn (.func 25) [] [p0.1, p1.1]) [] :: [])) (self.f 29 [p7.1] S15) fun t17 S17 =>
(stP 5 p0.1 t17 S17).bind fun p18 =>
(ldA 5 p0.1 p18.2).bind fun p19 =>
callPF E0 self Try.f12 (frD 42 [(0, x0), (2, p0.1), (3, p1.1), (4, p7.1), (7, (.fn (.func 25) [] [p0.1, p1.1])), (8, x0), (9, t5), (10, t6), (11, p7.1), (12, p7.1), (13, t10), (14, t11), (15, p12.1), (16, t13), (17, t14), (18, t15), (19, p7.1), (20, t17), (22, p19.1)] (adOf (.fn (.func 25) [] [p0.1, p1.1]) [] :: [])) (self.f 9 [p19.1] p19.2) fun t20 S20 =>
(extractV t20 0).bind fun t22 =>
(extractV t20 1).bind fun t23 =>
(nilCheckV p7.1).bind fun t27 =>
(faP 0 false 1 t27).bind fun t28 =>
(ld1 t28 S20).bind fun p29 =>
callPF E0 self Try.f12 (frD 42 [(0, x0), (2, p0.1), (3, p1.1), (4, p7.1), (5, t22), (6, t23), (7, (.fn (.func 25) [] [p0.1, p1.1])), (8, x0), (9, t5), (10, t6), (11, p7.1), (12, p7.1), (13, t10), (14, t11), (15, p12.1), (16, t13), (17, t14), (18, t15), (19, p7.1), (20, t17), (21, t20), (22, p19.1), (23, t20), (24, t22), (25, t23), (26, p7.1), (27, t27), (28, t28), (29, p29.1)] (adOf (.fn (.func 25) [] [p0.1, p1.1]) [] :: [])) (self.f 30 [p29.1] p29.2) fun t30 S30 =>
(guardV true t30).bind fun g32 => (bif g32 then some t23 else some (.tuple [])).bind fun t32 =>
(guardV true t30).bind fun g33 => (bif g33 then binV E0 .eql 26 false true t32 (.int .i64 0) else some (.tuple [])).bind fun t33 =>
(pickV t30 (some t33) (some (.bool false))).bind fun t34 =>
(guardV true t34).bind fun g36 => (bif g36 then some t22 else some (.tuple [])).bind fun t36 =>
(guardV true t34).bind fun g37 => (bif g37 then some x0 else some (.tuple [])).bind fun t37 =>
(guardV true t34).bind fun g38 => (bif g38 then binV E0 .eql 9 false false t36 t37 else some (.tuple [])).bind fun t38 =>
(pickV t34 (some t38) (some (.bool false))).bind fun t39 =>
callPF E0 self Try.f12 (frD 42 [(0, x0), (2, p0.1), (3, p1.1), (4, p7.1), (5, t22), (6, t23), (7, (.fn (.func 25) [] [p0.1, p1.1])), (8, x0), (9, t5), (10, t6), (11, p7.1), (12, p7.1), (13, t10), (14, t11), (15, p12.1), (16, t13), (17, t14), (18, t15), (19, p7.1), (20, t17), (21, t20), (22, p19.1), (23, t20), (24, t22), (25, t23), (26, p7.1), (27, t27), (28, t28), (29, p29.1), (30, t30), (31, t30), (32, t32), (33, t33), (34, t34), (35, t34), (36, t36), (37, t37), (38, t38), (39, t39)] (adOf (.fn (.func 25) [] [p0.1, p1.1]) [] :: [])) (self.f 27 [t39] S30) fun t40 S40 =>
(ldA 5 p0.1 S40).bind fun p41 =>
(stP 5 p0.1 p41.1 p41.2).bind fun p42 =>
(stP 1 p1.1 (.int .i64 0) p42.2).bind fun p43 =>
finR E0 self Try.f12 (frD 42 [(0, x0), (2, p0.1), (3, p1.1), (4, p7.1), (5, t22), (6, t23), (7, (.fn (.func 25) [] [p0.1, p1.1])), (8, x0), (9, t5), (10, t6), (11, p7.1), (12, p7.1), (13, t10), (14, t11), (15, p12.1), (16, t13), (17, t14), (18, t15), (19, p7.1), (20, t17), (21, t20), (22, p19.1), (23, t20), (24, t22), (25, t23), (26, p7.1), (27, t27), (28, t28), (29, p29.1), (30, t30), (31, t30), (32, t32), (33, t33), (34, t34), (35, t34), (36, t36), (37, t37), (38, t38), (39, t39), (40, t40), (41, p41.1)] (adOf (.fn (.func 25) [] [p0.1, p1.1]) [] :: [])) p43.2 := by kernel_rfl
theorem E25r (self : EV) (fn : Func) (a : Ac) (ds : List AD) (x0 x1 : V) (S : St) : lvK E0 self fn a (ad 25 [] [x0, x1] :: ds) .ret S =
(binV E0 .neq 20 false true .niliface .niliface).bind fun t3 =>
(ifK t3 (
(assertK E0 51 true .niliface).bind fun t5 =>
(extractV t5 0).bind fun t7 =>
(extractV t5 1).bind fun t8 =>
(some (nwP 51 0 (Tr.ofListFrom .nil [] 0) S)).bind fun p9 =>
(stP 0 p9.1 t7 p9.2).bind fun p10 =>
(unV .not t8).bind fun t13 =>
(ifK t13 (
callE (panicK .niliface p10.2) fun t15 S15 =>
(buildV E0 24 []).bind fun t16 =>
(stP 5 x0 t16 S15).bind fun p17 =>
(stP 1 x1 (.int .i64 4) p17.2).bind fun p18 =>
lvK E0 self fn a ds .ret p18.2) (
(buildV E0 24 []).bind fun t19 =>
(stP 5 x0 t19 p10.2).bind fun p20 =>
(stP 1 x1 (.int .i64 4) p20.2).bind fun p21 =>
lvK E0 self fn a ds .ret p21.2))) (
lvK E0 self fn a ds .ret S)) := by kernel_rfl
theorem E25p (self : EV) (fn : Func) (a : Ac) (ds : List AD) (x0 x1 : V) (v : V) (S : St) : lvK E0 self fn a (ad 25 [] [x0, x1] :: ds) (.pan v) S =
(binV E0 .neq 20 false true v .niliface).bind fun t3 =>
(ifK t3 (
(assertK E0 51 true v).bind fun t5 =>
(extractV t5 0).bind fun t7 =>
(extractV t5 1).bind fun t8 =>
(some (nwP 51 0 (Tr.ofListFrom .nil [] 0) S)).bind fun p9 =>
(stP 0 p9.1 t7 p9.2).bind fun p10 =>
(unV .not t8).bind fun t13 =>
(ifK t13 (
callE (panicK v p10.2) fun t15 S15 =>
(buildV E0 24 []).bind fun t16 =>
(stP 5 x0 t16 S15).bind fun p17 =>
(stP 1 x1 (.int .i64 4) p17.2).bind fun p18 =>
lvK E0 self fn a ds .ret p18.2) (
(buildV E0 24 []).bind fun t19 =>
(stP 5 x0 t19 p10.2).bind fun p20 =>
(stP 1 x1 (.int .i64 4) p20.2).bind fun p21 =>
lvK E0 self fn a ds .ret p21.2))) (
lvK E0 self fn a ds .ret S)) := by kernel_rfl
end
end Go.Proofs.Ythmkdoaaciamlaa.W
namespace Go.Proofs.Ythmkdoaaciamlaa.W
open Go.Proofs.Ythmkdoaaciamlaa.Ev
set_option maxRecDepth 100000
noncomputable section
noncomputable def C14 : Code := Try.f14.body.getD .skip
noncomputable def B14 : D := (annot C14 [[], [], [], [], [], [], [], [], [2, 3, 5], [], [], [], [], [], [], [0], [4], []]).1
noncomputable def RL14 : List Nat := cellsOf Try.f14.results.toList
noncomputable def R14_48 (self : EV) (N : Nat) (nk : Ac → St → Rs) (ek : Nat → Ac → St → Rs) (a : Ac) (S : St) : Rs := projK [] a fun a => dr E0 self RL14 N (B14.r.r.r).r (mkK E0 self Try.f14 nk ek) a S
theorem R14_48_eq (self : EV) (N : Nat) (nk : Ac → St → Rs) (ek : Nat → Ac → St → Rs) (S : St) : R14_48 self N nk ek (fr 68 []) S =
some (.ret (.bool true), S) := by kernel_rfl
noncomputable def L14_51 (self : EV) (N : Nat) (nk : Ac → St → Rs) (ek : Nat → Ac → St → Rs) (n : Nat) ( v2 v3 v5 : V) (S : St) : Rs := loopK [2, 3, 5] (dr E0 self RL14 N (B14.r.r.r.l.r.l).l) (mkK E0 self Try.f14 nk ek) n (fr 68 [(2, v2), (3, v3), (5, v5)]) S
theorem L14_51_eq (self : EV) (N : Nat) (nk : Ac → St → Rs) (ek : Nat → Ac → St → Rs) (n : Nat) ( v2 v3 v5 : V) (S : St) : L14_51 self N nk ek (n + 1) v2 v3 v5 S =
(faP 4 false 1 v2).bind fun t53 =>
(ld1 t53 S).bind fun p54 =>
(lnS p54.1 p54.2).bind fun p55 =>
(binV E0 .lss 3 false false v5 p55.1).bind fun t56 =>
ifK t56 (
(faP 4 false 1 v2).bind fun t57 =>
(ld1 t57 (onS p55.2)).bind fun p58 =>
(ixP 5 p58.1 v5).bind fun t60 =>
(ldA 5 t60 (onS p58.2)).bind fun p61 =>
(faP 4 false 1 v3).bind fun t62 =>
(ld1 t62 (onS p61.2)).bind fun p63 =>
(ixP 5 p63.1 v5).bind fun t65 =>
(ldA 5 t65 (onS p63.2)).bind fun p66 =>
callD (planOf E0 (B14.r.r.r.l.r.l.l.r.l.l.l).ops) p55.2 10 [[], p58.2.log, [], [], p61.2.log, [], p63.2.log, [], [], p66.2.log] (self.f 14 [p61.1, p66.1] (onS p66.2)) fun t67 S67 =>
(unV .not t67).bind fun t68 =>
endP [(1, [6, 9]), (4, [6, 9])] p55.2 [[], p58.2.log, [], [], p61.2.log, [], p63.2.log, [], [], p66.2.log, S67.log, []] (onS S67) fun S69 =>
ifK t68 (
some (.ret (.bool false), S69)) (
(binV E0 .add 3 false true v5 (.int .i64 1)).bind fun t72 =>
L14_51 self N nk ek n v2 v3 t72 S69)) (
ek 0 (fr 68 []) p55.2) := by kernel_rfl
noncomputable def F14 (self : EV) (N : Nat) (x0 x1 : V) (S : St) : Rs := runF E0 self N Try.f14 B14 [x0, x1] S
theorem F14_eq (self : EV) (N : Nat) (x0 x1 : V) (S : St) : F14 self N x0 x1 S =
(boxK 24 x0 S).bind fun p0 =>
(boxK 24 x1 p0.2).bind fun p1 =>
(ldA 5 p0.1 p1.2).bind fun p3 =>
callP (self.f 34 [p3.1] p3.2) fun t4 S4 =>
(binV E0 .gtr 3 false true t4 (.int .i64 12)).bind fun t5 =>
(guardV false t5).bind fun g7 => (bif g7 then ldA 5 p1.1 S4 else some (.tuple [], S4)).bind fun p7 =>
(guardV false t5).bind fun g8 => callP (bif g8 then self.f 34 [p7.1] p7.2 else some (.ret (.tuple []), p7.2)) fun t8 S8 =>
(guardV false t5).bind fun g9 => (bif g9 then binV E0 .gtr 3 false true t8 (.int .i64 12) else some (.tuple [])).bind fun t9 =>
(pickV t5 (some (.bool true)) (some t9)).bind fun t10 =>
ifK t10 (
some (.ret (.bool false), S8)) (
(faP 0 false 1 p0.1).bind fun t12 =>
(ld1 t12 S8).bind fun p13 =>
(faP 0 false 1 p1.1).bind fun t14 =>
(ld1 t14 p13.2).bind fun p15 =>
(binV E0 .neq 9 false false p13.1 p15.1).bind fun t16 =>
(guardV false t16).bind fun g18 => (bif g18 then faP 1 false 1 p0.1 else some (.tuple [])).bind fun t18 =>
(guardV false t16).bind fun g19 => (bif g19 then ld1 t18 p15.2 else some (.tuple [], p15.2)).bind fun p19 =>
(guardV false t16).bind fun g20 => (bif g20 then faP 1 false 1 p1.1 else some (.tuple [])).bind fun t20 =>
(guardV false t16).bind fun g21 => (bif g21 then ld1 t20 p19.2 else some (.tuple [], p19.2)).bind fun p21 =>
(guardV false t16).bind fun g22 => (bif g22 then binV E0 .neq 3 false false p19.1 p21.1 else some (.tuple [])).bind fun t22 =>
(pickV t16 (some (.bool true)) (some t22)).bind fun t23 =>
(guardV false t23).bind fun g25 => (bif g25 then faP 2 false 1 p0.1 else some (.tuple [])).bind fun t25 =>
(guardV false t23).bind fun g26 => (bif g26 then ld1 t25 p21.2 else some (.tuple [], p21.2)).bind fun p26 =>
(guardV false t23).bind fun g27 => (bif g27 then faP 2 false 1 p1.1 else some (.tuple [])).bind fun t27 =>
(guardV false t23).bind fun g28 => (bif g28 then ld1 t27 p26.2 else some (.tuple [], p26.2)).bind fun p28 =>
(guardV false t23).bind fun g29 => (bif g29 then binV E0 .neq 4 false false p26.1 p28.1 else some (.tuple [])).bind fun t29 =>
(pickV t23 (some (.bool true)) (some t29)).bind fun t30 =>
(guardV false t30).bind fun g32 => (bif g32 then faP 3 false 1 p0.1 else some (.tuple [])).bind fun t32 =>
(guardV false t30).bind fun g33 => (bif g33 then ld1 t32 p28.2 else some (.tuple [], p28.2)).bind fun p33 =>
(guardV false t30).bind fun g34 => (bif g34 then faP 3 false 1 p1.1 else some (.tuple [])).bind fun t34 =>
(guardV false t30).bind fun g35 => (bif g35 then ld1 t34 p33.2 else some (.tuple [], p33.2)).bind fun p35 =>
(guardV false t30).bind fun g36 => (bif g36 then binV E0 .neq 9 false false p33.1 p35.1 else some (.tuple [])).bind fun t36 =>
(pickV t30 (some (.bool true)) (some t36)).bind fun t37 =>
(guardV false t37).bind fun g39 => (bif g39 then faP 4 false 1 p0.1 else some (.tuple [])).bind fun t39 =>
(guardV false t37).bind fun g40 => (bif g40 then ld1 t39 p35.2 else some (.tuple [], p35.2)).bind fun p40 =>
(guardV false t37).bind fun g41 => (bif g41 then lnS p40.1 p40.2 else some (.tuple [], p40.2)).bind fun p41 =>
(guardV false t37).bind fun g42 => (bif g42 then faP 4 false 1 p1.1 else some (.tuple [])).bind fun t42 =>
(guardV false t37).bind fun g43 => (bif g43 then ld1 t42 p41.2 else some (.tuple [], p41.2)).bind fun p43 =>
(guardV false t37).bind fun g44 => (bif g44 then lnS p43.1 p43.2 else some (.tuple [], p43.2)).bind fun p44 =>
(guardV false t37).bind fun g45 => (bif g45 then binV E0 .neq 3 false false p41.1 p44.1 else some (.tuple [])).bind fun t45 =>
(pickV t37 (some (.bool true)) (some t45)).bind fun t46 =>
ifK t46 (
some (.ret (.bool false), p44.2)) (
L14_51 self N (R14_48 self N (finN E0 self Try.f14) noEx) (exB 0 (R14_48 self N (finN E0 self Try.f14) noEx) noEx) N p0.1 p1.1 (.int .i64 0) p44.2)) := by kernel_rfl
noncomputable def C16 : Code := Try.f16.body.getD .skip
noncomputable def B16 : D := (annot C16 [[], [], [], [], []]).1
noncomputable def F16 (self : EV) (N : Nat) (x0 x1 : V) (S : St) : Rs := runF E0 self N Try.f16 B16 [x0, x1] S
theorem F16_eq (self : EV) (N : Nat) (x0 x1 : V) (S : St) : F16 self N x0 x1 S =
(boxK 24 x0 S).bind fun p0 =>
(boxK 24 x1 p0.2).bind fun p1 =>
(ldA 5 p0.1 p1.2).bind fun p3 =>
callP (self.f 35 [p3.1] p3.2) fun t4 S4 =>
(guardV false t4).bind fun g6 => (bif g6 then ldA 5 p1.1 S4 else some (.tuple [], S4)).bind fun p6 =>
(guardV false t4).bind fun g7 => callP (bif g7 then self.f 35 [p6.1] p6.2 else some (.ret (.tuple []), p6.2)) fun t7 S7 =>
(pickV t4 (some (.bool true)) (some t7)).bind fun t8 =>
ifK t8 (
some (.ret (.bool false), S7)) (
(faP 0 false 1 p0.1).bind fun t10 =>
(ld1 t10 S7).bind fun p11 =>
(faP 0 false 1 p1.1).bind fun t12 =>
(ld1 t12 p11.2).bind fun p13 =>
(binV E0 .eql 9 false false p11.1 p13.1).bind fun t14 =>
(guardV true t14).bind fun g16 => (bif g16 then faP 1 false 1 p0.1 else some (.tuple [])).bind fun t16 =>
(guardV true t14).bind fun g17 => (bif g17 then ld1 t16 p13.2 else some (.tuple [], p13.2)).bind fun p17 =>
(guardV true t14).bind fun g18 => (bif g18 then faP 1 false 1 p1.1 else some (.tuple [])).bind fun t18 =>
(guardV true t14).bind fun g19 => (bif g19 then ld1 t18 p17.2 else some (.tuple [], p17.2)).bind fun p19 =>
(guardV true t14).bind fun g20 => (bif g20 then binV E0 .eql 3 false false p17.1 p19.1 else some (.tuple [])).bind fun t20 =>
(pickV t14 (some t20) (some (.bool false))).bind fun t21 =>
(guardV true t21).bind fun g23 => (bif g23 then faP 2 false 1 p0.1 else some (.tuple [])).bind fun t23 =>
(guardV true t21).bind fun g24 => (bif g24 then ld1 t23 p19.2 else some (.tuple [], p19.2)).bind fun p24 =>
(guardV true t21).bind fun g25 => (bif g25 then faP 2 false 1 p1.1 else some (.tuple [])).bind fun t25 =>
(guardV true t21).bind fun g26 => (bif g26 then ld1 t25 p24.2 else some (.tuple [], p24.2)).bind fun p26 =>
(guardV true t21).bind fun g27 => (bif g27 then binV E0 .eql 4 false false p24.1 p26.1 else some (.tuple [])).bind fun t27 =>
(pickV t21 (some t27) (some (.bool false))).bind fun t28 =>
(guardV true t28).bind fun g30 => (bif g30 then faP 3 false 1 p0.1 else some (.tuple [])).bind fun t30 =>
(guardV true t28).bind fun g31 => (bif g31 then ld1 t30 p26.2 else some (.tuple [], p26.2)).bind fun p31 =>
(guardV true t28).bind fun g32 => (bif g32 then faP 3 false 1 p1.1 else some (.tuple [])).bind fun t32 =>
(guardV true t28).bind fun g33 => (bif g33 then ld1 t32 p31.2 else some (.tuple [], p31.2)).bind fun p33 =>
(guardV true t28).bind fun g34 => (bif g34 then binV E0 .eql 9 false false p31.1 p33.1 else some (.tuple [])).bind fun t34 =>
(pickV t28 (some t34) (some (.bool false))).bind fun t35 =>
(guardV true t35).bind fun g37 => (bif g37 then faP 4 false 1 p0.1 else some (.tuple [])).bind fun t37 =>
(guardV true t35).bind fun g38 => (bif g38 then ld1 t37 p33.2 else some (.tuple [], p33.2)).bind fun p38 =>
(guardV true t35).bind fun g39 => (bif g39 then faP 4 false 1 p1.1 else some (.tuple [])).bind fun t39 =>
(guardV true t35).bind fun g40 => (bif g40 then ld1 t39 p38.2 else some (.tuple [], p38.2)).bind fun p40 =>
(guardV true t35).bind fun g41 => callP (bif g41 then self.f 37 [p38.1, p40.1, (.fn (.func 16) [] [])] p40.2 else some (.ret (.tuple []), p40.2)) fun t41 S41 =>
(pickV t35 (some t41) (some (.bool false))).bind fun t42 =>
some (.ret t42, S41)) := by kernel_rfl
noncomputable def C37 : Code := Try.f37.body.getD .skip
noncomputable def B37 : D := (annot C37 [[], [], [], [], [], [1, 2, 15, 16, 17], [], [], [], [], [], [], [], [], [0], [6], []]).1
noncomputable def RL37 : List Nat := cellsOf Try.f37.results.toList
noncomputable def R37_7 (self : EV) (N : Nat) (nk : Ac → St → Rs) (ek : Nat → Ac → St → Rs) (a : Ac) (S : St) : Rs := projK [] a fun a => dr E0 self RL37 N (B37.r.r).r (mkK E0 self Try.f37 nk ek) a S
theorem R37_7_eq (self : EV) (N : Nat) (nk : Ac → St → Rs) (ek : Nat → Ac → St → Rs) (S : St) : R37_7 self N nk ek (fr 32 []) S =
some (.ret (.bool true), S) := by kernel_rfl
noncomputable def L37_12 (self : EV) (N : Nat) (nk : Ac → St → Rs) (ek : Nat → Ac → St → Rs) (n : Nat) ( v1 v2 v15 v16 v17 : V) (S : St) : Rs := loopK [1, 2, 15, 16, 17] (dr E0 self RL37 N (B37.r.r.l.r.l).l) (mkK E0 self Try.f37 nk ek) n (fr 32 [(1, v1), (2, v2), (15, v15), (16, v16), (17, v17)]) S
theorem L37_12_eq (self : EV) (N : Nat) (nk : Ac → St → Rs) (ek : Nat → Ac → St → Rs) (n : Nat) ( v1 v2 v15 v16 v17 : V) (S : St) : L37_12 self N nk ek (n + 1) v1 v2 v15 v16 v17 S =
(binV E0 .lss 3 false false v17 v16).bind fun t13 =>
ifK t13 (
(ixP 5 v15 v17).bind fun t15 =>
(ldA 5 t15 S).bind fun p16 =>
(some (nwP 24 5 (Tr.ofListFrom .nil [(sv []), (.int .i64 0), (.bool false), (sv []), .nilslice] 0) p16.2)).bind fun p17 =>
(stP 5 p17.1 p16.1 p17.2).bind fun p19 =>
(ixP 5 v1 v17).bind fun t22 =>
(ldA 5 t22 p19.2).bind fun p23 =>
(some (nwP 24 5 (Tr.ofListFrom .nil [(sv []), (.int .i64 0), (.bool false), (sv []), .nilslice] 0) p23.2)).bind fun p24 =>
(stP 5 p24.1 p23.1 p24.2).bind fun p25 =>
(ldA 5 p17.1 p25.2).bind fun p27 =>
(ldA 5 p24.1 p27.2).bind fun p28 =>
callP (callK E0 self v2 [p27.1, p28.1] p28.2) fun t29 S29 =>
(unV .not t29).bind fun t30 =>
ifK t30 (
some (.ret (.bool false), S29)) (
(binV E0 .add 3 false true v17 (.int .i64 1)).bind fun t32 =>
L37_12 self N nk ek n v1 v2 v15 v16 t32 S29)) (
ek 0 (fr 32 []) S) := by kernel_rfl
noncomputable def F37 (self : EV) (N : Nat) (x0 x1 x2 : V) (S : St) : Rs := runF E0 self N Try.f37 B37 [x0, x1, x2] S
theorem F37_eq (self : EV) (N : Nat) (x0 x1 x2 : V) (S : St) : F37 self N x0 x1 x2 S =
(lnS x0 S).bind fun p2 =>
(lnS x1 p2.2).bind fun p4 =>
(binV E0 .neq 3 false false p2.1 p4.1).bind fun t5 =>
ifK t5 (
some (.ret (.bool false), p4.2)) (
(lnS x0 p4.2).bind fun p10 =>
L37_12 self N (R37_7 self N (finN E0 self Try.f37) noEx) (exB 0 (R37_7 self N (finN E0 self Try.f37) noEx) noEx) N x1 x2 x0 p10.1 (.int .i64 0) p10.2) := by kernel_rfl
end
end Go.Proofs.Ythmkdoaaciamlaa.W
namespace Go.Proofs.Ythmkdoaaciamlaa.W
open Go.Proofs.Ythmkdoaaciamlaa.Ev
set_option maxRecDepth 100000
noncomputable section
noncomputable def C4 : Code := Try.f4.body.getD .skip
noncomputable def B4 : D := (annot C4 [[], [], [], [], []]).1
noncomputable def F4 (self : EV) (N : Nat) (x0 : V) (S : St) : Rs := runF E0 self N Try.f4 B4 [x0] S
theorem F4_eq (self : EV) (N : Nat) (x0 : V) (S : St) : F4 self N x0 S =
(lnStr x0 S).bind fun p3 =>
(foldK minV p3.1 [(.int .i64 3000)] p3.2).bind fun p4 =>
(sliceV E0 9 x0 none (some p4.1) none p4.2).bind fun p5 =>
callP (self.f 12 [p5.1] p5.2) fun t8 S8 =>
(extractV t8 0).bind fun t10 =>
(extractV t8 1).bind fun t11 =>
(some (nwP 24 5 (Tr.ofListFrom .nil [(sv []), (.int .i64 0), (.bool false), (sv []), .nilslice] 0) S8)).bind fun p12 =>
(stP 5 p12.1 t10 p12.2).bind fun p13 =>
callP (self.f 13 [p5.1] p13.2) fun t16 S16 =>
(extractV t16 0).bind fun t18 =>
(extractV t16 1).bind fun t19 =>
(some (nwP 24 5 (Tr.ofListFrom .nil [(sv []), (.int .i64 0), (.bool false), (sv []), .nilslice] 0) S16)).bind fun p20 =>
(stP 5 p20.1 t18 p20.2).bind fun p21 =>
(binV E0 .eql 26 false false t11 t19).bind fun t25 =>
(guardV true t25).bind fun g27 => (bif g27 then ldA 5 p12.1 p21.2 else some (.tuple [], p21.2)).bind fun p27 =>
(guardV true t25).bind fun g28 => (bif g28 then ldA 5 p20.1 p27.2 else some (.tuple [], p27.2)).bind fun p28 =>
(guardV true t25).bind fun g29 => callP (bif g29 then self.f 14 [p27.1, p28.1] p28.2 else some (.ret (.tuple []), p28.2)) fun t29 S29 =>
(pickV t25 (some t29) (some (.bool false))).bind fun t30 =>
(guardV true t30).bind fun g32 => callP (bif g32 then self.f 11 [] S29 else some (.ret (.tuple []), S29)) fun t32 S32 =>
(pickV t30 (some t32) (some (.bool false))).bind fun t33 =>
some (.ret t33, S32) := by kernel_rfl
end
end Go.Proofs.Ythmkdoaaciamlaa.W
namespace Go.Proofs.Ythmkdoaaciamlaa.W
open Go.Proofs.Ythmkdoaaciamlaa.Ev
section
variable {s : St}
theorem AgAt.st_one (ho : s.on = false) {b e : Nat} {t : Tr V} (h : AgAt s b e 1 t) (v : V) (hs : v.size = 1) (hc : v.cells = one v) (hv : isTuple v = false) : ∃ w, stP 1 (.ptr b 0) v s = some (.tuple [], w) ∧ AgAt w b e 1 (one v) ∧ Grew (fun x => x = b) s w ∧ w.next = s.next := by
 obtain ⟨w, h1, h2, h3, h4⟩ := h.stA ho big1 (one v)
 refine ⟨w, ?_, h2, h3, h4⟩
 have e1 : stP 1 (.ptr b 0) (.agg 1 (one v)) s = vu (stK s b 0 1 (one v)) := rfl
 have e2 : stP 1 (.ptr b 0) v s = vu (bif Nat.beq v.size 1 && !isTuple v then stK s b 0 1 v.cells else none) := rfl
 rw [e2, hs, hc, hv, ← h1, e1]
 rfl
theorem AgAt.ldr_one (ho : s.on = false) {b e : Nat} {v : V} (h : AgAt s b e 1 (one v)) : ldr1 (.ptr b 0) s = some (v, s) := AgAt.ld1 ho h big1 (by decide) rfl
theorem st_zero (ho : s.on = false) : ∃ w, stP 0 (.ptr s.next 0) (vAgg []) (nwP 51 0 (Tr.ofListFrom .nil [] 0) s).2 = some (.tuple [], w) ∧ Grew (fun _ => False) s w ∧ w.next = s.next + 1 := by
 obtain ⟨a1, a2, a3⟩ := ag_new ho 51 0 (Tr.ofListFrom .nil [] 0)
 obtain ⟨w, h1, _, h3, h4⟩ := a1.stA (a2.on.trans ho) (by unfold big; decide) (Tr.ofListFrom .nil [] 0)
 exact ⟨w, h1, a2.own (Nat.le_refl _) h3, h4.trans a3⟩
end
section
variable {self : EV} {a : Ac} {p0 p1 : Nat} {S : St}
theorem lv12 (k : St → Rs) (h2 : evO E0 a (.tmp 2) = some (.ptr p0 0)) (h3 : evO E0 a (.tmp 3) = some (.ptr p1 0)) (ho : S.on = false) {t : Tr V} {v : V} (hp0 : AgAt S p0 24 5 t) (hp1 : AgAt S p1 26 1 (one v)) :
 lvK E0 self Try.f12 a [] .ret S = some (.ret (.tuple [.agg 5 t, v]), S) := by
 have h : lvK E0 self Try.f12 a [] .ret S = (evO E0 a (.tmp 2)).bind fun v => (ldRes E0 24 v S).bind fun p => (evO E0 a (.tmp 3)).bind fun w => (ldRes E0 26 w p.2).bind fun q => some (.ret (.tuple [p.1, q.1]), q.2) := by kernel_rfl
 rw [h, h2, oB, show ldRes E0 24 (.ptr p0 0) S = ldrA 5 (.ptr p0 0) S by kernel_rfl, hp0.ldrA ho big5, oB, h3, oB]
 dsimp only
 rw [show ldRes E0 26 (.ptr p1 0) S = ldr1 (.ptr p1 0) S by kernel_rfl, hp1.ldr_one ho, oB]
theorem leave_ok (h2 : evO E0 a (.tmp 2) = some (.ptr p0 0)) (h3 : evO E0 a (.tmp 3) = some (.ptr p1 0)) (ho : S.on = false) {t : Tr V} {v : V} (hp0 : AgAt S p0 24 5 t) (hp1 : AgAt S p1 26 1 (one v)) :
 leaves E0 self Try.f12 a [ad 25 [] [.ptr p0 0, .ptr p1 0]] .ret S = some (.ret (.tuple [.agg 5 t, v]), S) := by
 refine lvK_sound (ALe.refl a) ?_
 rw [E25r, show binV E0 .neq 20 false true .niliface .niliface = some (.bool false) by kernel_rfl, oB, ifK_bool, cond_false]
 exact lv12 (fun _ => none) h2 h3 ho hp0 hp1
theorem leave_wrong (h2 : evO E0 a (.tmp 2) = some (.ptr p0 0)) (h3 : evO E0 a (.tmp 3) = some (.ptr p1 0)) (ho : S.on = false) {t t1 : Tr V} (hp0 : AgAt S p0 24 5 t) (hp1 : AgAt S p1 26 1 t1) (h01 : p0 ≠ p1) (l0 : p0 < S.next) (l1 : p1 < S.next) :
 ∃ S', leaves E0 self Try.f12 a [ad 25 [] [.ptr p0 0, .ptr p1 0]] (.pan wrongV) S = some (.ret (.tuple [encN noN, .int .i64 4]), S') ∧ Grew (fun x => x = p0 ∨ x = p1) S S' := by
 obtain ⟨S1, a1, a2, a3⟩ := st_zero ho
 have on1 := a2.on.trans ho
 obtain ⟨S2, b1, b2, b3, b4⟩ := (hp0.grew l0 (fun h => h) a2).stA on1 big5 (Tr.ofListFrom .nil (c5 [] 0 false [] .nilslice) 0)
 have on2 := b3.on.trans on1
 have g2 := a2.next
 obtain ⟨S3, c1, c2, c3, c4⟩ := ((hp1.grew l1 (fun h => h) a2).grew (by omega) (fun h => h01 h.symm) b3).st_one on2 (.int .i64 4) rfl rfl rfl
 have on3 := c3.on.trans on2
 refine ⟨S3, lvK_sound (ALe.refl a) ?_, ((a2.mono fun _ _ h => h.elim).trans (b3.mono fun _ _ h => .inl h)).trans (c3.mono fun _ _ h => .inr h)⟩
 rw [E25p, show binV E0 .neq 20 false true wrongV .niliface = some (.bool true) by kernel_rfl, oB, ifK_bool, cond_true, show assertK E0 51 true wrongV = some (.tuple [vAgg [], .bool true]) by kernel_rfl, oB, extractV_tuple, extractV_tuple, show ([vAgg [], .bool true] : List V)[0]? = some (vAgg []) from rfl, show ([vAgg [], .bool true] : List V)[1]? = some (.bool true) from rfl, oB, oB, oB, nwP_fst, a1, oB, unV_not, oB, ifK_bool, Bool.not_true, cond_false, build24_nil, oB]
 dsimp only
 rw [vAgg5 _ rfl, b1, oB]
 dsimp only
 rw [c1, oB]
 dsimp only
 rw [lv12 (fun _ => none) h2 h3 on3 (b2.grew (by omega) (fun h => h01 h) c3) c2, ← vAgg5 _ rfl, ← encN_c5]
 rfl
end
end Go.Proofs.Ythmkdoaaciamlaa.W
