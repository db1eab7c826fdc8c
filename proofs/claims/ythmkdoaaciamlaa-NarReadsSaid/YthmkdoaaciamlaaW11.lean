/-
  WHAT THE FUNCTIONS COME TO: each is read by the evaluator, printed, and told as a function of data, part 11 of 12 (no condition).
-/
import Derived.Test.YthmkdoaaciamlaaW10
namespace Go.Proofs.Ythmkdoaaciamlaa.W
open Go.Proofs.Ythmkdoaaciamlaa.Ev
theorem build74 (r n : Nat) : buildV E0 74 [(0, .oslice r 0 n 1)] = some (vAgg [.oslice r 0 n 1, .bool false]) := by kernel_rfl
theorem conv_bytes {S : St} (s : List UInt8) : convertV E0 9 37 (sv s) S = some (.oslice S.next 0 s.length 1, newCells S 5 1 (s.map byteC)) := by
 unfold convertV
 rw [und37, und9]
 simp only [oB, isUnsafe, Bool.or_self, cond_false, sv, und5]
 have := unpackV_take s.length s (Nat.le_refl _)
 rw [List.take_length] at this
 rw [this]
theorem new_run {K : FuncId → Option KF} (h26 : K 26 = none) (n : Nat) (s : List UInt8) (hs : s.length ≤ 100000) (S : St) (ho : S.on = false) :
 ∃ S', (ev E0 K (n + 1)).f 26 [sv s] S = some (.ret (.ptr (S.next + 1) 0), S') ∧ WAt S' (S.next + 1) S.next s ⟨.pos 0, false⟩ ∧ Grew (fun _ => False) S S' ∧ S'.next = S.next + 2 := by
 have hrow := rowAt_newCells (s := S) ho (e := 5) (z := 1) (l := s.map byteC) (by omega) (by rw [List.length_map]; unfold big; omega)
 have g1 : Grew (fun _ => False) S (newCells S 5 1 (s.map byteC)) := grew_nw ho _ _
 have n1 : (newCells S 5 1 (s.map byteC)).next = S.next + 1 := rfl
 have hconv := conv_bytes (S := S) s
 generalize newCells S 5 1 (s.map byteC) = S1 at hrow g1 n1 hconv
 obtain ⟨S2, b1, b2, b3, b4⟩ := box_new (g1.on.trans ho) 74 [.oslice S.next 0 s.length 1, .bool false]
 rw [n1] at b1 b2
 refine ⟨S2, ev_read (c := C26) (d := B26) (by kernel_rfl) (by kernel_rfl) (annot_isOf C26 _ (by kernel_rfl)) h26 (?_ : F26 (ev E0 K n) rounds (sv s) S = _), ⟨b3.on.trans (g1.on.trans ho), b2, Nat.zero_le _, hs, fun _ => ⟨hrow.grew (by omega) (fun h => h) b3, by omega, by omega⟩⟩, g1.trans b3, by omega⟩
 rw [F26_eq, hconv, oB]
 dsimp only
 rw [build74, oB, b1, oB]
end Go.Proofs.Ythmkdoaaciamlaa.W
namespace Go.Proofs.Ythmkdoaaciamlaa.W
open Go.Proofs.Ythmkdoaaciamlaa.Ev
theorem digsA_zero (acc : List UInt8) : digsA 0 acc = acc := by rw [digsA, dif_pos rfl]
theorem digsA_pos {m : Nat} (h : m ≠ 0) (acc : List UInt8) : digsA m acc = digsA (m / 128) (UInt8.ofNat (m % 128 + 128) :: acc) := by rw [digsA, dif_neg h]
theorem digsA_acc : ∀ (m : Nat) (acc : List UInt8), digsA m acc = digsA m [] ++ acc := fun m => by
 induction m using Nat.strongRecOn with
 | ind m ih =>
  intro acc
  by_cases h : m = 0
  · subst h; rw [digsA_zero, digsA_zero]; rfl
  · rw [digsA_pos h, digsA_pos h [], ih (m / 128) (by omega) (_ :: acc), ih (m / 128) (by omega) [_], List.append_assoc]; rfl
theorem hi_step {m : Nat} (h : m ≠ 0) : digsA m [] = digsA (m / 128) [] ++ [UInt8.ofNat (m % 128 + 128)] := by
 rw [digsA_pos h, digsA_acc]
theorem digs_eq (n : Nat) : digs n = digsA (n / 128) [] ++ [UInt8.ofNat (n % 128)] := by
 unfold digs
 rw [digsA_acc]
theorem hi_big : ∀ (m : Nat), ∀ c ∈ digsA m [], 128 ≤ c.toNat := fun m => by
 induction m using Nat.strongRecOn with
 | ind m ih =>
  intro c hc
  by_cases h : m = 0
  · subst h; rw [digsA_zero] at hc; cases hc
  · rw [hi_step h] at hc
    rcases List.mem_append.1 hc with hc | hc
    · exact ih _ (by omega) c hc
    · rw [List.mem_singleton] at hc
      subst hc
      rw [toNat_ofNat (by omega)]; omega
theorem numV_append (l : List UInt8) (c : UInt8) (v : Nat) : numV (l ++ [c]) v = (128 * numV l v + c.toNat % 128) % 18446744073709551616 := by
 unfold numV
 rw [List.foldl_append]; rfl
theorem numV_hi : ∀ (m : Nat), m < 18446744073709551616 → numV (digsA m []) 0 = m := fun m => by
 induction m using Nat.strongRecOn with
 | ind m ih =>
  intro hm
  by_cases h : m = 0
  · subst h; rw [digsA_zero]; rfl
  · rw [hi_step h, numV_append, ih _ (by omega) (by omega), toNat_ofNat (by omega)]
    omega
theorem numV_digs {n : Nat} (h : n < 18446744073709551616) : numV (digs n) 0 = n := by
 rw [digs_eq, numV_append, numV_hi _ (by omega), toNat_ofNat (by omega)]
 omega
theorem numK_hi : ∀ (l : List UInt8) (c : UInt8) (rest : List UInt8), (∀ x ∈ l, 128 ≤ x.toNat) → c.toNat < 128 → numK (l ++ c :: rest) = l.length
 | [], c, rest, _, hc => by
  rw [List.nil_append, numK_cons, if_neg (by omega)]; rfl
 | x :: l, c, rest, h, hc => by
  rw [List.cons_append, numK_cons, if_pos (h x (List.mem_cons_self ..)), numK_hi l c rest (fun y hy => h y (List.mem_cons_of_mem _ hy)) hc, List.length_cons]
theorem rNum_digs {n : Nat} (h : n < 18446744073709551616) (rest : List UInt8) (lost : Bool) : rNum ⟨digs n ++ rest, lost⟩ = (n, ⟨rest, lost⟩) := by
 have hl := digsA_len 9 (n / 128) [] (by omega)
 simp only [List.length_nil, Nat.zero_add] at hl
 have hlen : (digs n).length = (digsA (n / 128) []).length + 1 := by rw [digs_eq, List.length_append]; rfl
 have hk : numK (digs n ++ rest) = (digsA (n / 128) []).length := by
  rw [digs_eq, List.append_assoc]
  exact numK_hi _ _ _ (hi_big _) (by rw [toNat_ofNat (by omega)]; omega)
 unfold rNum
 simp only
 rw [hk, if_neg (by rw [List.length_append]; omega), ← hlen, List.take_left, List.drop_left, numV_digs h, if_pos rfl]
theorem rText_put {t : List UInt8} (h : t.length < 18446744073709551616) (rest : List UInt8) (lost : Bool) : rText ⟨putText [] t ++ rest, lost⟩ = (t, ⟨rest, lost⟩) := by
 unfold putText rText
 rw [List.nil_append, List.append_assoc, rNum_digs h]
 simp only
 rw [if_neg (by rw [List.length_append]; omega), List.take_left, List.drop_left]
end Go.Proofs.Ythmkdoaaciamlaa.W
namespace Go.Proofs.Ythmkdoaaciamlaa.W
open Go.Proofs.Ythmkdoaaciamlaa.Ev
theorem hi_head : ∀ (m : Nat), m ≠ 0 → ∃ q t, digsA m [] = UInt8.ofNat (q + 128) :: t ∧ 1 ≤ q ∧ q ≤ 127 ∧ q = m / 128 ^ t.length := fun m => by
 induction m using Nat.strongRecOn with
 | ind m ih =>
  intro h
  by_cases h1 : m / 128 = 0
  · refine ⟨m, [], ?_, by omega, by omega, by simp⟩
    rw [hi_step h, h1, digsA_zero, show m % 128 = m by omega]; rfl
  · obtain ⟨q, t, e, h2, h3, h4⟩ := ih (m / 128) (by omega) h1
    refine ⟨q, t ++ [UInt8.ofNat (m % 128 + 128)], by rw [hi_step h, e]; rfl, h2, h3, ?_⟩
    rw [List.length_append, List.length_singleton, Nat.pow_succ, Nat.mul_comm (128 ^ t.length) 128, ← Nat.div_div_eq_div_mul]
    exact h4
theorem rowGo_hi (b0 : Nat) : ∀ (l : List UInt8) (c : UInt8) (rest : List UInt8) (i : Nat), (∀ x ∈ l, 128 ≤ x.toNat) → c.toNat < 128 → (i = 0 → ∀ x, l.head? = some x → x.toNat ≠ 128) → i + l.length ≤ 9 → (i + l.length = 9 → b0 ≤ 129) → rowGo b0 (l ++ c :: rest) i = i + l.length + 1
 | [], c, rest, i, _, hc, _, hle, h9 => by
  simp only [List.length_nil, Nat.add_zero] at hle h9
  rw [List.nil_append, rowGo, if_neg (by omega), if_neg (fun h => by have := h9 h.1; omega), if_neg (by omega), if_pos hc]; rfl
 | x :: l, c, rest, i, hl, hc, h0, hle, h9 => by
  rw [List.length_cons] at hle h9
  have hx := hl x (List.mem_cons_self ..)
  rw [List.cons_append, rowGo, if_neg (fun h => h0 h.1 x rfl h.2), if_neg (by omega), if_neg (by omega), if_neg (by omega), rowGo_hi b0 l c rest (i + 1) (fun y hy => hl y (List.mem_cons_of_mem _ hy)) hc (fun h => by omega) (by omega) (fun h => h9 (by omega)), List.length_cons]
  omega
theorem rowK_digs {n : Nat} (h : n < 18446744073709551616) (rest : List UInt8) : rowK (digs n ++ rest) = (digs n).length := by
 have hl := digsA_len 9 (n / 128) [] (by omega)
 simp only [List.length_nil, Nat.zero_add] at hl
 have hlen : (digs n).length = (digsA (n / 128) []).length + 1 := by rw [digs_eq, List.length_append]; rfl
 unfold rowK
 rw [hlen, digs_eq, List.append_assoc]
 have key := rowGo_hi (((digsA (n / 128) [] ++ ([UInt8.ofNat (n % 128)] ++ rest)).headD 0).toNat) (digsA (n / 128) []) (UInt8.ofNat (n % 128)) rest 0 (hi_big _) (by rw [toNat_ofNat (by omega)]; omega)
 by_cases hm : n / 128 = 0
 · rw [hm, digsA_zero] at key ⊢
   have := key (fun _ x hx => by cases hx) (by simp) (fun h => by simp at h)
   rw [Nat.zero_add] at this
   exact this
 · obtain ⟨q, t, e, h2, h3, h4⟩ := hi_head (n / 128) hm
   rw [e] at key hl ⊢
   have := key (fun _ x hx => by
    simp only [List.head?_cons, oS] at hx
    subst hx
    rw [toNat_ofNat (by omega)]; omega) (by omega) (fun h9 => by
    rw [List.cons_append, List.headD_cons, toNat_ofNat (by omega)]
    rw [List.length_cons] at h9
    have ht : t.length = 8 := by omega
    rw [ht] at h4
    have : n / 128 / 128 ^ 8 ≤ 1 := by
     have h88 : (128 : Nat) ^ 8 = 72057594037927936 := by decide
     rw [h88]; omega
    omega)
   rw [Nat.zero_add] at this
   exact this
end Go.Proofs.Ythmkdoaaciamlaa.W
namespace Go.Proofs.Ythmkdoaaciamlaa.W
open Go.Proofs.Ythmkdoaaciamlaa.Ev
theorem digs_pos (n : Nat) : 1 ≤ (digs n).length := by rw [digs_eq, List.length_append, List.length_singleton]; omega
theorem wNum_digs {full : List UInt8} {w : WSt} {n : Nat} {rest : List UInt8} (h : n < 18446744073709551616) (hl : w.left full = digs n ++ rest) : (wNum full w).1 = n ∧ (wNum full w).2.left full = rest ∧ (wNum full w).2.lost = w.lost := by
 have hk : rowK (w.left full) = (digs n).length := by rw [hl, rowK_digs h]
 have hp := digs_pos n
 obtain ⟨t1, t2⟩ := wTake_left (full := full) (w := w) (n := (digs n).length) (by omega) (by rw [hl, List.length_append]; omega)
 unfold wNum
 rw [hk]
 refine ⟨?_, ?_, t2⟩
 · show numV ((w.left full).take (digs n).length) 0 = n
   rw [hl, List.take_left, numV_digs h]
 · show (wTake full w (digs n).length).left full = rest
   rw [t1, hl, List.drop_left]
theorem wText_put {full : List UInt8} {w : WSt} {t rest : List UInt8} (h : t.length < 18446744073709551616) (hl : w.left full = putText [] t ++ rest) : (wText full w).1 = t ∧ (wText full w).2.left full = rest ∧ (wText full w).2.lost = w.lost := by
 unfold putText at hl
 rw [List.nil_append, List.append_assoc] at hl
 obtain ⟨h1, h2, h3⟩ := wNum_digs h hl
 unfold wText
 rw [h1]
 by_cases h0 : t.length = 0
 · rw [if_pos h0]
   have : t = [] := List.length_eq_zero_iff.1 h0
   subst this
   exact ⟨rfl, h2, h3⟩
 · rw [if_neg h0, h2, if_neg (by rw [List.length_append]; omega)]
   obtain ⟨t1, t2⟩ := wTake_left (full := full) (w := (wNum full w).2) (n := t.length) h0 (by rw [h2, List.length_append]; omega)
   refine ⟨List.take_left .., ?_, t2.trans h3⟩
   show (wTake full (wNum full w).2 t.length).left full = rest
   rw [t1, h2, List.drop_left]
theorem putText_acc (s t : List UInt8) : putText s t = s ++ putText [] t := by
 unfold putText
 simp only [List.nil_append, List.append_assoc]
mutual
theorem layN_acc : ∀ (x : Nd) (s : List UInt8), layN s x = s ++ layN [] x
 | .mk n k e d l, s => by
  rw [layN, layN]
  split
  · rw [putText_acc, putText_acc ([] ++ _ ++ _)]
    simp only [List.nil_append, List.append_assoc]
  · split
    · rw [putText_acc, putText_acc ([] ++ _)]
      simp only [List.nil_append, List.append_assoc]
    · rw [layL_acc l, layL_acc l ([] ++ _ ++ _)]
      simp only [List.nil_append, List.append_assoc]
theorem layL_acc : ∀ (l : List Nd) (s : List UInt8), layL s l = s ++ layL [] l
 | [], s => by rw [layL, layL, List.append_nil]
 | x :: l, s => by
  rw [layL, layL, layL_acc l, layL_acc l (layN (putText [] x.name) x), layN_acc x, layN_acc x (putText [] x.name), putText_acc]
  simp only [List.append_assoc]
end
theorem layN_nil (x : Nd) : layN [] x = if x.kind = 1 then digs x.kind.toNat ++ digs (if x.exec then 1 else 0) ++ putText [] x.data else if x.kind = 3 then digs x.kind.toNat ++ putText [] x.data else digs x.kind.toNat ++ digs x.kids.length ++ layL [] x.kids := by
 rw [layN_eq]
 split
 · rw [putText_acc]; simp only [List.nil_append]
 · split
   · rw [putText_acc]; simp only [List.nil_append]
   · rw [layL_acc]; simp only [List.nil_append]
theorem layL_cons (x : Nd) (l : List Nd) : layL [] (x :: l) = putText [] x.name ++ (layN [] x ++ layL [] l) := by
 rw [layL, layL_acc, layN_acc]
 simp only [List.append_assoc]
end Go.Proofs.Ythmkdoaaciamlaa.W
namespace Go.Proofs.Ythmkdoaaciamlaa.W
open Go.Proofs.Ythmkdoaaciamlaa.Ev
theorem mayN_file {x : Nd} (h : mayN x = true) (hk : x.kind = 1) : x.kids = [] := by
 rw [mayN_eq, if_pos hk] at h
 exact List.isEmpty_iff.1 h
theorem mayN_link {x : Nd} (h : mayN x = true) (hk : x.kind = 3) : x.kids = [] ∧ x.exec = false := by
 rw [mayN_eq, if_neg (by omega), if_pos hk] at h
 simp only [Bool.and_eq_true, Bool.not_eq_true'] at h
 exact ⟨List.isEmpty_iff.1 h.2.1.1.2, h.2.1.1.1⟩
theorem mayN_dir {x : Nd} (h : mayN x = true) (hk : x.kind = 2) : mayL none x.kids = true ∧ x.exec = false ∧ x.data = [] := by
 rw [mayN_eq, if_neg (by omega), if_neg (by omega), if_pos hk] at h
 simp only [Bool.and_eq_true, Bool.not_eq_true', beq_iff_eq] at h
 exact ⟨h.1, h.2.1, h.2.2⟩
theorem nameIt_back (x : Nd) : nameIt (nameIt x []) x.name = x := by cases x; rfl
theorem cntL_len : ∀ l : List Nd, l.length ≤ cntL l
 | [] => Nat.zero_le _
 | x :: l => by
  have := cntL_len l
  have h1 : 1 ≤ cntN x := by rw [cntN_eq]; omega
  rw [cntL, List.length_cons]; omega
theorem cntL_mem {l : List Nd} {y : Nd} (h : y ∈ l) : cntN y ≤ cntL l := by
 induction l with
 | nil => cases h
 | cons x l ih =>
  rw [cntL]
  rcases List.mem_cons.1 h with rfl | h
  · omega
  · have := ih h; omega
theorem kidsN_lay {f : RSt → Option Nd × RSt} : ∀ (l : List Nd) (rest : List UInt8) (acc : List Nd), (∀ y ∈ l, y.name.length < 18446744073709551616 ∧ ∀ rest, f ⟨layN [] y ++ rest, false⟩ = (some (nameIt y []), ⟨rest, false⟩)) → kidsN f l.length ⟨layL [] l ++ rest, false⟩ acc = (some (acc ++ l), ⟨rest, false⟩)
 | [], rest, acc, _ => by
  rw [layL, List.append_nil]; rfl
 | y :: l, rest, acc, h => by
  obtain ⟨h1, h2⟩ := h y (List.mem_cons_self ..)
  rw [List.length_cons, kidsN, layL_cons, List.append_assoc, rText_put h1]
  simp only
  rw [List.append_assoc, h2]
  simp only
  rw [kidsN_lay l rest _ fun z hz => h z (List.mem_cons_of_mem _ hz), nameIt_back, List.append_assoc]
  rfl
theorem readN_lay : ∀ (m d : Nat) (x : Nd) (rest : List UInt8), m ≤ 14 → x.ok → mayN x = true → cntN x ≤ 2001 → deepN m x < m → deepN m x ≤ d → readN d ⟨layN [] x ++ rest, false⟩ = (some (nameIt x []), ⟨rest, false⟩)
 | 0, _, _, _, _, _, _, _, h, _ => by omega
 | m + 1, d, x, rest, hm, ok, may, hcnt, hlt, hd => by
  have hok := ok.at
  have hdata := hok.data
  rw [readN_eq, oneN, layN_nil]
  rcases mayCase may with ⟨hk, _⟩ | ⟨hk, _⟩ | ⟨hk, hkids⟩
  · have hno := mayN_file may hk
    rw [if_pos hk, hk, show (1 : Int).toNat = 1 from rfl, List.append_assoc, List.append_assoc, rNum_digs (by omega)]
    dsimp only
    rw [if_pos (show 1 % 1000 = 1 from rfl), fileN, rNum_digs (by split <;> omega)]
    simp only
    rw [rText_put (by omega)]
    simp only
    cases x with
    | mk n k e dt l =>
     simp only [Nd.kind, Nd.kids, Nd.exec, Nd.data] at hk hno ⊢
     subst hk hno
     cases e <;> simp [nameIt, Nd.kind, Nd.kids, Nd.exec, Nd.data]
  · obtain ⟨hno, hex⟩ := mayN_link may hk
    rw [if_neg (show ¬ x.kind = 1 by omega), if_pos hk, hk, show (3 : Int).toNat = 3 from rfl, List.append_assoc, rNum_digs (by omega)]
    dsimp only
    rw [if_neg (show ¬ 3 % 1000 = 1 by decide), if_pos (show 3 % 1000 = 3 from rfl), linkN, rText_put (by omega)]
    simp only
    cases x with
    | mk n k e dt l =>
     simp only [Nd.kind, Nd.kids, Nd.exec, Nd.data] at hk hno hex ⊢
     subst hk hno hex
     simp [nameIt, Nd.kind, Nd.kids, Nd.exec, Nd.data]
  · obtain ⟨_, hex, hdt⟩ := mayN_dir may hk
    have hm0 : m ≠ 0 := by
     intro h0
     subst h0
     rw [deepN, if_pos (.inr rfl)] at hlt
     omega
    rw [deep_dir hk hm0] at hlt hd
    have hge := foldl_max_ge (f := deepN m) x.kids 1
    obtain ⟨d', rfl⟩ : ∃ d', d = d' + 1 := ⟨d - 1, by have := hge.1; omega⟩
    have hlen := cntL_len x.kids
    rw [cntN_eq] at hcnt
    rw [if_neg (show ¬ x.kind = 1 by omega), if_neg (show ¬ x.kind = 3 by omega), hk, show (2 : Int).toNat = 2 from rfl, List.append_assoc, List.append_assoc, rNum_digs (by omega)]
    dsimp only
    rw [if_neg (show ¬ 2 % 1000 = 1 by decide), if_neg (show ¬ 2 % 1000 = 3 by decide), if_pos (show 2 % 1000 = 2 from rfl), subN, dirN, rNum_digs (by omega)]
    simp only
    rw [if_neg (by simp; omega), kidsN_lay x.kids rest [] fun y hy => ⟨by have := (hok.kids y hy).at.name; omega, fun rest => readN_lay m d' y rest (by omega) (hok.kids y hy) (mayL_all hkids y hy).2 (by have := cntL_mem hy; omega) (by have := hge.2 y hy; omega) (by have := hge.2 y hy; omega)⟩]
    simp only
    cases x with
    | mk n k e dt l =>
     simp only [Nd.kind, Nd.kids, Nd.exec, Nd.data] at hk hex hdt ⊢
     subst hk hex hdt
     simp [nameIt, Nd.kind, Nd.kids, Nd.exec, Nd.data]
end Go.Proofs.Ythmkdoaaciamlaa.W
namespace Go.Proofs.Ythmkdoaaciamlaa.W
open Go.Proofs.Ythmkdoaaciamlaa.Ev
def Back (full : List UInt8) (p : Wn) (y : Nd) (rest : List UInt8) : Prop := p.1 = some y ∧ p.2.2.left full = rest ∧ p.2.2.lost = false
theorem notLost_back {full : List UInt8} {p : Wn} {y : Nd} {rest : List UInt8} (h : Back full p y rest) : Back full (notLost p) y rest := by
 obtain ⟨o, e, w⟩ := p
 obtain ⟨h1, h2, h3⟩ := h
 simp only at h1 h2 h3
 subst h1
 rw [notLost, if_neg (by rw [h3]; simp)]
 exact ⟨rfl, h2, h3⟩
theorem kidsW_lay {f : WSt → Wn} {full : List UInt8} (dp : Nat) : ∀ (l : List Nd) (rest : List UInt8) (acc : List Nd) (w : WSt), w.left full = layL [] l ++ rest → w.lost = false → (∀ y ∈ l, y.name.length < 18446744073709551616 ∧ ∀ rest w, w.left full = layN [] y ++ rest → w.lost = false → Back full (f w) (nameIt y []) rest) →
 (kidsW f full dp l.length w acc).1 = some (acc ++ l) ∧ (kidsW f full dp l.length w acc).2.2.left full = rest ∧ (kidsW f full dp l.length w acc).2.2.lost = false
 | [], rest, acc, w, hw, hl, _ => by
  rw [layL] at hw
  exact ⟨by rw [List.append_nil]; rfl, hw, hl⟩
 | y :: l, rest, acc, w, hw, hl, h => by
  obtain ⟨h1, h2⟩ := h y (List.mem_cons_self ..)
  rw [layL_cons, List.append_assoc] at hw
  obtain ⟨t1, t2, t3⟩ := wText_put h1 hw
  rw [List.append_assoc] at t2
  obtain ⟨b1, b2, b3⟩ := h2 _ _ t2 (t3.trans hl)
  rw [List.length_cons, kidsW]
  cases hf : f (wText full w).2 with
  | mk o p =>
   obtain ⟨e, w'⟩ := p
   rw [hf] at b1 b2 b3
   simp only at b1 b2 b3
   subst b1
   simp only
   rw [t1, nameIt_back]
   obtain ⟨k1, k2, k3⟩ := kidsW_lay dp l rest (acc ++ [y]) w' b2 b3 fun z hz => h z (List.mem_cons_of_mem _ hz)
   exact ⟨by rw [k1, List.append_assoc]; rfl, k2, k3⟩
theorem readW_lay (full : List UInt8) : ∀ (m d : Nat) (x : Nd) (rest : List UInt8) (w : WSt), m ≤ 14 → d ≤ 13 → x.ok → mayN x = true → cntN x ≤ 2001 → deepN m x < m → deepN m x ≤ d → w.left full = layN [] x ++ rest → w.lost = false → Back full (readW full d w) (nameIt x []) rest
 | 0, _, _, _, _, _, _, _, _, _, h, _, _, _ => by omega
 | m + 1, d, x, rest, w, hm, hd13, ok, may, hcnt, hlt, hd, hw, hl => by
  have hok := ok.at
  have hdata := hok.data
  rw [readW_eq full d hd13, oneW]
  refine notLost_back ?_
  rw [layN_nil] at hw
  rcases mayCase may with ⟨hk, _⟩ | ⟨hk, _⟩ | ⟨hk, hkids⟩
  · have hno := mayN_file may hk
    rw [if_pos hk, hk, show (1 : Int).toNat = 1 from rfl, List.append_assoc, List.append_assoc] at hw
    obtain ⟨a1, a2, a3⟩ := wNum_digs (by omega) hw
    obtain ⟨b1, b2, b3⟩ := wNum_digs (by split <;> omega) a2
    obtain ⟨c1, c2, c3⟩ := wText_put (by omega) b2
    rw [if_pos a1, fileW, b1, if_pos (by split <;> omega)]
    refine ⟨?_, c2, c3.trans (b3.trans (a3.trans hl))⟩
    simp only
    rw [c1]
    cases x with
    | mk n k e dt l =>
     simp only [Nd.kind, Nd.kids, Nd.exec, Nd.data] at hk hno ⊢
     subst hk hno
     cases e <;> simp [nameIt, Nd.kind, Nd.kids, Nd.exec, Nd.data]
  · obtain ⟨hno, hex⟩ := mayN_link may hk
    rw [if_neg (show ¬ x.kind = 1 by omega), if_pos hk, hk, show (3 : Int).toNat = 3 from rfl, List.append_assoc] at hw
    obtain ⟨a1, a2, a3⟩ := wNum_digs (by omega) hw
    obtain ⟨c1, c2, c3⟩ := wText_put (by omega) a2
    rw [if_neg (by rw [a1]; decide), if_pos a1, linkW]
    refine ⟨?_, c2, c3.trans (a3.trans hl)⟩
    simp only
    rw [c1]
    cases x with
    | mk n k e dt l =>
     simp only [Nd.kind, Nd.kids, Nd.exec, Nd.data] at hk hno hex ⊢
     subst hk hno hex
     simp [nameIt, Nd.kind, Nd.kids, Nd.exec, Nd.data]
  · obtain ⟨_, hex, hdt⟩ := mayN_dir may hk
    have hm0 : m ≠ 0 := by
     intro h0
     subst h0
     rw [deepN, if_pos (.inr rfl)] at hlt
     omega
    rw [deep_dir hk hm0] at hlt hd
    have hge := foldl_max_ge (f := deepN m) x.kids 1
    obtain ⟨d', rfl⟩ : ∃ d', d = d' + 1 := ⟨d - 1, by have := hge.1; omega⟩
    have hlen := cntL_len x.kids
    rw [cntN_eq] at hcnt
    rw [if_neg (show ¬ x.kind = 1 by omega), if_neg (show ¬ x.kind = 3 by omega), hk, show (2 : Int).toNat = 2 from rfl, List.append_assoc, List.append_assoc] at hw
    obtain ⟨a1, a2, a3⟩ := wNum_digs (by omega) hw
    obtain ⟨b1, b2, b3⟩ := wNum_digs (by omega) a2
    rw [if_neg (by rw [a1]; decide), if_neg (by rw [a1]; decide), if_pos a1, subW, dirW, b1, if_neg (by omega)]
    obtain ⟨k1, k2, k3⟩ := kidsW_lay (f := readW full d') (13 - (d' + 1) + 1) x.kids rest [] (wNum full (wNum full w).2).2 b2 (b3.trans (a3.trans hl)) fun y hy => ⟨by have := (hok.kids y hy).at.name; omega, fun rest w hw hl => readW_lay full m d' y rest w (by omega) (by omega) (hok.kids y hy) (mayL_all hkids y hy).2 (by have := cntL_mem hy; omega) (by have := hge.2 y hy; omega) (by have := hge.2 y hy; omega) hw hl⟩
    cases hkk : kidsW (readW full d') full (13 - (d' + 1) + 1) x.kids.length (wNum full (wNum full w).2).2 [] with
    | mk o p =>
     obtain ⟨e, w'⟩ := p
     rw [hkk] at k1 k2 k3
     simp only [List.nil_append] at k1 k2 k3
     subst k1
     refine ⟨?_, k2, k3⟩
     cases x with
     | mk n k e dt l =>
      simp only [Nd.kind, Nd.kids, Nd.exec, Nd.data] at hk hex hdt ⊢
      subst hk hex hdt
      simp [nameIt, Nd.kind, Nd.kids, Nd.exec, Nd.data]
end Go.Proofs.Ythmkdoaaciamlaa.W
namespace Go.Proofs.Ythmkdoaaciamlaa.W
open Go.Proofs.Ythmkdoaaciamlaa.Ev
structure Taken (x : Nd) (s : List UInt8) : Prop where
 name : x.name = []
 may : mayN x = true
 deep : deepN 14 x ≤ 12
 cnt : cntN x ≤ 2000
 bytes : s = putText [] magicN ++ layN [] x
 fit : s.length ≤ 60000
theorem check_parts {x : Nd} (h : checkN x = 0) : x.name = [] ∧ deepN 14 x ≤ 12 := by
 unfold checkN at h
 cases ht : tooDeepN x with
 | true => rw [ht, if_pos rfl] at h; omega
 | false =>
  rw [ht, if_neg (by simp)] at h
  cases hn : (x.name == [] && mayN x) with
  | false => rw [hn, if_neg (by simp)] at h; omega
  | true =>
   rw [Bool.and_eq_true, beq_iff_eq] at hn
   unfold tooDeepN at ht
   exact ⟨hn.1, by simpa using ht⟩
theorem taken {x : Nd} {s : List UInt8} (ok : x.ok) (h0 : (encodeN x).2 = 0) (hs : (encodeN x).1 = s) : Taken x s := by
 unfold encodeN at h0 hs
 by_cases hc : checkN x = 0
 · rw [if_pos hc] at h0 hs
   obtain ⟨may, cnt⟩ := check_ok ok hc
   obtain ⟨nm, dp⟩ := check_parts hc
   by_cases hf : (layN (putText [] magicN) x).length ≤ 60000
   · rw [if_pos hf] at hs
     simp only at hs
     exact ⟨nm, may, dp, cnt, by rw [← hs, layN_acc], by rw [← hs]; exact hf⟩
   · rw [if_neg hf] at h0
     simp at h0
 · rw [if_neg hc] at h0
   exact absurd h0 hc
theorem nameIt_nil {x : Nd} (h : x.name = []) : nameIt x [] = x := by cases x; simp only [Nd.name] at h; subst h; rfl
theorem decR_taken {x : Nd} {s : List UInt8} (ok : x.ok) (h0 : (encodeN x).2 = 0) (hs : (encodeN x).1 = s) : decR s = (x, 0) := by
 have t := taken ok h0 hs
 have h1 : rText ⟨s, false⟩ = (magicN, ⟨layN [] x, false⟩) := by
  rw [t.bytes]
  exact rText_put (by decide) _ _
 have h2 := readN_lay 14 13 x [] (by omega) ok t.may (by have := t.cnt; omega) (by have := t.deep; omega) (by have := t.deep; omega)
 rw [List.append_nil, nameIt_nil t.name] at h2
 unfold decR
 rw [h1, h2]
 simp only
 rw [if_pos ⟨trivial, trivial, trivial, h0, hs⟩]
end Go.Proofs.Ythmkdoaaciamlaa.W
namespace Go.Proofs.Ythmkdoaaciamlaa.W
open Go.Proofs.Ythmkdoaaciamlaa.Ev
def decW (s : List UInt8) : Nd × Int :=
 if (wText s ⟨.pos 0, false⟩).1 = magicN then match readW s 13 (wText s ⟨.pos 0, false⟩).2 with
 | (some n, _, w) => if w.lost = false ∧ (w.left s).length = 0 ∧ (encodeN n).2 = 0 ∧ (encodeN n).1 = s then (n, 0) else (noN, 4)
 | _ => (noN, 4)
 else (noN, 4)
theorem decW_taken {x : Nd} {s : List UInt8} (ok : x.ok) (h0 : (encodeN x).2 = 0) (hs : (encodeN x).1 = s) : decW s = (x, 0) := by
 have t := taken ok h0 hs
 obtain ⟨h1, h2, h3⟩ := wText_put (full := s) (w := ⟨.pos 0, false⟩) (t := magicN) (rest := layN [] x) (by decide) (by show s.drop 0 = _; rw [List.drop_zero]; exact t.bytes)
 obtain ⟨b1, b2, b3⟩ := readW_lay s 14 13 x [] (wText s ⟨.pos 0, false⟩).2 (by omega) (by omega) ok t.may (by have := t.cnt; omega) (by have := t.deep; omega) (by have := t.deep; omega) (by rw [h2, List.append_nil]) h3
 unfold decW
 rw [if_pos h1]
 cases hr : readW s 13 (wText s ⟨.pos 0, false⟩).2 with
 | mk o p =>
  obtain ⟨e, w⟩ := p
  rw [hr] at b1 b2 b3
  simp only at b1 b2 b3
  subst b1
  simp only
  rw [nameIt_nil t.name, if_pos ⟨b3, by rw [b2]; rfl, h0, hs⟩]
end Go.Proofs.Ythmkdoaaciamlaa.W
namespace Go.Proofs.Ythmkdoaaciamlaa.W
open Go.Proofs.Ythmkdoaaciamlaa.Ev
theorem wTake_eats {full : List UInt8} {w : WSt} {n : Nat} (h : (wTake full w n).lost = false) : n ≠ 0 ∧ n ≤ (w.left full).length ∧ w.lost = false ∧ (wTake full w n).left full = (w.left full).drop n := by
 by_cases hc : n = 0 ∨ (w.left full).length < n
 · unfold wTake at h
   rw [if_pos hc] at h
   cases h
 · obtain ⟨t1, t2⟩ := wTake_left (full := full) (w := w) (n := n) (by omega) (by omega)
   exact ⟨by omega, by omega, by rw [← t2]; exact h, t1⟩
theorem wNum_eats {full : List UInt8} {w : WSt} (h : (wNum full w).2.lost = false) : w.lost = false ∧ ((wNum full w).2.left full).length + 1 ≤ (w.left full).length := by
 obtain ⟨h1, h2, h3, h4⟩ := wTake_eats (n := rowK (w.left full)) h
 have e : (wNum full w).2.left full = (w.left full).drop (rowK (w.left full)) := h4
 exact ⟨h3, by rw [e, List.length_drop]; omega⟩
theorem wText_eats {full : List UInt8} {w : WSt} (h : (wText full w).2.lost = false) : (wNum full w).2.lost = false ∧ ((wText full w).2.left full).length + (wText full w).1.length + 1 ≤ (w.left full).length := by
 unfold wText at h ⊢
 by_cases h0 : (wNum full w).1 = 0
 · rw [if_pos h0] at h ⊢
   have := wNum_eats h
   exact ⟨h, by simp only [List.length_nil]; omega⟩
 · rw [if_neg h0] at h ⊢
   by_cases h1 : ((wNum full w).2.left full).length < (wNum full w).1
   · rw [if_pos h1] at h; cases h
   · rw [if_neg h1] at h ⊢
     obtain ⟨k1, k2, k3, k4⟩ := wTake_eats h
     have := wNum_eats k3
     refine ⟨k3, ?_⟩
     show ((wTake full (wNum full w).2 (wNum full w).1).left full).length + _ + 1 ≤ _
     rw [k4, List.length_drop, List.length_take]
     omega
end Go.Proofs.Ythmkdoaaciamlaa.W
namespace Go.Proofs.Ythmkdoaaciamlaa.W
open Go.Proofs.Ythmkdoaaciamlaa.Ev
def EatsW (full : List UInt8) (f : WSt → Wn) : Prop := ∀ w y e w', f w = (some y, e, w') → w'.lost = false → (w.left full).length ≤ 3000 → w.lost = false ∧ cntN y + (w'.left full).length ≤ (w.left full).length ∧ y.ok
theorem kidsW_eats {full : List UInt8} {f : WSt → Wn} (hf : EatsW full f) (hlo : ∀ w y e w', f w = (some y, e, w') → w'.lost = false) (dp : Nat) : ∀ (n : Nat) (w : WSt) (acc l : List Nd) (e : Nat) (w' : WSt), kidsW f full dp n w acc = (some l, e, w') → w'.lost = false → (w.left full).length ≤ 3000 → okL acc → w.lost = false ∧ cntL l + (w'.left full).length ≤ cntL acc + (w.left full).length ∧ okL l ∧ l.length = acc.length + n
 | 0, w, acc, l, e, w', h, hl, h3, hok => by
  rw [kidsW] at h
  simp only [pM, oS] at h
  obtain ⟨rfl, _, rfl⟩ := h
  exact ⟨hl, Nat.le_refl _, hok, rfl⟩
 | n + 1, w, acc, l, e, w', h, hl, h3, hok => by
  rw [kidsW] at h
  split at h
  · simp at h
  · rename_i y e2 w2 hy
    have hl2 := hlo _ y e2 w2 hy
    by_cases hlt : (wText full w).2.lost = false
    · obtain ⟨h6, h7⟩ := wText_eats hlt
      obtain ⟨h1, h2, h5⟩ := hf _ y e2 w2 hy hl2 (by omega)
      obtain ⟨i1, i2, i3, i4⟩ := kidsW_eats hf hlo dp n w2 _ l e w' h hl (by omega) (okL_add hok (nameIt_ok h5 (by omega)))
      rw [cntL_add, nameIt_cnt] at i2
      exact ⟨(wNum_eats h6).1, by omega, i3, by rw [i4, List.length_append]; simp; omega⟩
    · exfalso
      have hlost : (wText full w).2 = ⟨.nil, true⟩ ∨ True := .inr trivial
      have h0 : ((wText full w).2.left full).length ≤ 3000 ∨ 3000 < ((wText full w).2.left full).length := by omega
      rcases h0 with h0 | h0
      · exact hlt (hf _ y e2 w2 hy hl2 h0).1
      · have : ((wText full w).2.left full).length ≤ (w.left full).length := by
         unfold wText
         split
         · unfold wNum
           by_cases hc : rowK (w.left full) = 0
           · unfold wTake WSt.left; rw [if_pos (.inl hc)]; exact Nat.zero_le _
           · rw [(wTake_left hc (rowK_le _)).1, List.length_drop]; omega
         · split
           · exact Nat.zero_le _
           · rename_i hz hn
             have h1 := (wTake_left (full := full) (w := (wNum full w).2) hz (by omega)).1
             show ((wTake full (wNum full w).2 (wNum full w).1).left full).length ≤ _
             rw [h1, List.length_drop]
             have : ((wNum full w).2.left full).length ≤ (w.left full).length := by
              unfold wNum
              by_cases hc : rowK (w.left full) = 0
              · unfold wTake WSt.left; rw [if_pos (.inl hc)]; exact Nat.zero_le _
              · rw [(wTake_left hc (rowK_le _)).1, List.length_drop]; omega
             omega
        omega
end Go.Proofs.Ythmkdoaaciamlaa.W
namespace Go.Proofs.Ythmkdoaaciamlaa.W
open Go.Proofs.Ythmkdoaaciamlaa.Ev
theorem notLost_some {p : Wn} {y : Nd} {e : Nat} {w : WSt} (h : notLost p = (some y, e, w)) : p = (some y, e, w) ∧ w.lost = false := by
 obtain ⟨o, e', w'⟩ := p
 cases o with
 | none => exact absurd (congrArg Prod.fst (show ((none, e', w') : Wn) = (some y, e, w) from h)) (by simp)
 | some z =>
  rw [notLost] at h
  by_cases hl : w'.lost = true
  · rw [if_pos hl] at h; simp at h
  · rw [if_neg hl] at h
    refine ⟨h, ?_⟩
    simp only [pM] at h
    rw [← h.2.2]
    simpa using hl
theorem oneW_lost {f : Option (WSt → Wn)} {full : List UInt8} {dp : Nat} {w : WSt} {y : Nd} {e : Nat} {w' : WSt} (h : oneW f full dp w = (some y, e, w')) : w'.lost = false := (notLost_some h).2
theorem readW_lost (full : List UInt8) (d : Nat) : ∀ w y e w', readW full d w = (some y, e, w') → w'.lost = false := fun w y e w' h => by
 cases d with
 | zero => exact oneW_lost h
 | succ d => exact oneW_lost h
theorem oneW_eats {f : Option (WSt → Wn)} {full : List UInt8} (hf : ∀ g, f = some g → EatsW full g ∧ ∀ w y e w', g w = (some y, e, w') → w'.lost = false) (dp : Nat) : EatsW full (oneW f full dp) := fun w y e w' h hl h3 => by
 replace h := (notLost_some h).1
 split at h
 · unfold fileW at h
   split at h
   · simp only [pM, oS] at h
     obtain ⟨rfl, _, rfl⟩ := h
     obtain ⟨h1, h2⟩ := wText_eats hl
     obtain ⟨h5, h6⟩ := wNum_eats h1
     obtain ⟨h7, h8⟩ := wNum_eats h5
     obtain ⟨h9, h10⟩ := wNum_eats h7
     refine ⟨h9, by rw [cntN, cntL]; omega, ?_⟩
     rw [Nd.ok]
     exact ⟨by simp, by omega, by omega, by simp, by rw [cntL]; omega, by rw [okL]; trivial⟩
   · simp at h
 · split at h
   · unfold linkW at h
     simp only [pM, oS] at h
     obtain ⟨rfl, _, rfl⟩ := h
     obtain ⟨h1, h2⟩ := wText_eats hl
     obtain ⟨h5, h6⟩ := wNum_eats h1
     obtain ⟨h7, h8⟩ := wNum_eats h5
     refine ⟨h7, by rw [cntN, cntL]; omega, ?_⟩
     rw [Nd.ok]
     exact ⟨by simp, by omega, by omega, by simp, by rw [cntL]; omega, by rw [okL]; trivial⟩
   · split at h
     · unfold dirW at h
       split at h
       · simp at h
       · rename_i g
         split at h
         · simp at h
         · rename_i hk
           split at h
           · simp at h
           · rename_i l e2 w2 hkid
             simp only [pM, oS] at h
             obtain ⟨rfl, _, rfl⟩ := h
             obtain ⟨hg1, hg2⟩ := hf g rfl
             by_cases hb : ((wNum full (wNum full w).2).2.left full).length ≤ 3000
             · obtain ⟨i1, i2, i3, i4⟩ := kidsW_eats hg1 hg2 _ _ _ _ l e2 w2 hkid hl hb (by rw [okL]; trivial)
               obtain ⟨h5, h6⟩ := wNum_eats i1
               obtain ⟨h7, h8⟩ := wNum_eats h5
               rw [cntL] at i2
               simp only [List.length_nil, Nat.zero_add] at i4
               refine ⟨h7, by rw [cntN]; omega, ?_⟩
               rw [Nd.ok]
               exact ⟨by simp, by omega, by simp, by omega, by omega, i3⟩
             · exfalso
               have key : ∀ v : WSt, ((wNum full v).2.left full).length ≤ (v.left full).length := fun v => by
                unfold wNum
                by_cases hc : rowK (v.left full) = 0
                · unfold wTake WSt.left; rw [if_pos (.inl hc)]; exact Nat.zero_le _
                · rw [(wTake_left hc (rowK_le _)).1, List.length_drop]; omega
               have k1 := key w
               have k2 := key (wNum full w).2
               omega
     · simp at h
theorem readW_eats (full : List UInt8) : ∀ d, EatsW full (readW full d)
 | 0 => oneW_eats (fun g h => by cases h) 13
 | d + 1 => oneW_eats (fun g h => by cases h; exact ⟨readW_eats full d, readW_lost full d⟩) _
end Go.Proofs.Ythmkdoaaciamlaa.W
namespace Go.Proofs.Ythmkdoaaciamlaa.W
open Go.Proofs.Ythmkdoaaciamlaa.Ev
theorem decR_cases (s : List UInt8) (hs : s.length ≤ 3001) : decR s = (noN, 4) ∨ ∃ n, decR s = (n, 0) ∧ n.ok ∧ (encodeN n).2 = 0 ∧ (encodeN n).1 = s := by
 unfold decR
 split
 · exact .inl rfl
 · rename_i n q hr
   by_cases h : (rText ⟨s, false⟩).1 = magicN ∧ q.lost = false ∧ q.left = [] ∧ (encodeN n).2 = 0 ∧ (encodeN n).1 = s
   · rw [if_pos h]
     exact .inr ⟨n, rfl, (readN_eats 13 _ n q hr (by have h := rText_pred ⟨s, false⟩; simp only at h; omega)).2.2.2, h.2.2.2⟩
   · rw [if_neg h]; exact .inl rfl
theorem wText_pred (full : List UInt8) (w : WSt) : ((wText full w).2.left full).length ≤ (w.left full).length - 1 := by
 by_cases h : (wText full w).2.lost = false
 · have := (wText_eats h).2
   omega
 · skip
   by_cases hk : rowK (w.left full) = 0
   · have hn : wNum full w = (0, ⟨.nil, true⟩) := by
      unfold wNum wTake
      rw [if_pos (.inl hk), hk]; rfl
     unfold wText
     rw [hn, if_pos rfl]
     exact Nat.zero_le _
   · have hle := rowK_le (w.left full)
     have h1 : (wNum full w).2.left full = (w.left full).drop (rowK (w.left full)) := (wTake_left hk hle).1
     have h2 : ((wNum full w).2.left full).length ≤ (w.left full).length - 1 := by rw [h1, List.length_drop]; omega
     unfold wText
     split
     · exact h2
     · split
       · exact Nat.zero_le _
       · rename_i hz hn
         show ((wTake full (wNum full w).2 (wNum full w).1).left full).length ≤ _
         rw [(wTake_left hz (by omega)).1, List.length_drop]
         omega
theorem decW_cases (s : List UInt8) (hs : s.length ≤ 3001) : decW s = (noN, 4) ∨ ∃ n, decW s = (n, 0) ∧ n.ok ∧ (encodeN n).2 = 0 ∧ (encodeN n).1 = s := by
 unfold decW
 by_cases hm : (wText s ⟨.pos 0, false⟩).1 = magicN
 · rw [if_pos hm]
   split
   · rename_i n e w hr
     by_cases h : w.lost = false ∧ (w.left s).length = 0 ∧ (encodeN n).2 = 0 ∧ (encodeN n).1 = s
     · rw [if_pos h]
       exact .inr ⟨n, rfl, (readW_eats s 13 _ n e w hr h.1 (by
        have h := wText_pred s ⟨.pos 0, false⟩
        have e0 : (WSt.left s ⟨.pos 0, false⟩).length = s.length := by show (s.drop 0).length = _; rw [List.drop_zero]
        omega)).2.2, h.2.2⟩
     · rw [if_neg h]; exact .inl rfl
   · exact .inl rfl
 · rw [if_neg hm]; exact .inl rfl
theorem dec_one (s : List UInt8) (hs : s.length ≤ 3001) : decR s = decW s := by
 rcases decR_cases s hs with h | ⟨n, h, ok, h0, h1⟩
 · rcases decW_cases s hs with k | ⟨n, k, ok, h0, h1⟩
   · rw [h, k]
   · have := decR_taken ok h0 h1
     rw [this, k]
 · rw [h, decW_taken ok h0 h1]
end Go.Proofs.Ythmkdoaaciamlaa.W
namespace Go.Proofs.Ythmkdoaaciamlaa.W
open Go.Proofs.Ythmkdoaaciamlaa.Ev
section
variable {s : St}
theorem AgAt.st_one (ho : s.on = false) {b e : Nat} {t : Tr V} (h : AgAt s b e 1 t) (v : V) (hs : v.size = 1) (hc : v.cells = one v) (hv : isTuple v = false) : ∃ w, stP 1 (.ptr b 0) v s = some (.tuple [], w) ∧ AgAt w b e 1 (one v) ∧ Grew (fun x => x = b) s w ∧ w.next = s.next := by
 obtain ⟨w, h1, h2, h3, h4⟩ := h.stA ho big1 (one v)
 refine ⟨w, ?_, h2, h3, h4⟩
 have e1 : stP 1 (.ptr b 0) (.agg 1 (one v)) s = vu (stK s b 0 1 (one v)) := rfl
 have e2 : stP 1 (.ptr b 0) v s = vu (bif Nat.beq v.size 1 && !isTuple v then stK s b 0 1 v.cells else none) := rfl
 rw [e2, hs, hc, hv, ← h1, e1]
 rfl
theorem AgAt.ldr_one (ho : s.on = false) {b e : Nat} {v : V} (h : AgAt s b e 1 (one v)) : ldr1 (.ptr b 0) s = some (v, s) := AgAt.ld1 ho h big1 (by decide) rfl
theorem st_zero (ho : s.on = false) : ∃ w, stP 0 (.ptr s.next 0) (vAgg []) (nwP 51 0 (Tr.ofListFrom .nil [] 0) s).2 = some (.tuple [], w) ∧ Grew (fun _ => False) s w ∧ w.next = s.next + 1 := by
 obtain ⟨a1, a2, a3⟩ := ag_new ho 51 0 (Tr.ofListFrom .nil [] 0)
 obtain ⟨w, h1, _, h3, h4⟩ := a1.stA (a2.on.trans ho) (by unfold big; decide) (Tr.ofListFrom .nil [] 0)
 exact ⟨w, h1, a2.own (Nat.le_refl _) h3, h4.trans a3⟩
end
section
variable {self : EV} {a : Ac} {p0 p1 : Nat} {S : St}
theorem lv12 (k : St → Rs) (h2 : evO E0 a (.tmp 2) = some (.ptr p0 0)) (h3 : evO E0 a (.tmp 3) = some (.ptr p1 0)) (ho : S.on = false) {t : Tr V} {v : V} (hp0 : AgAt S p0 24 5 t) (hp1 : AgAt S p1 26 1 (one v)) :
 lvK E0 self Try.f12 a [] .ret S = some (.ret (.tuple [.agg 5 t, v]), S) := by
 have h : lvK E0 self Try.f12 a [] .ret S = (evO E0 a (.tmp 2)).bind fun v => (ldRes E0 24 v S).bind fun p => (evO E0 a (.tmp 3)).bind fun w => (ldRes E0 26 w p.2).bind fun q => some (.ret (.tuple [p.1, q.1]), q.2) := by kernel_rfl
 rw [h, h2, oB, show ldRes E0 24 (.ptr p0 0) S = ldrA 5 (.ptr p0 0) S by kernel_rfl, hp0.ldrA ho big5, oB, h3, oB]
 dsimp only
 rw [show ldRes E0 26 (.ptr p1 0) S = ldr1 (.ptr p1 0) S by kernel_rfl, hp1.ldr_one ho, oB]
theorem leave_ok (h2 : evO E0 a (.tmp 2) = some (.ptr p0 0)) (h3 : evO E0 a (.tmp 3) = some (.ptr p1 0)) (ho : S.on = false) {t : Tr V} {v : V} (hp0 : AgAt S p0 24 5 t) (hp1 : AgAt S p1 26 1 (one v)) :
 leaves E0 self Try.f12 a [ad 25 [] [.ptr p0 0, .ptr p1 0]] .ret S = some (.ret (.tuple [.agg 5 t, v]), S) := by
 refine lvK_sound (ALe.refl a) ?_
 rw [E25r, show binV E0 .neq 20 false true .niliface .niliface = some (.bool false) by kernel_rfl, oB, ifK_bool, cond_false]
 exact lv12 (fun _ => none) h2 h3 ho hp0 hp1
theorem leave_wrong (h2 : evO E0 a (.tmp 2) = some (.ptr p0 0)) (h3 : evO E0 a (.tmp 3) = some (.ptr p1 0)) (ho : S.on = false) {t t1 : Tr V} (hp0 : AgAt S p0 24 5 t) (hp1 : AgAt S p1 26 1 t1) (h01 : p0 ≠ p1) (l0 : p0 < S.next) (l1 : p1 < S.next) :
 ∃ S', leaves E0 self Try.f12 a [ad 25 [] [.ptr p0 0, .ptr p1 0]] (.pan wrongV) S = some (.ret (.tuple [encN noN, .int .i64 4]), S') ∧ Grew (fun x => x = p0 ∨ x = p1) S S' := by
 obtain ⟨S1, a1, a2, a3⟩ := st_zero ho
 have on1 := a2.on.trans ho
 obtain ⟨S2, b1, b2, b3, b4⟩ := (hp0.grew l0 (fun h => h) a2).stA on1 big5 (Tr.ofListFrom .nil (c5 [] 0 false [] .nilslice) 0)
 have on2 := b3.on.trans on1
 have g2 := a2.next
 obtain ⟨S3, c1, c2, c3, c4⟩ := ((hp1.grew l1 (fun h => h) a2).grew (by omega) (fun h => h01 h.symm) b3).st_one on2 (.int .i64 4) rfl rfl rfl
 have on3 := c3.on.trans on2
 refine ⟨S3, lvK_sound (ALe.refl a) ?_, ((a2.mono fun _ _ h => h.elim).trans (b3.mono fun _ _ h => .inl h)).trans (c3.mono fun _ _ h => .inr h)⟩
 rw [E25p, show binV E0 .neq 20 false true wrongV .niliface = some (.bool true) by kernel_rfl, oB, ifK_bool, cond_true, show assertK E0 51 true wrongV = some (.tuple [vAgg [], .bool true]) by kernel_rfl, oB, extractV_tuple, extractV_tuple, show ([vAgg [], .bool true] : List V)[0]? = some (vAgg []) from rfl, show ([vAgg [], .bool true] : List V)[1]? = some (.bool true) from rfl, oB, oB, oB, nwP_fst, a1, oB, unV_not, oB, ifK_bool, Bool.not_true, cond_false, build24_nil, oB]
 dsimp only
 rw [vAgg5 _ rfl, b1, oB]
 dsimp only
 rw [c1, oB]
 dsimp only
 rw [lv12 (fun _ => none) h2 h3 on3 (b2.grew (by omega) (fun h => h01 h) c3) c2, ← vAgg5 _ rfl, ← encN_c5]
 rfl
end
end Go.Proofs.Ythmkdoaaciamlaa.W
namespace Go.Proofs.Ythmkdoaaciamlaa.W
open Go.Proofs.Ythmkdoaaciamlaa.Ev
theorem callPF_wrong {self : EV} {a : Ac} {p0 p1 : Nat} {S : St} {k : V → St → Rs} (hd : a.defers = [ad 25 [] [.ptr p0 0, .ptr p1 0]]) (h2 : evO E0 a (.tmp 2) = some (.ptr p0 0)) (h3 : evO E0 a (.tmp 3) = some (.ptr p1 0)) (ho : S.on = false) {t t1 : Tr V} (hp0 : AgAt S p0 24 5 t) (hp1 : AgAt S p1 26 1 t1) (h01 : p0 ≠ p1) (l0 : p0 < S.next) (l1 : p1 < S.next) :
 ∃ S', callPF E0 self Try.f12 a (some (.pan wrongV, S)) k = some (.ret (.tuple [encN noN, .int .i64 4]), S') ∧ Grew (fun x => x = p0 ∨ x = p1) S S' := by
 obtain ⟨S', h1, h4⟩ := leave_wrong (self := self) h2 h3 ho hp0 hp1 h01 l0 l1
 exact ⟨S', by rw [callPF_pan, hd]; exact h1, h4⟩
theorem finR_ok {self : EV} {a : Ac} {p0 p1 : Nat} {S : St} (hd : a.defers = [ad 25 [] [.ptr p0 0, .ptr p1 0]]) (h2 : evO E0 a (.tmp 2) = some (.ptr p0 0)) (h3 : evO E0 a (.tmp 3) = some (.ptr p1 0)) (ho : S.on = false) {t : Tr V} {v : V} (hp0 : AgAt S p0 24 5 t) (hp1 : AgAt S p1 26 1 (one v)) :
 finR E0 self Try.f12 a S = some (.ret (.tuple [.agg 5 t, v]), S) := by
 rw [finR_defer hd]
 exact leave_ok h2 h3 ho hp0 hp1
theorem build57 (b : Nat) : buildV E0 57 [(0, .ptr b 0)] = some (vAgg [.ptr b 0, .int .i64 0]) := by kernel_rfl
def DecFit (s : List UInt8) : Prop := s.length ≤ 3001 ∨ ∃ x : Nd, x.ok ∧ (encodeN x).2 = 0 ∧ (encodeN x).1 = s
structure DecInW where
 s : List UInt8
 fit : DecFit s
noncomputable def encDecW (x : DecInW) : List V := [sv x.s]
noncomputable def outDecW (x : DecInW) : En := .ret (.tuple [encN (decW x.s).1, .int .i64 (decW x.s).2])
noncomputable def kfDecW : KF := specKF encDecW outDecW
theorem kfDecW_run (s : List UInt8) (fit : DecFit s) (S : St) : kfDecW.run [sv s] S = some (.ret (.tuple [encN (decW s).1, .int .i64 (decW s).2]), S) :=
 specKF_run (enc := encDecW) (out := outDecW) (fun x y h => by
  simp only [encDecW, List.cons.injEq, and_true] at h
  unfold outDecW
  rw [sv_inj h]) ⟨s, fit⟩ S
theorem DecFit.long {s : List UInt8} (h : DecFit s) : s.length ≤ 100000 := by
 rcases h with h | ⟨x, ok, h0, h1⟩
 · omega
 · have := (taken ok h0 h1).fit
   omega
theorem readW_fit {s : List UInt8} (h : DecFit s) {n : Nd} {dp : Nat} {w : WSt} (hr : readW s 13 (wText s ⟨.pos 0, false⟩).2 = (some n, dp, w)) : n.ok := by
 rcases h with h | ⟨x, ok, h0, hs⟩
 · exact (readW_eats s 13 _ n dp w hr (readW_lost s 13 _ n dp w hr) (by
    have h := wText_pred s ⟨.pos 0, false⟩
    have e0 : (WSt.left s ⟨.pos 0, false⟩).length = s.length := by show (s.drop 0).length = _; rw [List.drop_zero]
    omega)).2.2
 · have t := taken ok h0 hs
   obtain ⟨h1, h2, h3⟩ := wText_put (full := s) (w := ⟨.pos 0, false⟩) (t := magicN) (rest := layN [] x) (by decide) (by show s.drop 0 = _; rw [List.drop_zero]; exact t.bytes)
   obtain ⟨b1, b2, b3⟩ := readW_lay s 14 13 x [] (wText s ⟨.pos 0, false⟩).2 (by omega) (by omega) ok t.may (by have := t.cnt; omega) (by have := t.deep; omega) (by have := t.deep; omega) (by rw [h2, List.append_nil]) h3
   rw [hr, nameIt_nil t.name] at b1
   simp only [oS] at b1
   rw [b1]
   exact ok
theorem kn12 {K : FuncId → Option KF} (hK : KnOk Try.prog E0 K) (hW : WK K) (h26 : K 26 = none) (h29 : K 29 = some kfNd) (h9 : K 9 = some (kfNode gEncode)) : KnWell Try.prog E0 12 kfDecW :=
 specKF_text (fn := Try.f12) (c := C12) (d := B12) E0_ok hK (by kernel_rfl) (by kernel_rfl) (annot_isOf C12 _ (by kernel_rfl)) fun x S ho => by
  obtain ⟨s, fit⟩ := x
  suffices h : ∃ S', F12 (ev E0 K 6) rounds (sv s) S = some (.ret (.tuple [encN (decW s).1, .int .i64 (decW s).2]), S') ∧ Grew (fun x => S.next ≤ x) S S' by
   obtain ⟨S', h1, h2⟩ := h
   exact ⟨6, _, S', h1, h2.mono fun x hx h => by omega, .tuple (.cons (.same (under_encN _ _)) (.cons (.same (.int _ _)) .nil))⟩
  have hF := F12_eq (ev E0 K 6) rounds (sv s) S
  obtain ⟨a1, a2, a3⟩ := ag_new ho 24 5 (Tr.ofListFrom .nil [(sv []), (.int .i64 0), (.bool false), (sv []), .nilslice] 0)
  rw [oB, nwP_fst] at hF
  generalize hS1 : (nwP 24 5 (Tr.ofListFrom .nil [(sv []), (.int .i64 0), (.bool false), (sv []), .nilslice] 0) S).2 = S1 at a1 a2 a3 hF
  have on1 := a2.on.trans ho
  obtain ⟨b1, b2, b3⟩ := ag_new on1 26 1 (one (.int .i64 0))
  rw [oB, nwP_fst] at hF
  generalize hS2 : (nwP 26 1 (one (.int .i64 0)) S1).2 = S2 at b1 b2 b3 hF
  have on2 := b2.on.trans on1
  have hp0 := a1.grew (by omega) (fun h => h) b2
  obtain ⟨S3, c1, c2, c3, c4⟩ := new_run h26 5 s fit.long S2 on2
  rw [c1, callPF_ret, build57, oB] at hF
  have hp0 := hp0.grew (by omega) (fun h => h) c3
  have hp1 := b1.grew (by omega) (fun h => h) c3
  obtain ⟨S4, d1, d2, d3, d4⟩ := box_new c2.on 57 [.ptr (S2.next + 1) 0, .int .i64 0]
  have hp0 := hp0.grew (by omega) (fun h => h) d3
  have hp1 := hp1.grew (by omega) (fun h => h) d3
  have hW4 := c2.grew (by omega) (fun h => h) (fun _ _ _ h => h) d3
  have hC4 : CAt S4 S3.next (S2.next + 1) (13 - 13) := d2
  rw [d1, oB] at hF
  dsimp only at hF
  rw [show nilCheckV (.ptr S3.next 0) = some (.ptr S3.next 0) from rfl, oB, faP_ptr, oB, Nat.zero_add, hC4.ld0 hW4.on, oB] at hF
  dsimp only at hF
  obtain ⟨S5, e1, e2, e3⟩ := text_run hW 2 (S2.next + 1) S2.next s ⟨.pos 0, false⟩ S4 (by omega) hW4
  have n5 := e3.next
  have hp0 := hp0.grew (by omega) (by omega) e3
  have hp1 := hp1.grew (by omega) (by omega) e3
  have hC5 : CAt S5 S3.next (S2.next + 1) (13 - 13) := hC4.grew (by omega) (by omega) e3
  have g05 : Grew (fun x => S.next ≤ x) S S5 := ((((Grew.of0 a2).trans (Grew.of0 b2)).trans (Grew.of0 c3)).trans (Grew.of0 d3)).trans (e3.mono fun x _ hx => by omega)
  rw [e1, callPF_ret, show (sv [119, 104, 105, 115, 107, 45, 116, 114, 101, 101]) = sv magicN from rfl, binV_ss, strOp_eql, oB, must_run hW 5] at hF
  rw [hF]
  have fin : ∀ {X : Rs} {S5 : St}, Grew (fun x => S.next ≤ x) S S5 → decW s = (noN, 4) → (∃ S', X = some (.ret (.tuple [encN noN, .int .i64 4]), S') ∧ Grew (fun x => x = S.next ∨ x = S1.next) S5 S') → ∃ S', X = some (.ret (.tuple [encN (decW s).1, .int .i64 (decW s).2]), S') ∧ Grew (fun x => S.next ≤ x) S S' := fun g hd ⟨S', h1, h2⟩ => ⟨S', by rw [h1, hd], g.trans (h2.mono fun x _ hx => by omega)⟩
  by_cases hm : (wText s ⟨.pos 0, false⟩).1 = magicN
  · rw [hm, beq_self_eq_true, if_pos rfl, callPF_ret]
    obtain ⟨S6, f1, f2, f3, f4, f5⟩ := kfNd_run (d := 13) (by omega) (by omega) e2 hC5 (by omega) (by omega) (ev E0 K 6) fun y hc hd hh => by
     have := effKF_run (post := postNd) (out := outNd) effU_Nd e2.on y hh
     unfold encNd at this
     rw [hc] at this
     rw [ev_known h29]
     exact this
    have hp0 := hp0.grew (by omega) (by omega) f4
    have hp1 := hp1.grew (by omega) (by omega) f4
    have g06 : Grew (fun x => S.next ≤ x) S S6 := g05.trans (f4.mono fun x _ hx => by omega)
    have hl := readW_lost s 13 (wText s ⟨.pos 0, false⟩).2
    have hdec : decW s = match readW s 13 (wText s ⟨.pos 0, false⟩).2 with
     | (some n, _, w) => if w.lost = false ∧ (w.left s).length = 0 ∧ (encodeN n).2 = 0 ∧ (encodeN n).1 = s then (n, 0) else (noN, 4)
     | _ => (noN, 4) := by unfold decW; rw [if_pos hm]; all_goals rfl
    rw [f1]
    cases hr : readW s 13 (wText s ⟨.pos 0, false⟩).2 with
    | mk o p =>
     obtain ⟨dp, w⟩ := p
     rw [hr] at hdec f2 f3
     simp only at f2 f3 ⊢
     cases o with
     | none => exact fin g06 hdec (callPF_wrong rfl (by kernel_rfl) (by kernel_rfl) f2.on hp0 hp1 (by omega) (by omega) (by omega))
     | some n =>
      have hw := hl n dp w hr
      have nok := readW_fit fit hr
      simp only at hdec
      rw [show outWn (some n) = .ret (encN n) from rfl, callPF_ret, encN_tree]
      obtain ⟨S7, q1, q2, q3, q4⟩ := hp0.stA f2.on big5 (treeN n)
      have on7 := q3.on.trans f2.on
      have hp1 := hp1.grew (by omega) (by omega) q3
      have g07 : Grew (fun x => S.next ≤ x) S S7 := g06.trans (q3.mono fun x _ hx => by omega)
      have hC7 := Bx.grew f3 (by omega) (by omega) q3
      have hW7 := f2.grew (by omega) (by omega) (fun _ _ _ => by omega) q3
      rw [q1, oB]
      dsimp only
      rw [q2.ldA on7 big5, oB, ← encN_tree]
      dsimp only
      rw [ev_known h9, kfNode_run _ n nok, callPF_ret, gEncode, extractV_tuple, extractV_tuple, show ([sv (encodeN n).1, .int .i64 (encodeN n).2] : List V)[0]? = some (sv (encodeN n).1) from rfl, show ([sv (encodeN n).1, .int .i64 (encodeN n).2] : List V)[1]? = some (.int .i64 (encodeN n).2) from rfl, oB, oB, oB, faP_ptr, oB, Nat.zero_add, CAt.ld0 on7 hC7, oB]
      dsimp only
      rw [wend_run hW 4 (S2.next + 1) S2.next s w S7 hW7, callPF_ret, hw, Bool.not_false, Bool.true_and, guardV_t, oB]
      have wrong : ∀ {X : Rs}, ¬ (w.lost = false ∧ (w.left s).length = 0 ∧ (encodeN n).2 = 0 ∧ (encodeN n).1 = s) → (∃ S', X = some (.ret (.tuple [encN noN, .int .i64 4]), S') ∧ Grew (fun x => x = S.next ∨ x = S1.next) S7 S') → ∃ S', X = some (.ret (.tuple [encN (decW s).1, .int .i64 (decW s).2]), S') ∧ Grew (fun x => S.next ≤ x) S S' := fun hn h => fin g07 (by rw [hdec, if_neg hn]) h
      by_cases h1 : (w.left s).length = 0
      · rw [decide_eq_true h1, cond_true, oB, oB, cond_true, binV_ii, intsV_eql, oB, pickV_bool, cond_true, oB, guardV_t, oB]
        by_cases h2 : (encodeN n).2 = 0
        · rw [decide_eq_true h2, cond_true, oB, oB, cond_true, oB, oB, cond_true, binV_ss, strOp_eql, oB, pickV_bool, cond_true, oB, must_run hW 5]
          by_cases h3 : (encodeN n).1 = s
          · rw [h3, beq_self_eq_true, if_pos rfl, callPF_ret, q2.ldA on7 big5, oB]
            dsimp only
            obtain ⟨S8, u1, u2, u3, u4⟩ := q2.stA on7 big5 (treeN n)
            have on8 := u3.on.trans on7
            obtain ⟨S9, v1, v2, v3, v4⟩ := (hp1.grew (by omega) (by omega) u3).st_one on8 (.int .i64 0) rfl rfl rfl
            rw [u1, oB]
            dsimp only
            rw [v1, oB]
            dsimp only
            refine ⟨S9, ?_, (g07.trans (u3.mono fun x _ hx => by omega)).trans (v3.mono fun x _ hx => by omega)⟩
            rw [finR_ok rfl (by kernel_rfl) (by kernel_rfl) (v3.on.trans on8) (u2.grew (by omega) (by omega) v3) v2, hdec, if_pos ⟨hw, h1, h2, h3⟩, encN_tree]
          · rw [beq_false_of_ne h3, if_neg (by decide)]
            exact wrong (fun h => h3 h.2.2.2) (callPF_wrong rfl (by kernel_rfl) (by kernel_rfl) on7 q2 hp1 (by omega) (by omega) (by omega))
        · rw [decide_eq_false h2, cond_false, oB, oB, cond_false, oB, oB, cond_false, oB, pickV_bool, cond_false, oB, must_run hW 5, if_neg (by decide)]
          exact wrong (fun h => h2 h.2.2.1) (callPF_wrong rfl (by kernel_rfl) (by kernel_rfl) on7 q2 hp1 (by omega) (by omega) (by omega))
      · rw [decide_eq_false h1, cond_false, oB, oB, cond_false, oB, pickV_bool, cond_false, oB, guardV_t, oB, cond_false, oB, oB, cond_false, oB, oB, cond_false, oB, pickV_bool, cond_false, oB, must_run hW 5, if_neg (by decide)]
        exact wrong (fun h => h1 h.2.1) (callPF_wrong rfl (by kernel_rfl) (by kernel_rfl) on7 q2 hp1 (by omega) (by omega) (by omega))
  · rw [beq_false_of_ne hm, if_neg (by decide)]
    exact fin g05 (by unfold decW; rw [if_neg hm]) (callPF_wrong rfl (by kernel_rfl) (by kernel_rfl) e2.on hp0 hp1 (by omega) (by omega) (by omega))
end Go.Proofs.Ythmkdoaaciamlaa.W
