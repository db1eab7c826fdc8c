/-
  WHAT THE FUNCTIONS COME TO: each is read by the evaluator, printed, and told as a function of data, part 8 of 8 (no condition).
-/
import Derived.Test.YtcbaodegkfokjaaDoorW7
namespace Go.Proofs.YtcbaodegkfokjaaDoor.W
open Go.Proofs.YtcbaodegkfokjaaDoor.Ev
theorem mayL_kid : ∀ {l : List Nd} {p : Option (List UInt8)}, mayL p l = true → ∀ y ∈ l, mayN y = true := fun h y hy => (mayL_all h y hy).2
theorem may_kids {x : Nd} (h : mayN x = true) : (x.kind = 2 ∧ ∀ y ∈ x.kids, mayN y = true) ∨ x.kids = [] := by
 rcases mayCase h with ⟨_, hk⟩ | ⟨_, hk⟩ | ⟨h2, hk⟩
 · exact .inr hk
 · exact .inr hk
 · exact .inl ⟨h2, mayL_kid hk⟩
theorem sameL_refl : ∀ {l : List Nd}, (∀ y ∈ l, sameN y y = true) → sameL l l = true
 | [], _ => rfl
 | x :: l, h => by rw [sameL, h x (List.mem_cons_self ..), sameL_refl fun y hy => h y (List.mem_cons_of_mem _ hy)]; rfl
theorem same_refl : ∀ (m : Nat) (x : Nd), m ≤ 14 → mayN x = true → deepN m x < m → deepN m x ≤ 12 → sameN x x = true
 | 0, x, _, _, h, _ => by omega
 | m + 1, x, hm, may, h1, h2 => by
  have ht : tooDeepN x = false := by
   have := deep_stable' (m := m + 1) (x := x) h1 (14 - (m + 1))
   rw [show m + 1 + (14 - (m + 1)) = 14 by omega] at this
   unfold tooDeepN
   rw [this]
   simpa using h2
  rw [sameN_eq, ht, beq_self_eq_true, beq_self_eq_true, beq_self_eq_true, decide_eq_true rfl]
  simp only [Bool.not_false, Bool.and_self, Bool.true_and]
  rcases may_kids may with ⟨hk, hkids⟩ | h0
  · refine sameL_refl fun y hy => ?_
    have := deep_kid hk hy h1
    exact same_refl m y (by omega) (hkids y hy) (by omega) (by omega)
  · rw [h0]; rfl
theorem less_irrefl : ∀ s : List UInt8, Op.bytesLess s s = false
 | [] => rfl
 | a :: s => by
  unfold Op.bytesLess
  rw [less_irrefl s]
  simp
theorem less_trans : ∀ a b c : List UInt8, Op.bytesLess a b = true → Op.bytesLess b c = true → Op.bytesLess a c = true
 | a, [], _, h, _ => by
  have e : Op.bytesLess a [] = false := by cases a <;> rfl
  rw [e] at h; cases h
 | _, b :: l, [], _, h => by
  have e : Op.bytesLess (b :: l) [] = false := rfl
  rw [e] at h; cases h
 | [], _ :: _, _ :: _, _, _ => by unfold Op.bytesLess; rfl
 | x :: a, y :: b, z :: c, h1, h2 => by
  unfold Op.bytesLess at h1 h2 ⊢
  simp only [Bool.or_eq_true, Bool.and_eq_true, decide_eq_true_eq, beq_iff_eq] at h1 h2 ⊢
  rcases h1 with h1 | ⟨h1, h1'⟩
  · rcases h2 with h2 | ⟨h2, _⟩
    · exact .inl (UInt8.lt_trans h1 h2)
    · exact .inl (h2 ▸ h1)
  · rcases h2 with h2 | ⟨h2, h2'⟩
    · exact .inl (h1 ▸ h2)
    · exact .inr ⟨h1.trans h2, less_trans a b c h1' h2'⟩
theorem mayL_less : ∀ {l : List Nd} {q : List UInt8}, mayL (some q) l = true → ∀ y ∈ l, Op.bytesLess q y.name = true
 | x :: l, q, h, y, hy => by
  rw [mayL] at h
  simp only [Bool.and_eq_true] at h
  have h1 : Op.bytesLess q x.name = true := h.1.2
  rcases List.mem_cons.1 hy with rfl | hy
  · exact h1
  · exact less_trans _ _ _ h1 (mayL_less h.2 y hy)
 | [], _, _, _, hy => by cases hy
theorem mayL_tail {p : Option (List UInt8)} {x : Nd} {l : List Nd} (h : mayL p (x :: l) = true) : mayL (some x.name) l = true := (mayL_cons h).rest
theorem find_kid : ∀ {l : List Nd} {p : Option (List UInt8)}, mayL p l = true → ∀ y ∈ l, l.find? (fun z => z.name == y.name) = some y
 | x :: l, p, h, y, hy => by
  rw [List.find?_cons]
  rcases List.mem_cons.1 hy with rfl | hy
  · rw [beq_self_eq_true]
  · have hl := mayL_less (mayL_tail h) y hy
    have hne : x.name ≠ y.name := fun e => by rw [e, less_irrefl] at hl; cases hl
    rw [beq_false_of_ne hne]
    exact find_kid (mayL_tail h) y hy
 | [], _, _, _, hy => by cases hy
mutual
def partsN : Nd → List (List UInt8) → List (List (List UInt8))
 | .mk _ k _ _ l, ps => ps :: (if k = 2 then partsL l ps else [])
def partsL : List Nd → List (List UInt8) → List (List (List UInt8))
 | [], _ => []
 | y :: l, ps => partsN y (ps ++ [y.name]) ++ partsL l ps
end
theorem partsN_eq (x : Nd) (ps : List (List UInt8)) : partsN x ps = ps :: (if x.kind = 2 then partsL x.kids ps else []) := by cases x; rw [partsN]; rfl
def Of (p : List UInt8) (ps : List (List UInt8)) : Prop := (p = [] ∧ ps = []) ∨ (p ≠ [] ∧ splitS p = ps)
theorem of_kid {p : List UInt8} {ps : List (List UInt8)} {y : Nd} (h : Of p ps) (hn : nameOk y.name = true) : Of (pathOf p y) (ps ++ [y.name]) := by
 have h47 := nameOk_slash hn
 have hs : splitS y.name = [y.name] := split_none _ (by
  rw [List.findIdx?_eq_none_iff]
  intro c hc
  exact beq_false_of_ne fun e => h47 (e ▸ hc))
 have hne : y.name ≠ [] := fun e => by
  have := (nameOk_all hn).1
  rw [e] at this
  simp at this
 unfold pathOf
 rcases h with ⟨rfl, rfl⟩ | ⟨h1, rfl⟩
 · rw [if_pos rfl]
   exact .inr ⟨hne, hs⟩
 · rw [if_neg h1]
   refine .inr ⟨by simp, ?_⟩
   rw [List.append_assoc]
   show splitS (p ++ 47 :: y.name) = _
   rw [splitS_append, hs]
mutual
theorem split_pathsN : ∀ (x : Nd) (p : List UInt8) (ps : List (List UInt8)), mayN x = true → Of p ps → p ≠ [] → (pathsN x p).map splitS = partsN x ps
 | .mk n k e d l, p, ps, may, h, hp => by
  rw [pathsN_eq, partsN_eq, List.map_cons]
  have h0 : splitS p = ps := by
   rcases h with h | h
   · exact absurd h.1 hp
   · exact h.2
  rw [h0]
  congr 1
  rcases mayCase may with ⟨hk, hkids⟩ | ⟨hk, hkids⟩ | ⟨hk, hkids⟩
  · rw [if_neg (by omega), if_neg (by omega)]; rfl
  · rw [if_neg (by omega), if_neg (by omega)]; rfl
  · rw [if_pos hk, if_pos hk]
    exact split_pathsL l p ps (mayL_all hkids) h
theorem split_pathsL : ∀ (l : List Nd) (p : List UInt8) (ps : List (List UInt8)), (∀ y ∈ l, nameOk y.name = true ∧ mayN y = true) → Of p ps → (pathsL l p).map splitS = partsL l ps
 | [], p, ps, _, _ => by rw [pathsL, partsL]; rfl
 | y :: l, p, ps, hl, h => by
  obtain ⟨h1, h2⟩ := hl y (List.mem_cons_self ..)
  have ho := of_kid h h1
  have hne : pathOf p y ≠ [] := by
   rcases ho with ⟨_, h⟩ | ⟨h, _⟩
   · simp at h
   · exact h
  rw [pathsL, partsL, List.map_append, split_pathsN y _ _ h2 ho hne, split_pathsL l p ps (fun z hz => hl z (List.mem_cons_of_mem _ hz)) h]
end
structure Finds (x : Nd) (d : Nat) (rest : List (List UInt8)) : Prop where
 len : rest.length + 1 ≤ d
 ex : ∃ z, runP stepF rest x = some z ∧ (rest = [] → z = x) ∧ (rest ≠ [] → rest.getLast? = some z.name)
theorem deep_pos : ∀ (m : Nat) (x : Nd), 1 ≤ deepN m x
 | 0, x => by rw [deepN]; exact Nat.le_refl _
 | m + 1, x => by
  rw [deepN]
  split
  · exact Nat.le_refl _
  · exact (foldl_max_ge (f := deepN m) x.kids 1).1
theorem partsL_mem : ∀ (l : List Nd) (ps : List (List UInt8)) (q : List (List UInt8)), q ∈ partsL l ps → ∃ y ∈ l, q ∈ partsN y (ps ++ [y.name])
 | [], ps, q, h => by rw [partsL] at h; cases h
 | y :: l, ps, q, h => by
  rw [partsL] at h
  rcases List.mem_append.1 h with h | h
  · exact ⟨y, List.mem_cons_self .., h⟩
  · obtain ⟨z, hz, h⟩ := partsL_mem l ps q h
    exact ⟨z, List.mem_cons_of_mem _ hz, h⟩
theorem parts_find : ∀ (m : Nat) (x : Nd), mayN x = true → deepN m x < m → ∀ ps q, q ∈ partsN x ps → ∃ rest, q = ps ++ rest ∧ Finds x (deepN m x) rest
 | 0, x, _, h => by omega
 | m + 1, x, may, h => fun ps q hq => by
  rw [partsN_eq] at hq
  rcases List.mem_cons.1 hq with rfl | hq
  · exact ⟨[], by simp, by have := deep_pos (m + 1) x; simpa using this, x, rfl, fun _ => rfl, fun h => absurd rfl h⟩
  · rcases mayCase may with ⟨hk, hkids⟩ | ⟨hk, hkids⟩ | ⟨hk, hkids⟩
    · rw [if_neg (by omega)] at hq; cases hq
    · rw [if_neg (by omega)] at hq; cases hq
    · rw [if_pos hk] at hq
      obtain ⟨y, hy, hq⟩ := partsL_mem _ _ _ hq
      have hd := deep_kid hk hy h
      obtain ⟨rest, h1, h2, z, h3, h4, h5⟩ := parts_find m y (mayL_kid hkids y hy) (by omega) _ _ hq
      have hne : y.name ≠ [] := fun e => by
       have := (nameOk_all (mayL_all hkids y hy).1).1
       rw [e] at this
       simp at this
      have hst : stepF x y.name = some y := by
       unfold stepF
       rw [if_pos ⟨hk, hne⟩]
       exact find_kid hkids y hy
      refine ⟨y.name :: rest, by rw [h1, List.append_assoc]; rfl, by rw [List.length_cons]; omega, z, by rw [runP, hst]; exact h3, fun h => (by cases h), fun _ => ?_⟩
      cases rest with
      | nil => rw [h4 rfl]; rfl
      | cons a r =>
       rw [List.getLast?_cons_cons]
       exact h5 (by simp)
def risesL : List (List UInt8) → List (List UInt8) → Bool
 | [], b => decide (0 < b.length)
 | _ :: _, [] => false
 | a :: l, b :: m => if a = b then risesL l m else Op.bytesLess a b
theorem rises_more : ∀ (ps : List (List UInt8)) (n : List UInt8) (r : List (List UInt8)), risesL ps (ps ++ n :: r) = true
 | [], n, r => by simp [risesL]
 | p :: ps, n, r => by rw [List.cons_append, risesL, if_pos rfl]; exact rises_more ps n r
theorem rises_fork : ∀ (ps : List (List UInt8)) (a b : List UInt8) (r1 r2 : List (List UInt8)), Op.bytesLess a b = true → risesL (ps ++ a :: r1) (ps ++ b :: r2) = true
 | [], a, b, r1, r2, h => by
  have hne : a ≠ b := fun e => by rw [e, less_irrefl] at h; cases h
  rw [List.nil_append, List.nil_append, risesL, if_neg hne]; exact h
 | p :: ps, a, b, r1, r2, h => by rw [List.cons_append, List.cons_append, risesL, if_pos rfl]; exact rises_fork ps a b r1 r2 h
mutual
theorem partsN_pre : ∀ (x : Nd) (ps q : List (List UInt8)), q ∈ partsN x ps → ∃ r, q = ps ++ r
 | .mk n k e d l, ps, q, h => by
  rw [partsN] at h
  rcases List.mem_cons.1 h with rfl | h
  · exact ⟨[], by simp⟩
  · split at h
    · obtain ⟨a, r, h1, _⟩ := partsL_pre l ps q h
      exact ⟨a :: r, h1⟩
    · cases h
theorem partsL_pre : ∀ (l : List Nd) (ps q : List (List UInt8)), q ∈ partsL l ps → ∃ a r, q = ps ++ a :: r ∧ ∃ y ∈ l, y.name = a
 | [], ps, q, h => by rw [partsL] at h; cases h
 | y :: l, ps, q, h => by
  rw [partsL] at h
  rcases List.mem_append.1 h with h | h
  · obtain ⟨r, h1⟩ := partsN_pre y _ q h
    exact ⟨y.name, r, by rw [h1, List.append_assoc]; rfl, y, List.mem_cons_self .., rfl⟩
  · obtain ⟨a, r, h1, z, hz, h2⟩ := partsL_pre l ps q h
    exact ⟨a, r, h1, z, List.mem_cons_of_mem _ hz, h2⟩
end
mutual
theorem partsN_rise : ∀ (x : Nd) (ps : List (List UInt8)), mayN x = true → (partsN x ps).Pairwise (fun a b => risesL a b = true)
 | .mk n k e d l, ps, may => by
  rw [partsN_eq]
  rcases mayCase may with ⟨hk, hkids⟩ | ⟨hk, hkids⟩ | ⟨hk, hkids⟩
  · rw [if_neg (by omega)]; simp
  · rw [if_neg (by omega)]; simp
  · rw [if_pos hk]
    refine List.pairwise_cons.2 ⟨fun q hq => ?_, partsL_rise l ps _ hkids⟩
    obtain ⟨a, r, rfl, _⟩ := partsL_pre _ _ _ hq
    exact rises_more ps a r
theorem partsL_rise : ∀ (l : List Nd) (ps : List (List UInt8)) (p : Option (List UInt8)), mayL p l = true → (partsL l ps).Pairwise (fun a b => risesL a b = true)
 | [], ps, p, _ => by rw [partsL]; exact List.Pairwise.nil
 | y :: l, ps, p, h => by
  have hc := mayL_cons h
  rw [partsL]
  refine List.pairwise_append.2 ⟨partsN_rise y _ hc.may, partsL_rise l ps _ hc.rest, fun a ha b hb => ?_⟩
  obtain ⟨r1, rfl⟩ := partsN_pre y _ a ha
  obtain ⟨c, r2, rfl, z, hz, rfl⟩ := partsL_pre l ps b hb
  rw [List.append_assoc]
  exact rises_fork ps y.name z.name _ r2 (mayL_less hc.rest z hz)
end
mutual
theorem pathsN_count : ∀ (x : Nd) (p : List UInt8), mayN x = true → (pathsN x p).length = cntN x
 | .mk n k e d l, p, may => by
  rw [pathsN_eq, cntN, List.length_cons]
  rcases mayCase may with ⟨hk, hkids⟩ | ⟨hk, hkids⟩ | ⟨hk, hkids⟩
  · have hl : l = [] := hkids
    rw [if_neg (by omega), hl, cntL]; rfl
  · have hl : l = [] := hkids
    rw [if_neg (by omega), hl, cntL]; rfl
  · rw [if_pos hk]
    have := pathsL_count l p (mayL_kid hkids)
    show (pathsL l p).length + 1 = _
    omega
theorem pathsL_count : ∀ (l : List Nd) (p : List UInt8), (∀ y ∈ l, mayN y = true) → (pathsL l p).length = cntL l
 | [], p, _ => by rw [pathsL, cntL]; rfl
 | y :: l, p, h => by
  rw [pathsL, cntL, List.length_append, pathsN_count y _ (h y (List.mem_cons_self ..)), pathsL_count l p fun z hz => h z (List.mem_cons_of_mem _ hz)]
end
structure PathsOk (x : Nd) : Prop where
 len : (eachN x).length + 1 = cntN x
 find : ∀ q ∈ eachN x, ∃ z, findS x q = some z ∧ (splitS q).getLast? = some z.name ∧ (splitS q).length + 1 ≤ deepN 14 x
 rise : ∀ (i : Nat) a b, (eachN x)[i]? = some a → (eachN x)[i + 1]? = some b → risesL (splitS a) (splitS b) = true
theorem paths_ok {x : Nd} (may : mayN x = true) (hd : deepN 14 x ≤ 12) : PathsOk x := by
 have htd : tooDeepN x = false := by unfold tooDeepN; simpa using hd
 have he : eachN x = if x.kind = 2 then pathsL x.kids [] else [] := by unfold eachN; rw [htd, if_neg (by simp)]
 rcases mayCase may with ⟨hk, hkids⟩ | ⟨hk, hkids⟩ | ⟨hk, hkids⟩
 · rw [if_neg (by omega)] at he
   refine ⟨by rw [he, cntN_eq, hkids, cntL]; rfl, fun q hq => ?_, fun i a b h => ?_⟩
   · rw [he] at hq; cases hq
   · rw [he] at h; simp at h
 · rw [if_neg (by omega)] at he
   refine ⟨by rw [he, cntN_eq, hkids, cntL]; rfl, fun q hq => ?_, fun i a b h => ?_⟩
   · rw [he] at hq; cases hq
   · rw [he] at h; simp at h
 · rw [if_pos hk] at he
   have hsp := split_pathsL x.kids [] [] (mayL_all hkids) (.inl ⟨rfl, rfl⟩)
   have hx : partsN x [] = [] :: partsL x.kids [] := by rw [partsN_eq, if_pos hk]
   refine ⟨by rw [he, pathsL_count _ _ (mayL_kid hkids), cntN_eq]; omega, fun q hq => ?_, fun i a b h1 h2 => ?_⟩
   · rw [he] at hq
     have hm : splitS q ∈ partsL x.kids [] := by rw [← hsp]; exact List.mem_map_of_mem hq
     obtain ⟨rest, h1, h2, z, h3, _, h5⟩ := parts_find 14 x may (by omega) [] (splitS q) (by rw [hx]; exact List.mem_cons_of_mem _ hm)
     rw [List.nil_append] at h1
     have hne : rest ≠ [] := by rw [← h1]; exact splitS_ne q
     have hq0 : q ≠ [] := fun e => by
      obtain ⟨a, r, e1, y, hy, e2⟩ := partsL_pre _ _ _ hm
      rw [e] at e1
      have e3 : [[]] = a :: r := e1
      simp at e3
      have := (nameOk_all (mayL_all hkids y hy).1).1
      rw [e2, e3.1] at this
      simp at this
     refine ⟨z, by unfold findS; rw [if_neg hq0, h1]; exact h3, by rw [h1]; exact h5 hne, by rw [h1]; exact h2⟩
   · have hp := partsL_rise x.kids [] none hkids
     rw [he] at h1 h2
     have g1 : (partsL x.kids [])[i]? = some (splitS a) := by rw [← hsp, List.getElem?_map, h1]; rfl
     have g2 : (partsL x.kids [])[i + 1]? = some (splitS b) := by rw [← hsp, List.getElem?_map, h2]; rfl
     obtain ⟨l1, e1⟩ := List.getElem?_eq_some_iff.1 g1
     obtain ⟨l2, e2⟩ := List.getElem?_eq_some_iff.1 g2
     have := List.pairwise_iff_getElem.1 hp i (i + 1) l1 l2 (by omega)
     rw [e1, e2] at this
     exact this
end Go.Proofs.YtcbaodegkfokjaaDoor.W
namespace Go.Proofs.YtcbaodegkfokjaaDoor.W
open Go.Proofs.YtcbaodegkfokjaaDoor.Ev
def cntB (l : List UInt8) (c : UInt8) : Nat := (l.filter (fun x => x == c)).length
theorem countByte_spec {c : UInt8} : ∀ (l : List UInt8) (acc : Nat), countByte c.toNat l.length (pack l) acc = acc + cntB l c
 | [], acc => rfl
 | b :: l, acc => by
  simp only [List.length_cons, countByte, pack]
  have hb : b.toNat < 256 := b.toNat_lt
  rw [show (b.toNat + 256 * pack l) % 256 = b.toNat by omega, show (b.toNat + 256 * pack l) / 256 = pack l by omega]
  unfold cntB
  by_cases h : b = c
  · subst h
    rw [show Nat.beq b.toNat b.toNat = true from beq_true.2 rfl, cond_true, countByte_spec l (acc + 1), List.filter_cons_of_pos (by simp), List.length_cons]
    unfold cntB
    omega
  · have h1 : Nat.beq b.toNat c.toNat = false := beq_false.2 fun e => h (UInt8.toNat_inj.1 e)
    rw [h1, cond_false, countByte_spec l acc, List.filter_cons_of_neg (by simpa using h)]
    rfl
theorem extV_three (l n c : Nat) (S : St) : extV 3 [.str l n, .int .u8 (.ofNat c)] S = bif Nat.blt c 256 then some (.val (.int .i64 (.ofNat (countByte c l n 0))) S) else none := rfl
theorem ext51 : E0.ext.get 51 = some 3 := by kernel_rfl
theorem call51 (self : EV) (s : List UInt8) (c : UInt8) (S : St) : callK E0 self (.fn (.func 51) [] []) [sv s, .int .u8 (c.toNat : Int)] S = some (.ret (.int .i64 (cntB s c : Int)), S) := by
 have h := callK_ext (E := E0) (self := self) ext51 [] [] [sv s, .int .u8 (c.toNat : Int)] S
 have h1 : extV 3 [sv s, .int .u8 (c.toNat : Int)] S = bif Nat.blt c.toNat 256 then some (.val (.int .i64 (.ofNat (countByte c.toNat s.length (pack s) 0))) S) else none := extV_three _ _ _ _
 rw [blt_true.2 c.toNat_lt, countByte_spec, Nat.zero_add, cond_true] at h1
 rw [List.nil_append, List.append_nil, h1] at h
 exact h
theorem split_len : ∀ s : List UInt8, (splitS s).length = cntB s 47 + 1
 | [] => rfl
 | c :: s => by
  have ih := split_len s
  unfold cntB at ih ⊢
  rw [splitS]
  by_cases h : c = 47
  · rw [if_pos h, List.length_cons, ih, List.filter_cons_of_pos (by simpa using h), List.length_cons]
  · rw [if_neg h, List.filter_cons_of_neg (by simpa using h), ← ih]
    cases hs : splitS s with
    | nil => exact absurd hs (splitS_ne s)
    | cons p ps => rfl
theorem cnt_le (s : List UInt8) (c : UInt8) : cntB s c ≤ s.length := List.length_filter_le _ _
theorem f42_run {K : FuncId → Option KF} (h42 : K 42 = none) (m : Nat) (s : List UInt8) (S : St) : (ev E0 K (m + 1)).f 42 [sv s, sv [47]] S = some (.ret (.int .i64 (cntB s 47 : Int)), S) := by
 refine ev_read (c := C42) (d := B42) (by kernel_rfl) (by kernel_rfl) (annot_isOf C42 _ (by kernel_rfl)) h42 (?_ : F42 (ev E0 K m) rounds (sv s) (sv [47]) S = _)
 rw [F42_eq, lnStr_sv, oB]
 dsimp only
 rw [binV_ii, intsV_eql, show decide ((([47] : List UInt8).length : Int) = 0) = false from rfl, oB, ifK_bool, cond_false, lnStr_sv, oB]
 dsimp only
 rw [binV_ii, intsV_eql, show decide ((([47] : List UInt8).length : Int) = 1) = true from rfl, oB, ifK_bool, cond_true, show (V.int .i64 0) = .int .i64 ((0 : Nat) : Int) from rfl, ixS_sv [47] .i64 0 (by decide), oB]
 show callP (callK E0 (ev E0 K m) (.fn (.func 51) [] []) [sv s, .int .u8 ((47 : UInt8).toNat : Int)] S) _ = _
 rw [call51, callP_ret]
section
variable {s : St}
theorem ixP_sl (r n i : Nat) (h : i < n) : ixP 1 (.slice r 0 n n) (.int .i64 (i : Int)) = some (.ptr r i) := by
 have h0 : ixP 1 (.slice r 0 n n) (.int .i64 (i : Int)) = bif Nat.blt i n then some (.ptr r (0 + i * 1)) else none := rfl
 rw [h0, blt_true.2 h, cond_true, Nat.mul_one, Nat.zero_add]
theorem rowAt_ldOn {r e i : Nat} {l : List (List UInt8)} (h : RowAt s r e 1 (l.map fun p => one (sv p))) (hi : i < l.length) : ld1 (.ptr r i) (onS s) = some (sv l[i], rd s r i 1) := by
 obtain ⟨c, h1, h2⟩ := h.row
 have hfit := h.fit
 have h3 := h2 i _ (by rw [List.getElem?_map, List.getElem?_eq_getElem hi]; rfl)
 show ld (onS s) r i = _
 unfold ld
 rw [show (onS s).heap.get r = _ from h1]
 simp only [Nat.div_one, Nat.mod_one]
 rw [blt_true.2 (show i < 1 * (l.map fun p => one (sv p)).length by rw [List.length_map]; omega), blt_true.2 hfit, Bool.and_self, cond_true, h3]
 rfl
theorem lnS_sl (r n : Nat) : lnS (.slice r 0 n n) s = some (.int .i64 (n : Int), s) := rfl
theorem slice_full (r n : Nat) (h : 0 < n) : sliceV E0 32 (.slice r 0 n n) none (some (.int .i64 (n : Int))) none s = some (.slice r 0 n n, s) := by
 have hu : und E0 32 = some (.slice 9) := by kernel_rfl
 unfold sliceV
 rw [hu, oB]
 simp only
 rw [bounds_hi .i64 (Nat.le_refl n), oB, show Go.Proofs.YtcbaodegkfokjaaDoor.Ev.sizeT E0 9 = some 1 by kernel_rfl, oB]
 simp
theorem make32 (ho : s.on = false) (n : Nat) (hn : n ≤ 20000) : ∃ t, makeSliceK E0 32 (.int .i64 (n : Int)) (.int .i64 (n : Int)) s = some (.slice s.next 0 n n, t) ∧ RowAt t s.next 9 1 (List.replicate n (one (sv []))) ∧ Grew (fun _ => False) s t ∧ t.next = s.next + 1 := by
 have hr := rowAt_makeRow (s := s) (e := 9) (z := 1) (n := n) (v := sv []) ho (by decide) (by unfold big; omega)
 refine ⟨makeRow s 9 1 (sv []) n, ?_, hr, grew_nw ho _ _, rfl⟩
 unfold makeSliceK
 rw [show sliceElem E0 32 = some (9, 1, 16) by kernel_rfl, oB, show natOf (.int .i64 (n : Int)) = some n from rfl, oB, oB]
 unfold makeAtK
 rw [show Nat.ble n n = true from ble_true.2 (Nat.le_refl _), blt_true.2 (show n * (16 + 1 + 1) < maxCells by unfold maxCells; omega), Bool.and_self, cond_true, show zeroT E0 9 = some (sv []) by kernel_rfl, oB]
 rfl
end
theorem L28_spec {K : FuncId → Option KF} (h43 : K 43 = none) (h52 : K 52 = none) (h48 : K 48 = none) (m N r n : Nat) (hn : n ≤ 20000) (all : List (List UInt8)) :
 ∀ (s : List UInt8) (i k : Nat) (l : List (Tr V)) (S : St), s.length ≤ 10000 → s.length < k → S.on = false → r < S.next → i + (splitS s).length = n → all = all.take i ++ splitS s → l.length = n → l.take i = (all.take i).map (fun p => one (sv p)) → RowAt S r 9 1 l →
 ∃ S', L28_35 (ev E0 K (m + 3)) N (R28_24 (ev E0 K (m + 3)) N (fun a s => projK [8] a fun a => (finN E0 (ev E0 K (m + 3)) Tryd.f28) a s) noEx) (exB 0 (R28_24 (ev E0 K (m + 3)) N (fun a s => projK [8] a fun a => (finN E0 (ev E0 K (m + 3)) Tryd.f28) a s) noEx) noEx) k (sv s) (sv [47]) (.int .i64 0) (.int .i64 ((n : Int) - 1)) (.slice r 0 n n) (.int .i64 (i : Int)) S = some (.ret (.slice r 0 n n), S') ∧
  RowAt S' r 9 1 (all.map fun p => one (sv p)) ∧ Grew (fun b => b = r) S S'
 | s, i, 0, l, S, _, hk, _, _, _, _, _, _, _ => by omega
 | s, i, k + 1, l, S, hs, hk, ho, lr, hin, hall, hl, htake, hrow => by
  have hlen1 : 1 ≤ (splitS s).length := by
   have := split_len s
   omega
  have hall_len : all.length = n := by
   have h1 := congrArg List.length hall
   rw [List.length_append, List.length_take] at h1
   omega
  have e1 : (one (sv s)) = (sv s).cells := rfl
  have last : splitS s = [s] → ∃ S', R28_24 (ev E0 K (m + 3)) N (fun a s => projK [8] a fun a => (finN E0 (ev E0 K (m + 3)) Tryd.f28) a s) noEx (fr 66 [(0, sv s), (9, .slice r 0 n n), (10, .int .i64 (i : Int))]) S = some (.ret (.slice r 0 n n), S') ∧ RowAt S' r 9 1 (all.map fun p => one (sv p)) ∧ Grew (fun b => b = r) S S' := fun hsp => by
   rw [hsp] at hin hall
   have hi1 : i + 1 = n := by simpa using hin
   obtain ⟨S1, a1, a2, a3, a4⟩ := hrow.stK ho (i := i) (by omega) (one (sv s))
   rw [Nat.mul_one] at a1
   have hst : stP 1 (.ptr r i) (sv s) S = some (.tuple [], S1) := by
    show vu (stK S r i 1 (one (sv s))) = _
    rw [a1]; rfl
   refine ⟨S1, ?_, ?_, a3⟩
   · rw [R28_24_eq, ixP_sl r n i (by omega), oB, hst, oB, binV_ii, intsV_add, wrap_succ (by omega), oB, hi1]
     dsimp only
     rw [slice_full r n (by omega), oB]
   · have : l.set i (one (sv s)) = all.map fun p => one (sv p) := by
      have h1 : l.set i (one (sv s)) = l.take i ++ [one (sv s)] := by
       rw [List.set_eq_take_append_cons_drop, if_pos (by omega), List.drop_of_length_le (by omega)]
      rw [h1, htake]
      conv => rhs; rw [hall]
      rw [List.map_append]; rfl
     rw [← this]
     exact a2
  rw [L28_35_eq, binV_ii, intsV_lss, oB, ifK_bool]
  by_cases hlt : i + 1 < n
  · rw [show decide ((i : Int) < (n : Int) - 1) = true by rw [decide_eq_true_iff]; omega, cond_true, f43_run h43 h52 h48 m s S, callP_ret]
    cases hf : s.findIdx? (fun x => x == 47) with
    | none =>
     exfalso
     rw [split_none s hf] at hin
     simp at hin
     omega
    | some j =>
     obtain ⟨hj, hsp⟩ := split_some s j hf
     rw [hsp, List.length_cons] at hin
     obtain ⟨S1, a1, a2, a3, a4⟩ := hrow.stK ho (i := i) (by omega) (one (sv (s.take j)))
     rw [Nat.mul_one] at a1
     have hst : stP 1 (.ptr r i) (sv (s.take j)) S = some (.tuple [], S1) := by
      show vu (stK S r i 1 (one (sv (s.take j)))) = _
      rw [a1]; rfl
     have hall2 : all.take (i + 1) = all.take i ++ [s.take j] := by
      conv => lhs; rw [hall, hsp]
      rw [List.take_append, List.length_take, Nat.min_eq_left (by omega), List.take_of_length_le (by rw [List.length_take]; omega), show i + 1 - i = 1 by omega]
      rfl
     obtain ⟨S2, b1, b2, b3⟩ := L28_spec h43 h52 h48 m N r n hn all (s.drop (j + 1)) (i + 1) k (l.set i (one (sv (s.take j)))) S1 (by rw [List.length_drop]; omega) (by rw [List.length_drop]; omega) (a3.on.trans ho) (by omega) (by omega)
      (by rw [hall2, List.append_assoc, List.singleton_append, ← hsp]; exact hall) (by rw [List.length_set]; exact hl)
      (by
       rw [hall2, List.map_append, ← htake, List.take_set, List.take_add_one, List.set_append]
       rw [List.length_take, Nat.min_eq_left (by omega), if_neg (by omega), Nat.sub_self, List.getElem?_eq_getElem (by omega)]
       rfl) a2
     refine ⟨S2, ?_, b2, a3.trans b3⟩
     rw [show ixB s 47 = (j : Int) by unfold ixB; rw [hf], binV_ii, intsV_lss, show decide ((j : Int) < 0) = false by simp, oB, ifK_bool, cond_false, binV_ii, intsV_add, wrap_i64 (by omega) (by omega), Int.add_zero, oB, slice_sv und9 s (bounds_hi .i64 (by omega)) (by omega), oB]
     dsimp only
     rw [List.drop_zero, Nat.sub_zero, ixP_sl r n i (by omega), oB, hst, oB]
     dsimp only
     rw [lnStr_sv, oB]
     dsimp only
     rw [binV_ii, intsV_add, show (([47] : List UInt8).length : Int) = 1 from rfl, wrap_succ (by omega), oB, slice_sv und9 s (bounds_lo .i64 (by omega)) (Nat.le_refl _), oB]
     dsimp only
     rw [show List.take (s.length - (j + 1)) (s.drop (j + 1)) = s.drop (j + 1) from List.take_of_length_le (by rw [List.length_drop]; exact Nat.le_refl _), binV_ii, intsV_add, wrap_succ (by omega), oB]
     exact b1
  · have hl1 : (splitS s).length = 1 := by omega
    have hsp : splitS s = [s] := by
     cases hf : s.findIdx? (fun x => x == 47) with
     | none => exact split_none s hf
     | some j =>
      obtain ⟨hj, hsp⟩ := split_some s j hf
      have := split_len (s.drop (j + 1))
      rw [hsp, List.length_cons] at hl1
      omega
    rw [show decide ((i : Int) < (n : Int) - 1) = false by rw [decide_eq_false_iff_not]; omega, cond_false, exB_same]
    exact last hsp
theorem split11 {K : FuncId → Option KF} (h11 : K 11 = none) (h28 : K 28 = none) (h42 : K 42 = none) (h43 : K 43 = none) (h52 : K 52 = none) (h48 : K 48 = none) (m : Nat) (s : List UInt8) (hs : s.length ≤ 10000) (S : St) (ho : S.on = false) :
 ∃ S', (ev E0 K (m + 5)).f 11 [sv s, sv [47]] S = some (.ret (.slice S.next 0 (splitS s).length (splitS s).length), S') ∧ RowAt S' S.next 9 1 ((splitS s).map fun p => one (sv p)) ∧ Grew (fun _ => False) S S' ∧ S.next < S'.next := by
 have hlen := split_len s
 have hcnt := cnt_le s 47
 obtain ⟨S1, a1, a2, a3, a4⟩ := make32 ho (splitS s).length (by omega)
 obtain ⟨S2, b1, b2, b3⟩ := L28_spec h43 h52 h48 m rounds S.next (splitS s).length (by omega) (splitS s) s 0 rounds _ S1 hs (by unfold rounds; omega) (a3.on.trans ho) (by omega) (by omega) (by simp) (by rw [List.length_replicate]) (by simp) a2
 have e28 := ev_read (K := K) (n := m + 3) (c := C28) (d := B28) (args := [sv s, sv [47], .int .i64 0, .int .i64 (-1)]) (s := S) (r := (.ret (.slice S.next 0 (splitS s).length (splitS s).length), S2)) (by kernel_rfl) (by kernel_rfl) (annot_isOf C28 _ (by kernel_rfl)) h28 (by
  show F28 (ev E0 K (m + 3)) rounds (sv s) (sv [47]) (.int .i64 0) (.int .i64 (-1)) S = _
  rw [F28_one, show ev E0 K (m + 3) = ev E0 K (m + 2 + 1) from rfl, f42_run h42 (m + 2) s S, callP_ret, binV_ii, intsV_add, wrap_succ (by omega), oB, lnStr_sv, oB]
  dsimp only
  rw [binV_ii, intsV_add, wrap_succ (by omega), oB, foldK_min, show min ((cntB s 47 + 1 : Nat) : Int) ((s.length + 1 : Nat) : Int) = ((splitS s).length : Int) by omega, oB]
  dsimp only
  rw [a1, oB]
  dsimp only
  rw [binV_ii, intsV_sub, wrap_i64 (by omega) (by omega), oB]
  exact b1)
 refine ⟨S2, ev_read (c := C11) (d := B11) (by kernel_rfl) (by kernel_rfl) (annot_isOf C11 _ (by kernel_rfl)) h11 (?_ : F11 (ev E0 K (m + 4)) rounds (sv s) (sv [47]) S = _), b2, a3.own (Nat.le_refl _) b3, by have := b3.next; omega⟩
 rw [F11_eq, e28, callP_ret]
theorem L13_spec {self : EV} (N r1 r2 : Nat) (a b : List (List UInt8)) (S : St) (ho : S.on = false) (ha : RowAt S r1 9 1 (a.map fun p => one (sv p))) (hb : RowAt S r2 9 1 (b.map fun p => one (sv p))) (la : a.length ≤ 20000) (lb : b.length ≤ 20000) :
 ∀ (x y : List (List UInt8)) (i k : Nat), a.drop i = x → b.drop i = y → i ≤ a.length → i ≤ b.length → x.length < k →
 L13_9 self N (R13_1 self N (finN E0 self Tryd.f13) noEx) (exB 0 (R13_1 self N (finN E0 self Tryd.f13) noEx) noEx) k (.slice r1 0 a.length a.length) (.slice r2 0 b.length b.length) (.int .i64 (i : Int)) S = some (.ret (.bool (risesL x y)), S)
 | x, y, i, 0, _, _, _, _, hk => by omega
 | [], y, i, k + 1, hx, hy, hia, hib, _ => by
  have h1 := drop_end hx
  have hyl : y.length = b.length - i := by rw [← hy, List.length_drop]
  rw [L13_9_eq, lnS_sl, oB]
  dsimp only
  rw [binV_ii, intsV_lss, dec_ge (by omega), oB, guardV_t, oB, cond_false, oB, oB, cond_false, oB, oB, cond_false, oB, oB, cond_false, oB, pickV_bool, cond_false, oB, ifK_bool, cond_false, exB_same, R13_1_eq, lnS_sl, oB, lnS_sl, oB, binV_ii, intsV_lss, oB, risesL]
  rw [show decide ((a.length : Int) < (b.length : Int)) = decide (0 < y.length) by rw [decide_eq_decide]; omega]
 | c :: x, [], i, k + 1, hx, hy, hia, hib, _ => by
  obtain ⟨hlt, hc, hx', hmem⟩ := drop_at hx
  have h2 := drop_end hy
  rw [L13_9_eq, lnS_sl, oB]
  dsimp only
  rw [binV_ii, intsV_lss, dec_lt hlt, oB, guardV_t, oB, cond_true, oB, oB, cond_true, oB, oB, cond_true, lnS_sl, oB, oB, cond_true]
  dsimp only
  rw [binV_ii, intsV_lss, dec_ge (by omega), oB, pickV_bool, cond_true, oB, ifK_bool, cond_false, exB_same, R13_1_eq, lnS_sl, oB, lnS_sl, oB, binV_ii, intsV_lss, oB, risesL]
  rw [show decide ((a.length : Int) < (b.length : Int)) = false by rw [decide_eq_false_iff_not]; omega]
 | c :: x, d :: y, i, k + 1, hx, hy, hia, hib, hk => by
  obtain ⟨hlt, hc, hx', hmem⟩ := drop_at hx
  obtain ⟨hlt2, hd, hy', hmem2⟩ := drop_at hy
  rw [L13_9_eq, lnS_sl, oB]
  dsimp only
  rw [binV_ii, intsV_lss, dec_lt hlt, oB, guardV_t, oB, cond_true, oB, oB, cond_true, oB, oB, cond_true, lnS_sl, oB, oB, cond_true]
  dsimp only
  rw [binV_ii, intsV_lss, dec_lt hlt2, oB, pickV_bool, cond_true, oB, ifK_bool, cond_true, ixP_sl r1 a.length i hlt, oB, rowAt_ldOn ha hlt, oB]
  dsimp only
  rw [ixP_sl r2 b.length i hlt2, oB, onS_rd, rowAt_ldOn hb hlt2, oB, hc, hd]
  dsimp only
  rw [binV_ss, strOp_neq, oB, endP_rd (by rfl), onS_rd, relog_onS ho, ifK_bool, risesL]
  by_cases hcd : c = d
  · rw [if_pos hcd, beq_iff_eq.2 hcd, Bool.not_true, cond_false, binV_ii, intsV_add, wrap_succ (by omega), oB]
    exact L13_spec N r1 r2 a b S ho ha hb la lb x y (i + 1) k hx' hy' (by omega) (by omega) (by simp at hk; omega)
  · rw [if_neg hcd, beq_false_of_ne hcd, Bool.not_false, cond_true, oB, rowAt_ldOn ha hlt, oB]
    dsimp only
    rw [oB, onS_rd, rowAt_ldOn hb hlt2, oB, hc, hd]
    dsimp only
    rw [binV_ss, strOp_lss, oB, endP_rd (by rfl), onS_rd, relog_onS ho]
theorem f13_run {K : FuncId → Option KF} (h13 : K 13 = none) (m r1 r2 : Nat) (a b : List (List UInt8)) (S : St) (ho : S.on = false) (ha : RowAt S r1 9 1 (a.map fun p => one (sv p))) (hb : RowAt S r2 9 1 (b.map fun p => one (sv p))) (la : a.length ≤ 20000) (lb : b.length ≤ 20000) :
 (ev E0 K (m + 1)).f 13 [.slice r1 0 a.length a.length, .slice r2 0 b.length b.length] S = some (.ret (.bool (risesL a b)), S) := by
 refine ev_read (c := C13) (d := B13) (by kernel_rfl) (by kernel_rfl) (annot_isOf C13 _ (by kernel_rfl)) h13 (?_ : F13 (ev E0 K m) rounds (.slice r1 0 a.length a.length) (.slice r2 0 b.length b.length) S = _)
 rw [F13_eq]
 exact L13_spec rounds r1 r2 a b S ho ha hb la lb a b 0 rounds rfl rfl (Nat.zero_le _) (Nat.zero_le _) (by unfold rounds; omega)
end Go.Proofs.YtcbaodegkfokjaaDoor.W
namespace Go.Proofs.YtcbaodegkfokjaaDoor.W
open Go.Proofs.YtcbaodegkfokjaaDoor.Ev Go.RowKit
theorem kfSame_run (x y : Nd) (okx : x.ok) (oky : y.ok) (S : St) : kfSame.run [encN x, encN y] S = some (.ret (.bool (sameN x y)), S) :=
 specKF_run (enc := encTwo) (out := outSame) (fun p q h => by obtain ⟨h1, h2⟩ := encTwo_inj h; unfold outSame; rw [h1, h2]) ⟨x, y, okx, oky⟩ S
noncomputable def K6 := knAdd K5 29 kfDeep
theorem ok6 : KnOk Tryd.prog E0 K6 := ok5.add (kn70 ok5)
noncomputable def K7 := knAdd K6 12 (kfNode gDeep)
theorem ok7 : KnOk Tryd.prog E0 K7 := ok6.add (kn58 ok6 rfl)
noncomputable def K8 := knAdd K7 24 (kfNode gTooDeep)
theorem ok8 : KnOk Tryd.prog E0 K8 := ok7.add (kn35 ok7 rfl)
noncomputable def K9 := knAdd K8 27 (kfNode gSize)
theorem ok9 : KnOk Tryd.prog E0 K9 := ok8.add (kn38 ok8 rfl)
noncomputable def K10 := knAdd K9 10 (kfNode gSizeT)
theorem ok10 : KnOk Tryd.prog E0 K10 := ok9.add (kn17 ok9 rfl rfl)
noncomputable def K11 := knAdd K10 36 kfIndexByte
theorem ok11 : KnOk Tryd.prog E0 K11 := ok10.add (kn63 ok10 rfl)
noncomputable def K12 := knAdd K11 60 kfIndexRune
theorem ok12 : KnOk Tryd.prog E0 K12 := ok11.add (kn78 ok11 rfl rfl)
noncomputable def K13 := knAdd K12 49 kfAny
theorem ok13 : KnOk Tryd.prog E0 K13 := ok12.add (kn74 ok12 rfl rfl rfl rfl rfl)
noncomputable def K14 := knAdd K13 39 (kfText gName)
theorem ok14 : KnOk Tryd.prog E0 K14 := ok13.add (kn66 ok13 rfl)
noncomputable def K15 := knAdd K14 25 (kfNode gMay)
theorem ok15 : KnOk Tryd.prog E0 K15 := ok14.add (kn36 ok14 rfl rfl rfl rfl rfl rfl rfl rfl rfl rfl rfl)
noncomputable def K16 := knAdd K15 8 (kfNode gCheck)
theorem ok16 : KnOk Tryd.prog E0 K16 := ok15.add (kn15 ok15 rfl rfl rfl)
noncomputable def K17 := knAdd K16 14 kfSame
theorem ok17 : KnOk Tryd.prog E0 K17 := ok16.add (kn16 ok16 rfl rfl)
noncomputable def K18 := knAdd K17 9 kfEach
theorem ok18 : KnOk Tryd.prog E0 K18 := ok17.add (kn18 ok17 rfl rfl rfl)
section
variable {s : St}
theorem bx_stA (ho : s.on = false) {b : Nat} {l : List V} (h : Bx s b 24 l) (hl : l.length = 5) (x : Nd) : stP 5 (.ptr b 0) (encN x) s = some (.tuple [], s.put b (bxO 24 (cellsN x))) := by
 rw [encN_tree]
 show vu (bif Nat.beq 5 5 && !false then stK s b 0 5 (treeN x) else none) = _
 have hst : stK s b 0 5 (treeN x) = some (s.put b (bxO 24 (cellsN x))) := by
  unfold stK
  rw [h, hl]
  simp only [show Nat.ble (0 + 5) (5 * 1) = true from rfl, blt_true.2 (show 5 * 1 < big by unfold big; decide), Bool.and_self, Bool.not_false, cond_true]
  unfold elemTo
  simp only [show Nat.beq 5 5 = true from rfl, Nat.zero_mod, show Nat.beq 0 0 = true from rfl, Bool.and_self, cond_true, Nat.zero_div, Tr.setC_eq, set_one, oB, note_off ho]
  rfl
 rw [show (Nat.beq 5 5 && !false) = true from rfl, cond_true, hst]; rfl
theorem set5_0 (a b c d e v : V) : (Tr.ofListFrom .nil [a, b, c, d, e] 0).set v 0 = Tr.ofListFrom .nil [v, b, c, d, e] 0 := by kernel_rfl
theorem bx_st5_0 (ho : s.on = false) {b e : Nat} {x0 x1 x2 x3 x4 v : V} (h : Bx s b e [x0, x1, x2, x3, x4]) (h1 : v.size = 1) (h2 : v.cells = one v) (h3 : isTuple v = false) :
 stP 1 (.ptr b 0) v s = some (.tuple [], s.put b (bxO e [v, x1, x2, x3, x4])) := by
 show vu (bif Nat.beq v.size 1 && !isTuple v then stK s b 0 1 v.cells else none) = _
 rw [h1, h2, h3]
 have hst : stK s b 0 1 (one v) = some (s.put b (bxO e [v, x1, x2, x3, x4])) := by
  unfold stK
  rw [h, show ([x0, x1, x2, x3, x4] : List V).length = 5 from rfl]
  simp only [ble_true.2 (show 0 + 1 ≤ 5 * 1 by omega), blt_true.2 (show 5 * 1 < big by unfold big; decide), Bool.and_self, Bool.not_false, cond_true]
  unfold elemTo
  rw [show Nat.beq 1 5 = false from rfl]
  have hv0 : (one v).get 0 = some v := rfl
  simp only [Bool.false_and, cond_false, cellsTo, Tr.setC_eq, hv0, oB, Nat.add_zero, Nat.zero_div, Nat.zero_mod]
  rw [Tr.get_ofList]
  simp only [List.getElem?_cons_zero, oB, set5_0, set_one, note_off ho]
  rfl
 rw [hst]; rfl
theorem stP_lg (ho : s.on = false) {n b off : Nat} {v : V} {t : St} (h : stP n (.ptr b off) v s = some (.tuple [], t)) : ∃ l, stP n (.ptr b off) v (onS s) = some (.tuple [], t.lg l) := by
 have h' : vu (bif Nat.beq v.size n && !isTuple v then stK s b off n v.cells else none) = some (.tuple [], t) := h
 show ∃ l, vu (bif Nat.beq v.size n && !isTuple v then stK (onS s) b off n v.cells else none) = some (.tuple [], t.lg l)
 cases hc : (Nat.beq v.size n && !isTuple v) with
 | false => rw [hc] at h'; cases h'
 | true =>
  rw [hc] at h'
  simp only [cond_true] at h' ⊢
  unfold vu at h' ⊢
  simp only [oI, oS, pM, true_and] at h'
  obtain ⟨u, hu, rfl⟩ := h'
  obtain ⟨_, l, hl⟩ := stK_lg ho hu []
  refine ⟨l, ?_⟩
  rw [show onS s = s.lg [] from rfl, hl]
  rfl
theorem pairs4 {p x : Nat} (h : p ≠ x) (l10 : List LE) :
 pairsOk [[⟨p, 0, 5, false⟩], [], [], [], [], [], [], [], [], [⟨x, 0, big, true⟩], l10, []] [(0, [4, 9]), (4, [9]), (5, [9])] = true := by
 have e1 : Nat.beq p x = false := beq_false.2 h
 simp [pairsOk, clashAny, logOf, clash, clash1, meet, Nat.beq]
 exact e1
end
def bare (x : Nd) : Nd := .mk [] x.kind x.exec x.data x.kids
theorem bare_ok {x : Nd} (h : x.ok) : (bare x).ok := by
 cases x with
 | mk n k e d l =>
  rw [Nd.ok] at h
  unfold bare
  rw [Nd.ok]
  exact ⟨by decide, h.2⟩
theorem bare_cnt (x : Nd) : cntN (bare x) = cntN x := by
 cases x; unfold bare; rw [cntN, cntN]; rfl
theorem L4_spec (x : Nd) (ok : x.ok) (pk : PathsOk x) (same : sameN x x = true) (hlen : (eachN x).length ≤ 3000) (hlong : ∀ q ∈ eachN x, q.length ≤ 10000) (b : Nat) :
 ∀ (r : List (List UInt8)) (i k : Nat) (S : St), (eachN x).drop i = r → r.length < k → NodeAt S b x → b < S.next →
 ∃ S', L4_36 (ev E0 K18 6) rounds (R4_30 (ev E0 K18 6) rounds (finN E0 (ev E0 K18 6) Tryd.f4) noEx) (exB 0 (R4_30 (ev E0 K18 6) rounds (finN E0 (ev E0 K18 6) Tryd.f4) noEx) noEx) k (.ptr b 0) (gEach x) (.int .i64 (i : Int)) S = some (.ret (.bool true), S')
 | r, i, 0, S, _, hk, _, _ => by omega
 | [], i, k + 1, S, hi, hk, hn, lb => by
  refine ⟨S, ?_⟩
  rw [L4_36_eq, gEach, lnS_listV, oB]
  dsimp only
  rw [List.length_map, binV_ii, intsV_lss, dec_ge (drop_end hi), oB, ifK_bool, cond_false, exB_same, R4_30_eq, hn.fA, oB]
  dsimp only
  rw [hn.fA, oB]
  dsimp only
  rw [ev_known (show K18 14 = some kfSame from rfl), kfSame_run x x ok ok, same, callP_ret]
 | q :: r, i, k + 1, S, hi, hk, hn, lb => by
  obtain ⟨hlt, hq, hr, hmem⟩ := drop_at hi
  have ho := hn.on
  have hql := hlong q hmem
  obtain ⟨z, hz1, hz2, hz3⟩ := pk.find q hmem
  have hix : ∀ (j : Nat) (h : j < (eachN x).length), ixP 1 (listV ((eachN x).map sv)) (.int .i64 (j : Int)) = some (.cptr (sv (eachN x)[j])) := fun j h => by
   rw [ixP_listV _ j (by rw [List.length_map]; exact h), List.getElem_map]
  have hfind : outFind x q = .tuple [encN z, .bool true] := by unfold outFind; rw [hz1]; rfl
  have hslen := split_len q
  have hscnt := cnt_le q 47
  obtain ⟨T, t1, t2, t3, t4⟩ := node_new ho (Tr.ofListFrom .nil [(sv []), (.int .i64 0), (.bool false), (sv []), .nilslice] 0) z
  have onT : (nwP 24 5 (Tr.ofListFrom .nil [(sv []), (.int .i64 0), (.bool false), (sv []), .nilslice] 0) S).2.on = false := nw_on ho _
  obtain ⟨l10, t5⟩ := stP_lg onT t1
  have hnw : (nwP 24 5 (Tr.ofListFrom .nil [(sv []), (.int .i64 0), (.bool false), (sv []), .nilslice] 0) (onS S)).2 = (nwP 24 5 (Tr.ofListFrom .nil [(sv []), (.int .i64 0), (.bool false), (sv []), .nilslice] 0) S).2.lg [⟨S.next, 0, big, true⟩] := by
   have : ∀ (o : O), nw (onS S) o = (nw S o).lg [⟨S.next, 0, big, true⟩] := fun o => by
    unfold nw
    rw [note_off ho]
    rfl
   exact this _
  obtain ⟨u1, u2, u3⟩ := relog_lg ho [] ([[⟨b, 0, 5, false⟩], [], [], [], [], [], [], [], [], [⟨S.next, 0, big, true⟩], l10, []]) (s' := T) t2.on
  have hS1 : ∀ U, U = relog S (T.lg []) [[⟨b, 0, 5, false⟩], [], [], [], [], [], [], [], [], [⟨S.next, 0, big, true⟩], l10, []] → NodeAt U S.next z ∧ NodeAt U b x ∧ U.next = S.next + 1 := fun U hU => by
   rw [hU]
   refine ⟨⟨u3, ?_⟩, ⟨u3, ?_⟩, by rw [u2, t4]⟩
   · have := t2.bx
     unfold Bx at this ⊢
     rw [u1]; exact this
   · have := (hn.grew lb (fun h => h) t3).bx
     unfold Bx at this ⊢
     rw [u1]; exact this
  have reg : ∀ {logs : List (List LE)} {k : St → Rs}, logs = [[⟨b, 0, 5, false⟩], [], [], [], [], [], [], [], [], [⟨S.next, 0, big, true⟩], l10, []] → endP [(0, [4, 9]), (4, [9]), (5, [9])] S logs (onS (T.lg l10)) k = k (relog S (T.lg []) [[⟨b, 0, 5, false⟩], [], [], [], [], [], [], [], [], [⟨S.next, 0, big, true⟩], l10, []]) := fun {logs k} hl => by
   rw [hl, endP_of (pairs4 (by omega) l10)]
   rfl
  have reg2 : ∀ k : St → Rs, endP [(0, [4, 9]), (4, [9]), (5, [9])] S [(rd S b 0 5).log, [], [], [], (onS S).log, (onS S).log, [], [], [], ((nwP 24 5 (Tr.ofListFrom .nil [(sv []), (.int .i64 0), (.bool false), (sv []), .nilslice] 0) S).2.lg [⟨S.next, 0, big, true⟩]).log, (T.lg l10).log, []] (onS (T.lg l10)) k = k (relog S (T.lg []) [[⟨b, 0, 5, false⟩], [], [], [], [], [], [], [], [], [⟨S.next, 0, big, true⟩], l10, []]) := fun k => reg rfl
  rw [L4_36_eq, gEach, lnS_listV, oB]
  dsimp only
  rw [List.length_map, binV_ii, intsV_lss, dec_lt hlt, oB, ifK_bool, cond_true, hn.oA, oB]
  dsimp only
  rw [hix i hlt, hq, oB, ld1_csv, oB]
  dsimp only
  rw [onS_rd, onS_onS, ev_known (show K18 7 = some kfFind from rfl), kfFind_run x ok q hql, hfind, callD_ret, extractV_tuple, extractV_tuple, show ([encN z, .bool true] : List V)[0]? = some (encN z) from rfl, show ([encN z, .bool true] : List V)[1]? = some (.bool true) from rfl, oB, oB, onS_onS, oB, hnw, onS_of_lg]
  rw [show (nwP 24 5 (Tr.ofListFrom .nil [(sv []), (.int .i64 0), (.bool false), (sv []), .nilslice] 0) (onS S)).1 = .ptr S.next 0 from rfl, t5, oB]
  dsimp only
  rw [reg2]
  obtain ⟨n1, n2, n3⟩ := hS1 _ rfl
  generalize relog S (T.lg []) [[⟨b, 0, 5, false⟩], [], [], [], [], [], [], [], [], [⟨S.next, 0, big, true⟩], l10, []] = S1 at n1 n2 n3
  have on1 := n1.on
  rw [oB, ld1_csv, oB]
  dsimp only
  obtain ⟨S2, a1, a2, a3, a4⟩ := split11 (K := K18) rfl rfl rfl rfl rfl rfl 1 q hql S1 on1
  have on2 := a3.on.trans on1
  have n1' := n1.grew (by omega) (fun h => h) a3
  have n2' := n2.grew (by omega) (fun h => h) a3
  have hnl : (splitS q).length - 1 < (splitS q).length := by omega
  have hlast : (splitS q)[(splitS q).length - 1]'hnl = z.name := by
   rw [List.getLast?_eq_getElem?, List.getElem?_eq_getElem hnl] at hz2
   exact Option.some.inj hz2
  have hld := rowAt_ldOn a2 hnl
  rw [hlast] at hld
  rw [show ev E0 K18 6 = ev E0 K18 (1 + 5) from rfl, a1, callP_ret, unV_not, oB, Bool.not_true, guardV_f, Bool.not_false, oB, cond_true, faP_ptr, Nat.zero_add, oB, oB, cond_true, n1'.o0, oB, oB, cond_true, oB, oB, cond_true, oB, oB, cond_true]
  dsimp only
  rw [lnS_sl, oB, oB, cond_true]
  dsimp only
  rw [binV_ii, intsV_sub, wrap_i64 (by omega) (by omega), show ((splitS q).length : Int) - 1 = (((splitS q).length - 1 : Nat) : Int) by omega, oB, oB, cond_true, ixP_sl S1.next _ _ hnl, oB, oB, cond_true]
  simp only [onS_rd, onS_onS]
  rw [hld, oB, oB, cond_true]
  dsimp only
  rw [binV_ss, strOp_neq, beq_self_eq_true, Bool.not_true, oB, pickV_bool, cond_false, oB, guardV_f, Bool.not_false, oB, cond_true, oB, oB, cond_true]
  simp only [onS_rd, onS_onS]
  rw [lnS_sl, oB, oB, cond_true]
  simp only [onS_rd, onS_onS]
  rw [n2'.oA, oB, oB, cond_true]
  simp only [onS_rd, onS_onS]
  rw [ev_known (show K18 12 = some (kfNode gDeep) from rfl), kfNode_run _ x ok, callD_ret, gDeep, oB, cond_true]
  have hdl : deepN 14 x ≤ 15 := deepN_le 14 x
  rw [binV_ii, intsV_sub, wrap_i64 (by omega) (by omega), oB, oB, cond_true, binV_ii, intsV_gtr, show decide ((deepN 14 x : Int) - 1 < ((splitS q).length : Int)) = false by rw [decide_eq_false_iff_not]; omega, oB, pickV_bool, cond_false, oB, endP_rd (by rfl), onS_onS, relog_onS on2, ifK_bool, cond_false, binV_ii, intsV_gtr, oB, guardV_t, oB]
  cases i with
  | zero =>
   rw [show decide ((0 : Int) < ((0 : Nat) : Int)) = false from rfl, cond_false, oB, oB, cond_false, oB, oB, cond_false, oB, oB, cond_false, oB, oB, cond_false, oB, oB, cond_false, callP_ret, oB, cond_false, oB, oB, cond_false, callP_ret, oB, cond_false, oB, pickV_bool, cond_false, oB, ifK_bool, cond_false, binV_ii, intsV_add, wrap_succ (by omega), oB]
   exact L4_spec x ok pk same hlen hlong b r 1 k S2 hr (by simp at hk; omega) n2' (by omega)
  | succ j =>
   have hj : j < (eachN x).length := by omega
   have hpl := hlong (eachN x)[j] (List.getElem_mem hj)
   have hrise := pk.rise j _ _ (List.getElem?_eq_getElem hj) (List.getElem?_eq_getElem hlt)
   rw [hq] at hrise
   have hslen2 := split_len (eachN x)[j]
   have hscnt2 := cnt_le (eachN x)[j] 47
   obtain ⟨S3, b1, b2, b3, b4⟩ := split11 (K := K18) rfl rfl rfl rfl rfl rfl 1 (eachN x)[j] hpl S2 on2
   have on3 := b3.on.trans on2
   have a2' := a2.grew a4 (fun h => h) b3
   rw [show decide ((0 : Int) < ((j + 1 : Nat) : Int)) = true by simp, cond_true, oB, oB, cond_true, oB, oB, cond_true, binV_ii, intsV_sub, wrap_i64 (by omega) (by omega), show ((j + 1 : Nat) : Int) - 1 = (j : Int) by omega, oB, oB, cond_true, hix j hj, oB, oB, cond_true, ld1_csv, oB, oB, cond_true]
   dsimp only
   rw [b1, callP_ret, oB, cond_true, oB, oB, cond_true, show ev E0 K18 (1 + 5) = ev E0 K18 (5 + 1) from rfl, f13_run (K := K18) rfl 5 S2.next S1.next (splitS (eachN x)[j]) (splitS q) S3 on3 b2 a2' (by omega) (by omega), hrise, callP_ret, oB, cond_true, unV_not, oB, pickV_bool, cond_true, oB, Bool.not_true, ifK_bool, cond_false, binV_ii, intsV_add, wrap_succ (by omega), oB]
   exact L4_spec x ok pk same hlen hlong b r (j + 2) k S3 hr (by simp at hk; omega) (n2'.grew (by omega) (fun h => h) b3) (by have := b3.next; omega)
end Go.Proofs.YtcbaodegkfokjaaDoor.W
namespace Go.Proofs.YtcbaodegkfokjaaDoor.W
open Go.Proofs.YtcbaodegkfokjaaDoor.Ev Go.RowKit
theorem F4_spec (r : Rw) (hr : AllOk r) (S : St) (ho : S.on = false) : ∃ S', F4 (ev E0 K18 6) rounds (rwV r) S = some (.ret (.bool true), S') := by
 have okr := allOk_deep 16 r hr
 have ok0 := small_ok r okr
 have cnt0 := small_cnt r
 have hF := F4_eq (ev E0 K18 6) rounds (rwV r) S
 obtain ⟨S1, k1, k2, k3, k4⟩ := box_new ho 24 (cellsR r)
 have on1 := k3.on.trans ho
 have q1 : ldA 5 (.ptr S.next 0) S1 = some (vAgg (cellsR r), S1) := Bx.ldA on1 k2 rfl big5
 have st1 := bx_stA on1 k2 rfl (smallN r)
 have h2 := bx_put (s := S1) S.next 24 (cellsN (smallN r))
 have n2 : (S1.put S.next (bxO 24 (cellsN (smallN r)))).next = S1.next := rfl
 have on2 : (S1.put S.next (bxO 24 (cellsN (smallN r)))).on = false := on1
 generalize S1.put S.next (bxO 24 (cellsN (smallN r))) = S2 at st1 h2 n2 on2
 have st2 := bx_st5_0 on2 h2 (v := sv []) rfl rfl rfl
 have h3 : NodeAt (S2.put S.next (bxO 24 (cellsN (bare (smallN r))))) S.next (bare (smallN r)) := ⟨on2, bx_put S.next 24 _⟩
 have n3 : (S2.put S.next (bxO 24 (cellsN (bare (smallN r))))).next = S2.next := rfl
 have st3 : stP 1 (.ptr S.next 0) (sv []) S2 = some (.tuple [], S2.put S.next (bxO 24 (cellsN (bare (smallN r))))) := st2
 generalize S2.put S.next (bxO 24 (cellsN (bare (smallN r)))) = S3 at st3 h3 n3
 rw [rwV_cells, k1, oB] at hF
 dsimp only at hF
 rw [ev_known (show K18 5 = some kfTrue from rfl), kfTrue_run, callP_ret, unV_not, oB, Bool.not_true, ifK_bool, cond_false, q1, oB] at hF
 dsimp only at hF
 rw [← rwV_cells, ev_known (show K18 6 = some kfSmall from rfl), kfSmall_run r okr, callP_ret, st1, oB] at hF
 dsimp only at hF
 rw [faP_ptr, oB, Nat.zero_add, show (sv []) = sv ([] : List UInt8) from rfl, st3, oB] at hF
 dsimp only at hF
 have ok := bare_ok ok0
 have cnt : cntN (bare (smallN r)) ≤ 301 := by rw [bare_cnt]; exact cnt0
 generalize bare (smallN r) = x at h3 ok cnt hF
 rw [h3.fA, oB] at hF
 dsimp only at hF
 rw [ev_known (show K18 8 = some (kfNode gCheck) from rfl), kfNode_run _ x ok, callP_ret, gCheck, binV_ii, intsV_neq, oB, ifK_bool] at hF
 by_cases hc : checkN x = 0
 · obtain ⟨may, _⟩ := check_ok ok hc
   obtain ⟨_, deep⟩ := check_parts hc
   have pk := paths_ok may deep
   have hsame := same_refl 14 x (by omega) may (by omega) deep
   have htd : tooDeepN x = false := by unfold tooDeepN; simpa using deep
   have hlen := each_len (x := x)
   have hlong := each_long htd may
   have hsz : (sizeT x).1 = (cntN x : Int) := by
    unfold sizeT
    rw [htd, if_neg (by simp)]
    exact size_cnt 14 x (by omega) ok may (by omega) deep
   have hpl := pk.len
   rw [decide_eq_true hc, Bool.not_true, cond_false, h3.fA, oB] at hF
   dsimp only at hF
   rw [ev_known (show K18 9 = some kfEach from rfl), kfEach_run x ok may (by omega), callP_ret, h3.fA, oB] at hF
   dsimp only at hF
   rw [ev_known (show K18 10 = some (kfNode gSizeT) from rfl), kfNode_run _ x ok, callP_ret, gSizeT, extractV_tuple, extractV_tuple, show ([.int .i64 (sizeT x).1, .int .i64 (sizeT x).2] : List V)[0]? = some (.int .i64 (sizeT x).1) from rfl, show ([.int .i64 (sizeT x).1, .int .i64 (sizeT x).2] : List V)[1]? = some (.int .i64 (sizeT x).2) from rfl, oB, oB, show lnS (gEach x) S3 = some (.int .i64 (((eachN x).map sv).length : Int), S3) from lnS_listV _, oB] at hF
   dsimp only at hF
   rw [List.length_map, hsz, binV_ii, intsV_sub, wrap_i64 (by omega) (by omega), oB, binV_ii, intsV_neq, show decide (((eachN x).length : Int) = (cntN x : Int) - 1) = true by rw [decide_eq_true_iff]; omega, oB, Bool.not_true, ifK_bool, cond_false] at hF
   obtain ⟨S', h⟩ := L4_spec x ok pk hsame (by omega) hlong S.next (eachN x) 0 rounds S3 rfl (by unfold rounds; omega) h3 (by omega)
   rw [show ((0 : Nat) : Int) = 0 from rfl] at h
   exact ⟨S', hF.trans h⟩
 · rw [decide_eq_false hc, Bool.not_false, cond_true] at hF
   exact ⟨S3, hF⟩
theorem paths_run (r : Rw) (h : AllOk r) (S : St) (ho : S.on = false) : ∃ S', (ev E0 K18 7).f 4 [rwV r] S = some (.ret (.bool true), S') := by
 obtain ⟨S', h⟩ := F4_spec r h S ho
 exact ⟨S', ev_read (c := C4) (d := B4) (by kernel_rfl) (by kernel_rfl) (annot_isOf C4 _ (by kernel_rfl)) (show K18 4 = none from rfl) h⟩
theorem paths_calls (W : World) {v : Value} {r : Rw} (hv : VRel (frz W) (rwV r) v) (hr : AllOk r) : Calls Tryd.prog 4 #[v] W fun e w' => e = .returned (.bool true) ∧ Below W.heap.size W w' := by
 obtain ⟨S', h⟩ := paths_run r hr s0 rfl
 refine ((ev_sim E0_ok ok18 7).call (base0 W) _ s0 W 4 [rwV r] #[v] _ S' (relF W) (.cons hv .nil) h).mono fun ce w' hce => ?_
 obtain ⟨ρ', cv, rfl, _, hv, hR⟩ := hce
 cases hv
 exact ⟨rfl, below_of_rel hR⟩
end Go.Proofs.YtcbaodegkfokjaaDoor.W
