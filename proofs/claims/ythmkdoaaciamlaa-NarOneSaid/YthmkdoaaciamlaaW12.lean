/-
  WHAT THE FUNCTIONS COME TO: each is read by the evaluator, printed, and told as a function of data, part 12 of 13 (no condition).
-/
import Derived.Test.YthmkdoaaciamlaaW11
namespace Go.Proofs.Ythmkdoaaciamlaa.W
open Go.Proofs.Ythmkdoaaciamlaa.Ev
structure Taken (x : Nd) (s : List UInt8) : Prop where
 name : x.name = []
 may : mayN x = true
 deep : deepN 14 x ≤ 12
 cnt : cntN x ≤ 2000
 bytes : s = putText [] magicN ++ layN [] x
 fit : s.length ≤ 60000
theorem check_parts {x : Nd} (h : checkN x = 0) : x.name = [] ∧ deepN 14 x ≤ 12 := by
 unfold checkN at h
 cases ht : tooDeepN x with
 | true => rw [ht, if_pos rfl] at h; omega
 | false =>
  rw [ht, if_neg (by simp)] at h
  cases hn : (x.name == [] && mayN x) with
  | false => rw [hn, if_neg (by simp)] at h; omega
  | true =>
   rw [Bool.and_eq_true, beq_iff_eq] at hn
   unfold tooDeepN at ht
   exact ⟨hn.1, by simpa using ht⟩
theorem taken {x : Nd} {s : List UInt8} (ok : x.ok) (h0 : (encodeN x).2 = 0) (hs : (encodeN x).1 = s) : Taken x s := by
 unfold encodeN at h0 hs
 by_cases hc : checkN x = 0
 · rw [if_pos hc] at h0 hs
   obtain ⟨may, cnt⟩ := check_ok ok hc
   obtain ⟨nm, dp⟩ := check_parts hc
   by_cases hf : (layN (putText [] magicN) x).length ≤ 60000
   · rw [if_pos hf] at hs
     simp only at hs
     exact ⟨nm, may, dp, cnt, by rw [← hs, layN_acc], by rw [← hs]; exact hf⟩
   · rw [if_neg hf] at h0
     simp at h0
 · rw [if_neg hc] at h0
   exact absurd h0 hc
theorem nameIt_nil {x : Nd} (h : x.name = []) : nameIt x [] = x := by cases x; simp only [Nd.name] at h; subst h; rfl
end Go.Proofs.Ythmkdoaaciamlaa.W
namespace Go.Proofs.Ythmkdoaaciamlaa.W
open Go.Proofs.Ythmkdoaaciamlaa.Ev
def decW (s : List UInt8) : Nd × Int :=
 if (wText s ⟨.pos 0, false⟩).1 = magicN then match readW s 13 (wText s ⟨.pos 0, false⟩).2 with
 | (some n, _, w) => if w.lost = false ∧ (w.left s).length = 0 ∧ (encodeN n).2 = 0 ∧ (encodeN n).1 = s then (n, 0) else (noN, 4)
 | _ => (noN, 4)
 else (noN, 4)
end Go.Proofs.Ythmkdoaaciamlaa.W
namespace Go.Proofs.Ythmkdoaaciamlaa.W
open Go.Proofs.Ythmkdoaaciamlaa.Ev
theorem wTake_eats {full : List UInt8} {w : WSt} {n : Nat} (h : (wTake full w n).lost = false) : n ≠ 0 ∧ n ≤ (w.left full).length ∧ w.lost = false ∧ (wTake full w n).left full = (w.left full).drop n := by
 by_cases hc : n = 0 ∨ (w.left full).length < n
 · unfold wTake at h
   rw [if_pos hc] at h
   cases h
 · obtain ⟨t1, t2⟩ := wTake_left (full := full) (w := w) (n := n) (by omega) (by omega)
   exact ⟨by omega, by omega, by rw [← t2]; exact h, t1⟩
theorem wNum_eats {full : List UInt8} {w : WSt} (h : (wNum full w).2.lost = false) : w.lost = false ∧ ((wNum full w).2.left full).length + 1 ≤ (w.left full).length := by
 obtain ⟨h1, h2, h3, h4⟩ := wTake_eats (n := rowK (w.left full)) h
 have e : (wNum full w).2.left full = (w.left full).drop (rowK (w.left full)) := h4
 exact ⟨h3, by rw [e, List.length_drop]; omega⟩
theorem wText_eats {full : List UInt8} {w : WSt} (h : (wText full w).2.lost = false) : (wNum full w).2.lost = false ∧ ((wText full w).2.left full).length + (wText full w).1.length + 1 ≤ (w.left full).length := by
 unfold wText at h ⊢
 by_cases h0 : (wNum full w).1 = 0
 · rw [if_pos h0] at h ⊢
   have := wNum_eats h
   exact ⟨h, by simp only [List.length_nil]; omega⟩
 · rw [if_neg h0] at h ⊢
   by_cases h1 : ((wNum full w).2.left full).length < (wNum full w).1
   · rw [if_pos h1] at h; cases h
   · rw [if_neg h1] at h ⊢
     obtain ⟨k1, k2, k3, k4⟩ := wTake_eats h
     have := wNum_eats k3
     refine ⟨k3, ?_⟩
     show ((wTake full (wNum full w).2 (wNum full w).1).left full).length + _ + 1 ≤ _
     rw [k4, List.length_drop, List.length_take]
     omega
end Go.Proofs.Ythmkdoaaciamlaa.W
namespace Go.Proofs.Ythmkdoaaciamlaa.W
open Go.Proofs.Ythmkdoaaciamlaa.Ev
def EatsW (full : List UInt8) (f : WSt → Wn) : Prop := ∀ w y e w', f w = (some y, e, w') → w'.lost = false → (w.left full).length ≤ 3000 → w.lost = false ∧ cntN y + (w'.left full).length ≤ (w.left full).length ∧ y.ok
theorem kidsW_eats {full : List UInt8} {f : WSt → Wn} (hf : EatsW full f) (hlo : ∀ w y e w', f w = (some y, e, w') → w'.lost = false) (dp : Nat) : ∀ (n : Nat) (w : WSt) (acc l : List Nd) (e : Nat) (w' : WSt), kidsW f full dp n w acc = (some l, e, w') → w'.lost = false → (w.left full).length ≤ 3000 → okL acc → w.lost = false ∧ cntL l + (w'.left full).length ≤ cntL acc + (w.left full).length ∧ okL l ∧ l.length = acc.length + n
 | 0, w, acc, l, e, w', h, hl, h3, hok => by
  rw [kidsW] at h
  simp only [pM, oS] at h
  obtain ⟨rfl, _, rfl⟩ := h
  exact ⟨hl, Nat.le_refl _, hok, rfl⟩
 | n + 1, w, acc, l, e, w', h, hl, h3, hok => by
  rw [kidsW] at h
  split at h
  · simp at h
  · rename_i y e2 w2 hy
    have hl2 := hlo _ y e2 w2 hy
    by_cases hlt : (wText full w).2.lost = false
    · obtain ⟨h6, h7⟩ := wText_eats hlt
      obtain ⟨h1, h2, h5⟩ := hf _ y e2 w2 hy hl2 (by omega)
      obtain ⟨i1, i2, i3, i4⟩ := kidsW_eats hf hlo dp n w2 _ l e w' h hl (by omega) (okL_add hok (nameIt_ok h5 (by omega)))
      rw [cntL_add, nameIt_cnt] at i2
      exact ⟨(wNum_eats h6).1, by omega, i3, by rw [i4, List.length_append]; simp; omega⟩
    · exfalso
      have hlost : (wText full w).2 = ⟨.nil, true⟩ ∨ True := .inr trivial
      have h0 : ((wText full w).2.left full).length ≤ 3000 ∨ 3000 < ((wText full w).2.left full).length := by omega
      rcases h0 with h0 | h0
      · exact hlt (hf _ y e2 w2 hy hl2 h0).1
      · have : ((wText full w).2.left full).length ≤ (w.left full).length := by
         unfold wText
         split
         · unfold wNum
           by_cases hc : rowK (w.left full) = 0
           · unfold wTake WSt.left; rw [if_pos (.inl hc)]; exact Nat.zero_le _
           · rw [(wTake_left hc (rowK_le _)).1, List.length_drop]; omega
         · split
           · exact Nat.zero_le _
           · rename_i hz hn
             have h1 := (wTake_left (full := full) (w := (wNum full w).2) hz (by omega)).1
             show ((wTake full (wNum full w).2 (wNum full w).1).left full).length ≤ _
             rw [h1, List.length_drop]
             have : ((wNum full w).2.left full).length ≤ (w.left full).length := by
              unfold wNum
              by_cases hc : rowK (w.left full) = 0
              · unfold wTake WSt.left; rw [if_pos (.inl hc)]; exact Nat.zero_le _
              · rw [(wTake_left hc (rowK_le _)).1, List.length_drop]; omega
             omega
        omega
end Go.Proofs.Ythmkdoaaciamlaa.W
namespace Go.Proofs.Ythmkdoaaciamlaa.W
open Go.Proofs.Ythmkdoaaciamlaa.Ev
theorem notLost_some {p : Wn} {y : Nd} {e : Nat} {w : WSt} (h : notLost p = (some y, e, w)) : p = (some y, e, w) ∧ w.lost = false := by
 obtain ⟨o, e', w'⟩ := p
 cases o with
 | none => exact absurd (congrArg Prod.fst (show ((none, e', w') : Wn) = (some y, e, w) from h)) (by simp)
 | some z =>
  rw [notLost] at h
  by_cases hl : w'.lost = true
  · rw [if_pos hl] at h; simp at h
  · rw [if_neg hl] at h
    refine ⟨h, ?_⟩
    simp only [pM] at h
    rw [← h.2.2]
    simpa using hl
theorem oneW_lost {f : Option (WSt → Wn)} {full : List UInt8} {dp : Nat} {w : WSt} {y : Nd} {e : Nat} {w' : WSt} (h : oneW f full dp w = (some y, e, w')) : w'.lost = false := (notLost_some h).2
theorem readW_lost (full : List UInt8) (d : Nat) : ∀ w y e w', readW full d w = (some y, e, w') → w'.lost = false := fun w y e w' h => by
 cases d with
 | zero => exact oneW_lost h
 | succ d => exact oneW_lost h
theorem oneW_eats {f : Option (WSt → Wn)} {full : List UInt8} (hf : ∀ g, f = some g → EatsW full g ∧ ∀ w y e w', g w = (some y, e, w') → w'.lost = false) (dp : Nat) : EatsW full (oneW f full dp) := fun w y e w' h hl h3 => by
 replace h := (notLost_some h).1
 split at h
 · unfold fileW at h
   split at h
   · simp only [pM, oS] at h
     obtain ⟨rfl, _, rfl⟩ := h
     obtain ⟨h1, h2⟩ := wText_eats hl
     obtain ⟨h5, h6⟩ := wNum_eats h1
     obtain ⟨h7, h8⟩ := wNum_eats h5
     obtain ⟨h9, h10⟩ := wNum_eats h7
     refine ⟨h9, by rw [cntN, cntL]; omega, ?_⟩
     rw [Nd.ok]
     exact ⟨by simp, by omega, by omega, by simp, by rw [cntL]; omega, by rw [okL]; trivial⟩
   · simp at h
 · split at h
   · unfold linkW at h
     simp only [pM, oS] at h
     obtain ⟨rfl, _, rfl⟩ := h
     obtain ⟨h1, h2⟩ := wText_eats hl
     obtain ⟨h5, h6⟩ := wNum_eats h1
     obtain ⟨h7, h8⟩ := wNum_eats h5
     refine ⟨h7, by rw [cntN, cntL]; omega, ?_⟩
     rw [Nd.ok]
     exact ⟨by simp, by omega, by omega, by simp, by rw [cntL]; omega, by rw [okL]; trivial⟩
   · split at h
     · unfold dirW at h
       split at h
       · simp at h
       · rename_i g
         split at h
         · simp at h
         · rename_i hk
           split at h
           · simp at h
           · rename_i l e2 w2 hkid
             simp only [pM, oS] at h
             obtain ⟨rfl, _, rfl⟩ := h
             obtain ⟨hg1, hg2⟩ := hf g rfl
             by_cases hb : ((wNum full (wNum full w).2).2.left full).length ≤ 3000
             · obtain ⟨i1, i2, i3, i4⟩ := kidsW_eats hg1 hg2 _ _ _ _ l e2 w2 hkid hl hb (by rw [okL]; trivial)
               obtain ⟨h5, h6⟩ := wNum_eats i1
               obtain ⟨h7, h8⟩ := wNum_eats h5
               rw [cntL] at i2
               simp only [List.length_nil, Nat.zero_add] at i4
               refine ⟨h7, by rw [cntN]; omega, ?_⟩
               rw [Nd.ok]
               exact ⟨by simp, by omega, by simp, by omega, by omega, i3⟩
             · exfalso
               have key : ∀ v : WSt, ((wNum full v).2.left full).length ≤ (v.left full).length := fun v => by
                unfold wNum
                by_cases hc : rowK (v.left full) = 0
                · unfold wTake WSt.left; rw [if_pos (.inl hc)]; exact Nat.zero_le _
                · rw [(wTake_left hc (rowK_le _)).1, List.length_drop]; omega
               have k1 := key w
               have k2 := key (wNum full w).2
               omega
     · simp at h
theorem readW_eats (full : List UInt8) : ∀ d, EatsW full (readW full d)
 | 0 => oneW_eats (fun g h => by cases h) 13
 | d + 1 => oneW_eats (fun g h => by cases h; exact ⟨readW_eats full d, readW_lost full d⟩) _
end Go.Proofs.Ythmkdoaaciamlaa.W
namespace Go.Proofs.Ythmkdoaaciamlaa.W
open Go.Proofs.Ythmkdoaaciamlaa.Ev
theorem wText_pred (full : List UInt8) (w : WSt) : ((wText full w).2.left full).length ≤ (w.left full).length - 1 := by
 by_cases h : (wText full w).2.lost = false
 · have := (wText_eats h).2
   omega
 · skip
   by_cases hk : rowK (w.left full) = 0
   · have hn : wNum full w = (0, ⟨.nil, true⟩) := by
      unfold wNum wTake
      rw [if_pos (.inl hk), hk]; rfl
     unfold wText
     rw [hn, if_pos rfl]
     exact Nat.zero_le _
   · have hle := rowK_le (w.left full)
     have h1 : (wNum full w).2.left full = (w.left full).drop (rowK (w.left full)) := (wTake_left hk hle).1
     have h2 : ((wNum full w).2.left full).length ≤ (w.left full).length - 1 := by rw [h1, List.length_drop]; omega
     unfold wText
     split
     · exact h2
     · split
       · exact Nat.zero_le _
       · rename_i hz hn
         show ((wTake full (wNum full w).2 (wNum full w).1).left full).length ≤ _
         rw [(wTake_left hz (by omega)).1, List.length_drop]
         omega
theorem decW_cases (s : List UInt8) (hs : s.length ≤ 3001) : decW s = (noN, 4) ∨ ∃ n, decW s = (n, 0) ∧ n.ok ∧ (encodeN n).2 = 0 ∧ (encodeN n).1 = s := by
 unfold decW
 by_cases hm : (wText s ⟨.pos 0, false⟩).1 = magicN
 · rw [if_pos hm]
   split
   · rename_i n e w hr
     by_cases h : w.lost = false ∧ (w.left s).length = 0 ∧ (encodeN n).2 = 0 ∧ (encodeN n).1 = s
     · rw [if_pos h]
       exact .inr ⟨n, rfl, (readW_eats s 13 _ n e w hr h.1 (by
        have h := wText_pred s ⟨.pos 0, false⟩
        have e0 : (WSt.left s ⟨.pos 0, false⟩).length = s.length := by show (s.drop 0).length = _; rw [List.drop_zero]
        omega)).2.2, h.2.2⟩
     · rw [if_neg h]; exact .inl rfl
   · exact .inl rfl
 · rw [if_neg hm]; exact .inl rfl
end Go.Proofs.Ythmkdoaaciamlaa.W
namespace Go.Proofs.Ythmkdoaaciamlaa.W
open Go.Proofs.Ythmkdoaaciamlaa.Ev
section
variable {s : St}
theorem AgAt.st_one (ho : s.on = false) {b e : Nat} {t : Tr V} (h : AgAt s b e 1 t) (v : V) (hs : v.size = 1) (hc : v.cells = one v) (hv : isTuple v = false) : ∃ w, stP 1 (.ptr b 0) v s = some (.tuple [], w) ∧ AgAt w b e 1 (one v) ∧ Grew (fun x => x = b) s w ∧ w.next = s.next := by
 obtain ⟨w, h1, h2, h3, h4⟩ := h.stA ho big1 (one v)
 refine ⟨w, ?_, h2, h3, h4⟩
 have e1 : stP 1 (.ptr b 0) (.agg 1 (one v)) s = vu (stK s b 0 1 (one v)) := rfl
 have e2 : stP 1 (.ptr b 0) v s = vu (bif Nat.beq v.size 1 && !isTuple v then stK s b 0 1 v.cells else none) := rfl
 rw [e2, hs, hc, hv, ← h1, e1]
 rfl
theorem AgAt.ldr_one (ho : s.on = false) {b e : Nat} {v : V} (h : AgAt s b e 1 (one v)) : ldr1 (.ptr b 0) s = some (v, s) := AgAt.ld1 ho h big1 (by decide) rfl
theorem st_zero (ho : s.on = false) : ∃ w, stP 0 (.ptr s.next 0) (vAgg []) (nwP 51 0 (Tr.ofListFrom .nil [] 0) s).2 = some (.tuple [], w) ∧ Grew (fun _ => False) s w ∧ w.next = s.next + 1 := by
 obtain ⟨a1, a2, a3⟩ := ag_new ho 51 0 (Tr.ofListFrom .nil [] 0)
 obtain ⟨w, h1, _, h3, h4⟩ := a1.stA (a2.on.trans ho) (by unfold big; decide) (Tr.ofListFrom .nil [] 0)
 exact ⟨w, h1, a2.own (Nat.le_refl _) h3, h4.trans a3⟩
end
section
variable {self : EV} {a : Ac} {p0 p1 : Nat} {S : St}
theorem lv12 (k : St → Rs) (h2 : evO E0 a (.tmp 2) = some (.ptr p0 0)) (h3 : evO E0 a (.tmp 3) = some (.ptr p1 0)) (ho : S.on = false) {t : Tr V} {v : V} (hp0 : AgAt S p0 24 5 t) (hp1 : AgAt S p1 26 1 (one v)) :
 lvK E0 self Try.f12 a [] .ret S = some (.ret (.tuple [.agg 5 t, v]), S) := by
 have h : lvK E0 self Try.f12 a [] .ret S = (evO E0 a (.tmp 2)).bind fun v => (ldRes E0 24 v S).bind fun p => (evO E0 a (.tmp 3)).bind fun w => (ldRes E0 26 w p.2).bind fun q => some (.ret (.tuple [p.1, q.1]), q.2) := by kernel_rfl
 rw [h, h2, oB, show ldRes E0 24 (.ptr p0 0) S = ldrA 5 (.ptr p0 0) S by kernel_rfl, hp0.ldrA ho big5, oB, h3, oB]
 dsimp only
 rw [show ldRes E0 26 (.ptr p1 0) S = ldr1 (.ptr p1 0) S by kernel_rfl, hp1.ldr_one ho, oB]
theorem leave_ok (h2 : evO E0 a (.tmp 2) = some (.ptr p0 0)) (h3 : evO E0 a (.tmp 3) = some (.ptr p1 0)) (ho : S.on = false) {t : Tr V} {v : V} (hp0 : AgAt S p0 24 5 t) (hp1 : AgAt S p1 26 1 (one v)) :
 leaves E0 self Try.f12 a [ad 25 [] [.ptr p0 0, .ptr p1 0]] .ret S = some (.ret (.tuple [.agg 5 t, v]), S) := by
 refine lvK_sound (ALe.refl a) ?_
 rw [E25r, show binV E0 .neq 20 false true .niliface .niliface = some (.bool false) by kernel_rfl, oB, ifK_bool, cond_false]
 exact lv12 (fun _ => none) h2 h3 ho hp0 hp1
theorem leave_wrong (h2 : evO E0 a (.tmp 2) = some (.ptr p0 0)) (h3 : evO E0 a (.tmp 3) = some (.ptr p1 0)) (ho : S.on = false) {t t1 : Tr V} (hp0 : AgAt S p0 24 5 t) (hp1 : AgAt S p1 26 1 t1) (h01 : p0 ≠ p1) (l0 : p0 < S.next) (l1 : p1 < S.next) :
 ∃ S', leaves E0 self Try.f12 a [ad 25 [] [.ptr p0 0, .ptr p1 0]] (.pan wrongV) S = some (.ret (.tuple [encN noN, .int .i64 4]), S') ∧ Grew (fun x => x = p0 ∨ x = p1) S S' := by
 obtain ⟨S1, a1, a2, a3⟩ := st_zero ho
 have on1 := a2.on.trans ho
 obtain ⟨S2, b1, b2, b3, b4⟩ := (hp0.grew l0 (fun h => h) a2).stA on1 big5 (Tr.ofListFrom .nil (c5 [] 0 false [] .nilslice) 0)
 have on2 := b3.on.trans on1
 have g2 := a2.next
 obtain ⟨S3, c1, c2, c3, c4⟩ := ((hp1.grew l1 (fun h => h) a2).grew (by omega) (fun h => h01 h.symm) b3).st_one on2 (.int .i64 4) rfl rfl rfl
 have on3 := c3.on.trans on2
 refine ⟨S3, lvK_sound (ALe.refl a) ?_, ((a2.mono fun _ _ h => h.elim).trans (b3.mono fun _ _ h => .inl h)).trans (c3.mono fun _ _ h => .inr h)⟩
 rw [E25p, show binV E0 .neq 20 false true wrongV .niliface = some (.bool true) by kernel_rfl, oB, ifK_bool, cond_true, show assertK E0 51 true wrongV = some (.tuple [vAgg [], .bool true]) by kernel_rfl, oB, extractV_tuple, extractV_tuple, show ([vAgg [], .bool true] : List V)[0]? = some (vAgg []) from rfl, show ([vAgg [], .bool true] : List V)[1]? = some (.bool true) from rfl, oB, oB, oB, nwP_fst, a1, oB, unV_not, oB, ifK_bool, Bool.not_true, cond_false, build24_nil, oB]
 dsimp only
 rw [vAgg5 _ rfl, b1, oB]
 dsimp only
 rw [c1, oB]
 dsimp only
 rw [lv12 (fun _ => none) h2 h3 on3 (b2.grew (by omega) (fun h => h01 h) c3) c2, ← vAgg5 _ rfl, ← encN_c5]
 rfl
end
end Go.Proofs.Ythmkdoaaciamlaa.W
namespace Go.Proofs.Ythmkdoaaciamlaa.W
open Go.Proofs.Ythmkdoaaciamlaa.Ev
theorem callPF_wrong {self : EV} {a : Ac} {p0 p1 : Nat} {S : St} {k : V → St → Rs} (hd : a.defers = [ad 25 [] [.ptr p0 0, .ptr p1 0]]) (h2 : evO E0 a (.tmp 2) = some (.ptr p0 0)) (h3 : evO E0 a (.tmp 3) = some (.ptr p1 0)) (ho : S.on = false) {t t1 : Tr V} (hp0 : AgAt S p0 24 5 t) (hp1 : AgAt S p1 26 1 t1) (h01 : p0 ≠ p1) (l0 : p0 < S.next) (l1 : p1 < S.next) :
 ∃ S', callPF E0 self Try.f12 a (some (.pan wrongV, S)) k = some (.ret (.tuple [encN noN, .int .i64 4]), S') ∧ Grew (fun x => x = p0 ∨ x = p1) S S' := by
 obtain ⟨S', h1, h4⟩ := leave_wrong (self := self) h2 h3 ho hp0 hp1 h01 l0 l1
 exact ⟨S', by rw [callPF_pan, hd]; exact h1, h4⟩
theorem finR_ok {self : EV} {a : Ac} {p0 p1 : Nat} {S : St} (hd : a.defers = [ad 25 [] [.ptr p0 0, .ptr p1 0]]) (h2 : evO E0 a (.tmp 2) = some (.ptr p0 0)) (h3 : evO E0 a (.tmp 3) = some (.ptr p1 0)) (ho : S.on = false) {t : Tr V} {v : V} (hp0 : AgAt S p0 24 5 t) (hp1 : AgAt S p1 26 1 (one v)) :
 finR E0 self Try.f12 a S = some (.ret (.tuple [.agg 5 t, v]), S) := by
 rw [finR_defer hd]
 exact leave_ok h2 h3 ho hp0 hp1
theorem build57 (b : Nat) : buildV E0 57 [(0, .ptr b 0)] = some (vAgg [.ptr b 0, .int .i64 0]) := by kernel_rfl
def DecFit (s : List UInt8) : Prop := s.length ≤ 3001 ∨ ∃ x : Nd, x.ok ∧ (encodeN x).2 = 0 ∧ (encodeN x).1 = s
structure DecInW where
 s : List UInt8
 fit : DecFit s
noncomputable def encDecW (x : DecInW) : List V := [sv x.s]
noncomputable def outDecW (x : DecInW) : En := .ret (.tuple [encN (decW x.s).1, .int .i64 (decW x.s).2])
noncomputable def kfDecW : KF := specKF encDecW outDecW
theorem kfDecW_run (s : List UInt8) (fit : DecFit s) (S : St) : kfDecW.run [sv s] S = some (.ret (.tuple [encN (decW s).1, .int .i64 (decW s).2]), S) :=
 specKF_run (enc := encDecW) (out := outDecW) (fun x y h => by
  simp only [encDecW, List.cons.injEq, and_true] at h
  unfold outDecW
  rw [sv_inj h]) ⟨s, fit⟩ S
theorem DecFit.long {s : List UInt8} (h : DecFit s) : s.length ≤ 100000 := by
 rcases h with h | ⟨x, ok, h0, h1⟩
 · omega
 · have := (taken ok h0 h1).fit
   omega
theorem readW_fit {s : List UInt8} (h : DecFit s) {n : Nd} {dp : Nat} {w : WSt} (hr : readW s 13 (wText s ⟨.pos 0, false⟩).2 = (some n, dp, w)) : n.ok := by
 rcases h with h | ⟨x, ok, h0, hs⟩
 · exact (readW_eats s 13 _ n dp w hr (readW_lost s 13 _ n dp w hr) (by
    have h := wText_pred s ⟨.pos 0, false⟩
    have e0 : (WSt.left s ⟨.pos 0, false⟩).length = s.length := by show (s.drop 0).length = _; rw [List.drop_zero]
    omega)).2.2
 · have t := taken ok h0 hs
   obtain ⟨h1, h2, h3⟩ := wText_put (full := s) (w := ⟨.pos 0, false⟩) (t := magicN) (rest := layN [] x) (by decide) (by show s.drop 0 = _; rw [List.drop_zero]; exact t.bytes)
   obtain ⟨b1, b2, b3⟩ := readW_lay s 14 13 x [] (wText s ⟨.pos 0, false⟩).2 (by omega) (by omega) ok t.may (by have := t.cnt; omega) (by have := t.deep; omega) (by have := t.deep; omega) (by rw [h2, List.append_nil]) h3
   rw [hr, nameIt_nil t.name] at b1
   simp only [oS] at b1
   rw [b1]
   exact ok
theorem kn12 {K : FuncId → Option KF} (hK : KnOk Try.prog E0 K) (hW : WK K) (h26 : K 26 = none) (h29 : K 29 = some kfNd) (h9 : K 9 = some (kfNode gEncode)) : KnWell Try.prog E0 12 kfDecW :=
 specKF_text (fn := Try.f12) (c := C12) (d := B12) E0_ok hK (by kernel_rfl) (by kernel_rfl) (annot_isOf C12 _ (by kernel_rfl)) fun x S ho => by
  obtain ⟨s, fit⟩ := x
  suffices h : ∃ S', F12 (ev E0 K 6) rounds (sv s) S = some (.ret (.tuple [encN (decW s).1, .int .i64 (decW s).2]), S') ∧ Grew (fun x => S.next ≤ x) S S' by
   obtain ⟨S', h1, h2⟩ := h
   exact ⟨6, _, S', h1, h2.mono fun x hx h => by omega, .tuple (.cons (.same (under_encN _ _)) (.cons (.same (.int _ _)) .nil))⟩
  have hF := F12_eq (ev E0 K 6) rounds (sv s) S
  obtain ⟨a1, a2, a3⟩ := ag_new ho 24 5 (Tr.ofListFrom .nil [(sv []), (.int .i64 0), (.bool false), (sv []), .nilslice] 0)
  rw [oB, nwP_fst] at hF
  generalize hS1 : (nwP 24 5 (Tr.ofListFrom .nil [(sv []), (.int .i64 0), (.bool false), (sv []), .nilslice] 0) S).2 = S1 at a1 a2 a3 hF
  have on1 := a2.on.trans ho
  obtain ⟨b1, b2, b3⟩ := ag_new on1 26 1 (one (.int .i64 0))
  rw [oB, nwP_fst] at hF
  generalize hS2 : (nwP 26 1 (one (.int .i64 0)) S1).2 = S2 at b1 b2 b3 hF
  have on2 := b2.on.trans on1
  have hp0 := a1.grew (by omega) (fun h => h) b2
  obtain ⟨S3, c1, c2, c3, c4⟩ := new_run h26 5 s fit.long S2 on2
  rw [c1, callPF_ret, build57, oB] at hF
  have hp0 := hp0.grew (by omega) (fun h => h) c3
  have hp1 := b1.grew (by omega) (fun h => h) c3
  obtain ⟨S4, d1, d2, d3, d4⟩ := box_new c2.on 57 [.ptr (S2.next + 1) 0, .int .i64 0]
  have hp0 := hp0.grew (by omega) (fun h => h) d3
  have hp1 := hp1.grew (by omega) (fun h => h) d3
  have hW4 := c2.grew (by omega) (fun h => h) (fun _ _ _ h => h) d3
  have hC4 : CAt S4 S3.next (S2.next + 1) (13 - 13) := d2
  rw [d1, oB] at hF
  dsimp only at hF
  rw [show nilCheckV (.ptr S3.next 0) = some (.ptr S3.next 0) from rfl, oB, faP_ptr, oB, Nat.zero_add, hC4.ld0 hW4.on, oB] at hF
  dsimp only at hF
  obtain ⟨S5, e1, e2, e3⟩ := text_run hW 2 (S2.next + 1) S2.next s ⟨.pos 0, false⟩ S4 (by omega) hW4
  have n5 := e3.next
  have hp0 := hp0.grew (by omega) (by omega) e3
  have hp1 := hp1.grew (by omega) (by omega) e3
  have hC5 : CAt S5 S3.next (S2.next + 1) (13 - 13) := hC4.grew (by omega) (by omega) e3
  have g05 : Grew (fun x => S.next ≤ x) S S5 := ((((Grew.of0 a2).trans (Grew.of0 b2)).trans (Grew.of0 c3)).trans (Grew.of0 d3)).trans (e3.mono fun x _ hx => by omega)
  rw [e1, callPF_ret, show (sv [119, 104, 105, 115, 107, 45, 116, 114, 101, 101]) = sv magicN from rfl, binV_ss, strOp_eql, oB, must_run hW 5] at hF
  rw [hF]
  have fin : ∀ {X : Rs} {S5 : St}, Grew (fun x => S.next ≤ x) S S5 → decW s = (noN, 4) → (∃ S', X = some (.ret (.tuple [encN noN, .int .i64 4]), S') ∧ Grew (fun x => x = S.next ∨ x = S1.next) S5 S') → ∃ S', X = some (.ret (.tuple [encN (decW s).1, .int .i64 (decW s).2]), S') ∧ Grew (fun x => S.next ≤ x) S S' := fun g hd ⟨S', h1, h2⟩ => ⟨S', by rw [h1, hd], g.trans (h2.mono fun x _ hx => by omega)⟩
  by_cases hm : (wText s ⟨.pos 0, false⟩).1 = magicN
  · rw [hm, beq_self_eq_true, if_pos rfl, callPF_ret]
    obtain ⟨S6, f1, f2, f3, f4, f5⟩ := kfNd_run (d := 13) (by omega) (by omega) e2 hC5 (by omega) (by omega) (ev E0 K 6) fun y hc hd hh => by
     have := effKF_run (post := postNd) (out := outNd) effU_Nd e2.on y hh
     unfold encNd at this
     rw [hc] at this
     rw [ev_known h29]
     exact this
    have hp0 := hp0.grew (by omega) (by omega) f4
    have hp1 := hp1.grew (by omega) (by omega) f4
    have g06 : Grew (fun x => S.next ≤ x) S S6 := g05.trans (f4.mono fun x _ hx => by omega)
    have hl := readW_lost s 13 (wText s ⟨.pos 0, false⟩).2
    have hdec : decW s = match readW s 13 (wText s ⟨.pos 0, false⟩).2 with
     | (some n, _, w) => if w.lost = false ∧ (w.left s).length = 0 ∧ (encodeN n).2 = 0 ∧ (encodeN n).1 = s then (n, 0) else (noN, 4)
     | _ => (noN, 4) := by unfold decW; rw [if_pos hm]; all_goals rfl
    rw [f1]
    cases hr : readW s 13 (wText s ⟨.pos 0, false⟩).2 with
    | mk o p =>
     obtain ⟨dp, w⟩ := p
     rw [hr] at hdec f2 f3
     simp only at f2 f3 ⊢
     cases o with
     | none => exact fin g06 hdec (callPF_wrong rfl (by kernel_rfl) (by kernel_rfl) f2.on hp0 hp1 (by omega) (by omega) (by omega))
     | some n =>
      have hw := hl n dp w hr
      have nok := readW_fit fit hr
      simp only at hdec
      rw [show outWn (some n) = .ret (encN n) from rfl, callPF_ret, encN_tree]
      obtain ⟨S7, q1, q2, q3, q4⟩ := hp0.stA f2.on big5 (treeN n)
      have on7 := q3.on.trans f2.on
      have hp1 := hp1.grew (by omega) (by omega) q3
      have g07 : Grew (fun x => S.next ≤ x) S S7 := g06.trans (q3.mono fun x _ hx => by omega)
      have hC7 := Bx.grew f3 (by omega) (by omega) q3
      have hW7 := f2.grew (by omega) (by omega) (fun _ _ _ => by omega) q3
      rw [q1, oB]
      dsimp only
      rw [q2.ldA on7 big5, oB, ← encN_tree]
      dsimp only
      rw [ev_known h9, kfNode_run _ n nok, callPF_ret, gEncode, extractV_tuple, extractV_tuple, show ([sv (encodeN n).1, .int .i64 (encodeN n).2] : List V)[0]? = some (sv (encodeN n).1) from rfl, show ([sv (encodeN n).1, .int .i64 (encodeN n).2] : List V)[1]? = some (.int .i64 (encodeN n).2) from rfl, oB, oB, oB, faP_ptr, oB, Nat.zero_add, CAt.ld0 on7 hC7, oB]
      dsimp only
      rw [wend_run hW 4 (S2.next + 1) S2.next s w S7 hW7, callPF_ret, hw, Bool.not_false, Bool.true_and, guardV_t, oB]
      have wrong : ∀ {X : Rs}, ¬ (w.lost = false ∧ (w.left s).length = 0 ∧ (encodeN n).2 = 0 ∧ (encodeN n).1 = s) → (∃ S', X = some (.ret (.tuple [encN noN, .int .i64 4]), S') ∧ Grew (fun x => x = S.next ∨ x = S1.next) S7 S') → ∃ S', X = some (.ret (.tuple [encN (decW s).1, .int .i64 (decW s).2]), S') ∧ Grew (fun x => S.next ≤ x) S S' := fun hn h => fin g07 (by rw [hdec, if_neg hn]) h
      by_cases h1 : (w.left s).length = 0
      · rw [decide_eq_true h1, cond_true, oB, oB, cond_true, binV_ii, intsV_eql, oB, pickV_bool, cond_true, oB, guardV_t, oB]
        by_cases h2 : (encodeN n).2 = 0
        · rw [decide_eq_true h2, cond_true, oB, oB, cond_true, oB, oB, cond_true, binV_ss, strOp_eql, oB, pickV_bool, cond_true, oB, must_run hW 5]
          by_cases h3 : (encodeN n).1 = s
          · rw [h3, beq_self_eq_true, if_pos rfl, callPF_ret, q2.ldA on7 big5, oB]
            dsimp only
            obtain ⟨S8, u1, u2, u3, u4⟩ := q2.stA on7 big5 (treeN n)
            have on8 := u3.on.trans on7
            obtain ⟨S9, v1, v2, v3, v4⟩ := (hp1.grew (by omega) (by omega) u3).st_one on8 (.int .i64 0) rfl rfl rfl
            rw [u1, oB]
            dsimp only
            rw [v1, oB]
            dsimp only
            refine ⟨S9, ?_, (g07.trans (u3.mono fun x _ hx => by omega)).trans (v3.mono fun x _ hx => by omega)⟩
            rw [finR_ok rfl (by kernel_rfl) (by kernel_rfl) (v3.on.trans on8) (u2.grew (by omega) (by omega) v3) v2, hdec, if_pos ⟨hw, h1, h2, h3⟩, encN_tree]
          · rw [beq_false_of_ne h3, if_neg (by decide)]
            exact wrong (fun h => h3 h.2.2.2) (callPF_wrong rfl (by kernel_rfl) (by kernel_rfl) on7 q2 hp1 (by omega) (by omega) (by omega))
        · rw [decide_eq_false h2, cond_false, oB, oB, cond_false, oB, oB, cond_false, oB, pickV_bool, cond_false, oB, must_run hW 5, if_neg (by decide)]
          exact wrong (fun h => h2 h.2.2.1) (callPF_wrong rfl (by kernel_rfl) (by kernel_rfl) on7 q2 hp1 (by omega) (by omega) (by omega))
      · rw [decide_eq_false h1, cond_false, oB, oB, cond_false, oB, pickV_bool, cond_false, oB, guardV_t, oB, cond_false, oB, oB, cond_false, oB, oB, cond_false, oB, pickV_bool, cond_false, oB, must_run hW 5, if_neg (by decide)]
        exact wrong (fun h => h1 h.2.1) (callPF_wrong rfl (by kernel_rfl) (by kernel_rfl) on7 q2 hp1 (by omega) (by omega) (by omega))
  · rw [beq_false_of_ne hm, if_neg (by decide)]
    exact fin g05 (by unfold decW; rw [if_neg hm]) (callPF_wrong rfl (by kernel_rfl) (by kernel_rfl) e2.on hp0 hp1 (by omega) (by omega) (by omega))
end Go.Proofs.Ythmkdoaaciamlaa.W
namespace Go.Proofs.Ythmkdoaaciamlaa.W
open Go.Proofs.Ythmkdoaaciamlaa.Ev
mutual
def sameN : Nd → Nd → Bool
 | .mk n k e d l, y => (!(tooDeepN (.mk n k e d l)) && !(tooDeepN y)) && ((n == y.name) && (decide (k = y.kind) && ((e == y.exec) && ((d == y.data) && sameL l y.kids))))
def sameL : List Nd → List Nd → Bool
 | [], [] => true
 | x :: l, y :: m => sameN x y && sameL l m
 | _, _ => false
end
theorem sameN_eq (x y : Nd) : sameN x y = ((!(tooDeepN x) && !(tooDeepN y)) && ((x.name == y.name) && (decide (x.kind = y.kind) && ((x.exec == y.exec) && ((x.data == y.data) && sameL x.kids y.kids))))) := by
 cases x; rw [sameN]; rfl
theorem sameL_len : ∀ {l m : List Nd}, l.length ≠ m.length → sameL l m = false
 | [], [], h => absurd rfl h
 | [], _ :: _, _ => rfl
 | _ :: _, [], _ => rfl
 | x :: l, y :: m, h => by rw [sameL, sameL_len (l := l) (m := m) (fun e => h (by simp [e]))]; exact Bool.and_false _
structure TwoIn where
 x : Nd
 y : Nd
 okx : x.ok
 oky : y.ok
noncomputable def encTwo (p : TwoIn) : List V := [encN p.x, encN p.y]
theorem encTwo_inj {p q : TwoIn} (h : encTwo p = encTwo q) : p.x = q.x ∧ p.y = q.y := by
 simp only [encTwo, List.cons.injEq, and_true] at h
 exact ⟨encN_inj h.1, encN_inj h.2⟩
noncomputable def outSame (p : TwoIn) : En := .ret (.bool (sameN p.x p.y))
noncomputable def kfSame : KF := specKF encTwo outSame
theorem kfSame_run (x y : Nd) (okx : x.ok) (oky : y.ok) (S : St) : kfSame.run [encN x, encN y] S = some (.ret (.bool (sameN x y)), S) :=
 specKF_run (enc := encTwo) (out := outSame) (fun p q h => by obtain ⟨h1, h2⟩ := encTwo_inj h; unfold outSame; rw [h1, h2]) ⟨x, y, okx, oky⟩ S
theorem kid_size {x y : Nd} (hy : y ∈ x.kids) : SizeOf.sizeOf y < SizeOf.sizeOf x := by
 have := List.sizeOf_lt_of_mem hy
 cases hp : x with
 | mk n k e d l =>
  rw [hp] at this
  simp only [Nd.kids] at this
  simp only [Nd.mk.sizeOf_spec]
  omega
theorem eqv_bool (a b : Bool) : binV E0 .eql 4 false false (.bool a) (.bool b) = some (.bool (a == b)) := by cases a <;> cases b <;> kernel_rfl
theorem nev_bool (a b : Bool) : binV E0 .neq 4 false false (.bool a) (.bool b) = some (.bool (!(a == b))) := by cases a <;> cases b <;> kernel_rfl
theorem L14_spec (self : EV) (N : Nat) (nk : Ac → St → Rs) (ek : Nat → Ac → St → Rs) (x y : Nd) (b c : Nat) (okx : NdOk x) (hlen : x.kids.length = y.kids.length)
 (hself : ∀ u ∈ x.kids, ∀ v ∈ y.kids, ∀ s, self.f 14 [encN u, encN v] s = some (.ret (.bool (sameN u v)), s)) (S : St) (hx : NodeAt S b x) (hy : NodeAt S c y) :
 ∀ (r t : List Nd) (i n : Nat), x.kids.drop i = r → y.kids.drop i = t → r.length < n →
 L14_51 self N nk ek n (.ptr b 0) (.ptr c 0) (.int .i64 (i : Int)) S = bif sameL r t then ek 0 (fr 68 []) S else some (.ret (.bool false), S)
 | r, t, i, 0, _, _, hn => by omega
 | [], t, i, n + 1, hi, hj, hn => by
  have h1 := drop_end hi
  rw [List.drop_eq_nil_of_le (by omega)] at hj
  subst hj
  rw [L14_51_eq]
  simp only [faP_ptr, oB, Nat.zero_add, hx.f4, lnS_kids, binV_ii, intsV_lss, dec_ge h1, sameL]
  rfl
 | u :: r, t, i, n + 1, hi, hj, hn => by
  obtain ⟨hlt, hu, hr, hmem⟩ := drop_at hi
  have hlt2 : i < y.kids.length := by omega
  rw [List.drop_eq_getElem_cons hlt2] at hj
  subst hj
  have hmem2 : y.kids[i] ∈ y.kids := List.getElem_mem hlt2
  have hfew := okx.few
  rw [L14_51_eq, sameL]
  simp only [faP_ptr, oB, Nat.zero_add, hx.f4, lnS_kids, binV_ii, intsV_lss, dec_lt hlt, ifK_bool, cond_true, hx.o4, hy.o4, ixP_kids x.kids i hlt, ixP_kids y.kids i hlt2, hu, onS_rd, onS_onS, ldA_kid, hself u hmem _ hmem2, callD_ret, unV_not]
  rw [endP_rd]
  · simp only [relog_onS hx.on]
    cases sameN u y.kids[i] with
    | false => rfl
    | true =>
     rw [Bool.true_and, Bool.not_true, cond_false, intsV_add, wrap_succ (show i < 9223372036854775807 by omega), oB]
     exact L14_spec self N nk ek x y b c okx hlen hself S hx hy r _ (i + 1) n hr rfl (by simp at hn; omega)
  · rfl
theorem F14_spec (self : EV) (x y : Nd) (okx : NdOk x) (S : St) (ho : S.on = false) (hdx : ∀ s, self.f 34 [encN x] s = some (.ret (gDeep x), s)) (hdy : ∀ s, self.f 34 [encN y] s = some (.ret (gDeep y), s))
 (hself : ∀ u ∈ x.kids, ∀ v ∈ y.kids, ∀ s, self.f 14 [encN u, encN v] s = some (.ret (.bool (sameN u v)), s)) :
 ∃ S', F14 self rounds (encN x) (encN y) S = some (.ret (.bool (sameN x y)), S') ∧ Grew (fun _ => False) S S' := by
 obtain ⟨S1, a1, a2, a3, a4⟩ := node_box ho x
 obtain ⟨S2, b1, b2, b3, b4⟩ := node_box a2.on y
 have hx := a2.grew (by omega) (fun h => h) b3
 refine ⟨S2, ?_, a3.trans b3⟩
 have hdeep : ∀ z : Nd, decide ((12 : Int) < (deepN 14 z : Int)) = tooDeepN z := fun z => by unfold tooDeepN; rw [decide_eq_decide]; omega
 rw [F14_eq, a1, sameN_eq]
 simp only [oB, b1, hx.fA, hdx, callP_ret, gDeep, binV_ii, intsV_gtr, hdeep, guardV_f]
 cases tooDeepN x with
 | true => rfl
 | false =>
  simp only [Bool.not_false, cond_true, b2.fA, oB, hdy, callP_ret, gDeep, binV_ii, intsV_gtr, hdeep, pickV_bool, cond_false, Bool.true_and, ifK_bool]
  cases tooDeepN y with
  | true => rfl
  | false =>
   simp only [Bool.not_false, cond_false, Bool.true_and, faP_ptr, oB, Nat.zero_add, hx.f0, b2.f0, binV_ss, strOp_neq, guardV_f, Bool.not_not]
   cases x.name == y.name with
   | false => rfl
   | true =>
    simp only [Bool.not_true, cond_true, oB, hx.f1, b2.f1, binV_ii, intsV_neq, pickV_bool, cond_false, guardV_f, Bool.not_not, Bool.true_and]
    by_cases hk : x.kind = y.kind
    · rw [decide_eq_true hk]
      simp only [Bool.not_true, Bool.not_false, cond_true, oB, hx.f2, b2.f2, nev_bool, pickV_bool, cond_false, guardV_f, Bool.not_not, Bool.true_and]
      cases x.exec == y.exec with
      | false => rfl
      | true =>
       simp only [Bool.not_true, cond_true, oB, hx.f3, b2.f3, binV_ss, strOp_neq, pickV_bool, cond_false, guardV_f, Bool.not_not, Bool.true_and]
       cases x.data == y.data with
       | false => rfl
       | true =>
        simp only [Bool.not_true, cond_true, oB, hx.f4, b2.f4, lnS_kids, binV_ii, intsV_neq, pickV_bool, cond_false, Bool.true_and, ifK_bool]
        by_cases hl : x.kids.length = y.kids.length
        · rw [decide_eq_true (show (x.kids.length : Int) = (y.kids.length : Int) by omega), Bool.not_true, cond_false]
          rw [show (V.int .i64 0) = .int .i64 ((0 : Nat) : Int) from rfl, L14_spec self rounds _ _ x y S.next S1.next okx hl hself S2 hx b2 x.kids y.kids 0 rounds rfl rfl (by have := okx.few; unfold rounds; omega), exB_same, R14_48_eq]
          cases sameL x.kids y.kids <;> rfl
        · rw [decide_eq_false (show ¬ (x.kids.length : Int) = (y.kids.length : Int) by omega), sameL_len hl]
          rfl
    · rw [decide_eq_false hk]
      rfl
theorem kn14 {K : FuncId → Option KF} (hK : KnOk Try.prog E0 K) (h34 : K 34 = some (kfNode gDeep)) : KnWell Try.prog E0 14 kfSame :=
 specKF_rec (fn := Try.f14) (c := C14) (d := B14) (fun p : TwoIn => SizeOf.sizeOf p.x) (fun p q h => by obtain ⟨h1, h2⟩ := encTwo_inj h; unfold outSame; rw [h1, h2]; exact ⟨rfl, rfl⟩) E0_ok hK (by kernel_rfl) (by kernel_rfl) (annot_isOf C14 _ (by kernel_rfl)) fun K' hK' p s hself ho => by
  have h34' : K' 34 = some (kfNode gDeep) := by rw [hK' 34 (by decide)]; exact h34
  obtain ⟨S', h1, h2⟩ := F14_spec (ev E0 K' 1) p.x p.y p.okx.at s ho (fun s => by rw [ev_known h34']; exact kfNode_run _ _ p.okx s) (fun s => by rw [ev_known h34']; exact kfNode_run _ _ p.oky s)
   (fun u hu v hv s => hself ⟨u, v, p.okx.at.kids u hu, p.oky.at.kids v hv⟩ s 0 (kid_size hu))
  exact ⟨1, _, S', h1, h2, Fz.same (.bool _)⟩
theorem L37_spec (self : EV) (N : Nat) (nk : Ac → St → Rs) (ek : Nat → Ac → St → Rs) (l m : List Nd) (hfew : l.length ≤ 3000) (hlen : l.length = m.length)
 (hself : ∀ u ∈ l, ∀ v ∈ m, ∀ s, callK E0 self (.fn (.func 16) [] []) [encN u, encN v] s = some (.ret (.bool (sameN u v)), s)) :
 ∀ (r t : List Nd) (i n : Nat) (S : St), l.drop i = r → m.drop i = t → r.length < n → S.on = false →
 ∃ S', L37_12 self N nk ek n (kidsV (encL m)) (.fn (.func 16) [] []) (kidsV (encL l)) (.int .i64 (l.length : Int)) (.int .i64 (i : Int)) S = (bif sameL r t then ek 0 (fr 32 []) S' else some (.ret (.bool false), S')) ∧ Grew (fun _ => False) S S'
 | r, t, i, 0, S, _, _, hn, _ => by omega
 | [], t, i, n + 1, S, hi, hj, hn, ho => by
  have h1 := drop_end hi
  rw [List.drop_eq_nil_of_le (by omega)] at hj
  subst hj
  rw [L37_12_eq]
  simp only [binV_ii, intsV_lss, dec_ge h1, sameL]
  exact ⟨S, rfl, Grew.refl _ _⟩
 | u :: r, t, i, n + 1, S, hi, hj, hn, ho => by
  obtain ⟨hlt, hu, hr, hmem⟩ := drop_at hi
  have hlt2 : i < m.length := by omega
  rw [List.drop_eq_getElem_cons hlt2] at hj
  subst hj
  have hmem2 : m[i] ∈ m := List.getElem_mem hlt2
  obtain ⟨S1, k1, k2, k3, k4⟩ := node_new ho (Tr.ofListFrom .nil [(sv []), (.int .i64 0), (.bool false), (sv []), .nilslice] 0) u
  obtain ⟨S2, m1, m2, m3, m4⟩ := node_new k2.on (Tr.ofListFrom .nil [(sv []), (.int .i64 0), (.bool false), (sv []), .nilslice] 0) m[i]
  have k2' := k2.grew (by omega) (fun h => h) m3
  rw [L37_12_eq, sameL]
  simp only [binV_ii, intsV_lss, dec_lt hlt, oB, ifK_bool, cond_true, ixP_kids l i hlt, ixP_kids m i hlt2, hu, ldA_kid, nwP_fst, k1, m1, k2'.fA, m2.fA, hself u hmem _ hmem2, callP_ret, unV_not]
  cases sameN u m[i] with
  | false => exact ⟨S2, rfl, k3.trans m3⟩
  | true =>
   rw [Bool.true_and, Bool.not_true, cond_false, intsV_add, wrap_succ (show i < 9223372036854775807 by omega), oB]
   obtain ⟨S', h1, h2⟩ := L37_spec self N nk ek l m hfew hlen hself r _ (i + 1) n S2 hr rfl (by simp at hn; omega) m2.on
   exact ⟨S', h1, (k3.trans m3).trans h2⟩
theorem F37_spec (self : EV) (l m : List Nd) (hfew : l.length ≤ 3000) (S : St) (ho : S.on = false)
 (hself : ∀ u ∈ l, ∀ v ∈ m, ∀ s, callK E0 self (.fn (.func 16) [] []) [encN u, encN v] s = some (.ret (.bool (sameN u v)), s)) :
 ∃ S', F37 self rounds (kidsV (encL l)) (kidsV (encL m)) (.fn (.func 16) [] []) S = some (.ret (.bool (sameL l m)), S') ∧ Grew (fun _ => False) S S' := by
 rw [F37_eq]
 simp only [lnS_kids, oB, binV_ii, intsV_neq, ifK_bool]
 by_cases hl : l.length = m.length
 · rw [decide_eq_true (show (l.length : Int) = (m.length : Int) by omega), Bool.not_true, cond_false]
   obtain ⟨S', h1, h2⟩ := L37_spec self rounds (R37_7 self rounds (finN E0 self Try.f37) noEx) (exB 0 (R37_7 self rounds (finN E0 self Try.f37) noEx) noEx) l m hfew hl hself l m 0 rounds S rfl rfl (by unfold rounds; omega) ho
   refine ⟨S', ?_, h2⟩
   rw [show (V.int .i64 0) = .int .i64 ((0 : Nat) : Int) from rfl, h1, exB_same, R37_7_eq]
   cases sameL l m <;> rfl
 · rw [decide_eq_false (show ¬ (l.length : Int) = (m.length : Int) by omega), sameL_len hl]
   exact ⟨S, rfl, Grew.refl _ _⟩
theorem F16_spec (self : EV) (x y : Nd) (S : St) (ho : S.on = false) (hdx : ∀ s, self.f 35 [encN x] s = some (.ret (gTooDeep x), s)) (hdy : ∀ s, self.f 35 [encN y] s = some (.ret (gTooDeep y), s))
 (h37 : ∀ s, s.on = false → ∃ S', self.f 37 [kidsV (encL x.kids), kidsV (encL y.kids), .fn (.func 16) [] []] s = some (.ret (.bool (sameL x.kids y.kids)), S') ∧ Grew (fun _ => False) s S') :
 ∃ S', F16 self rounds (encN x) (encN y) S = some (.ret (.bool (sameN x y)), S') ∧ Grew (fun _ => False) S S' := by
 obtain ⟨S1, a1, a2, a3, a4⟩ := node_box ho x
 obtain ⟨S2, b1, b2, b3, b4⟩ := node_box a2.on y
 have hx := a2.grew (by omega) (fun h => h) b3
 have g := a3.trans b3
 rw [F16_eq, a1, sameN_eq]
 simp only [oB, b1, hx.fA, hdx, callP_ret, gTooDeep, guardV_f]
 cases tooDeepN x with
 | true => exact ⟨S2, rfl, g⟩
 | false =>
  simp only [Bool.not_false, cond_true, b2.fA, oB, hdy, callP_ret, gTooDeep, pickV_bool, cond_false, Bool.true_and, ifK_bool]
  cases tooDeepN y with
  | true => exact ⟨S2, rfl, g⟩
  | false =>
   simp only [Bool.not_false, cond_false, Bool.true_and, faP_ptr, oB, Nat.zero_add, hx.f0, b2.f0, binV_ss, strOp_eql, guardV_t]
   cases x.name == y.name with
   | false => exact ⟨S2, rfl, g⟩
   | true =>
    simp only [cond_true, oB, hx.f1, b2.f1, binV_ii, intsV_eql, pickV_bool, guardV_t, Bool.true_and]
    by_cases hk : x.kind = y.kind
    · rw [decide_eq_true hk]
      simp only [cond_true, oB, hx.f2, b2.f2, eqv_bool, pickV_bool, guardV_t, Bool.true_and]
      cases x.exec == y.exec with
      | false => exact ⟨S2, rfl, g⟩
      | true =>
       simp only [cond_true, oB, hx.f3, b2.f3, binV_ss, strOp_eql, pickV_bool, guardV_t, Bool.true_and]
       cases x.data == y.data with
       | false => exact ⟨S2, rfl, g⟩
       | true =>
        obtain ⟨S3, c1, c2⟩ := h37 S2 b2.on
        simp only [cond_true, oB, hx.f4, b2.f4, c1, callP_ret, pickV_bool, Bool.true_and]
        exact ⟨S3, rfl, g.trans c2⟩
    · rw [decide_eq_false hk]
      exact ⟨S2, rfl, g⟩
theorem kn16 {K : FuncId → Option KF} (hK : KnOk Try.prog E0 K) (h35 : K 35 = some (kfNode gTooDeep)) (h37 : K 37 = none) : KnWell Try.prog E0 16 kfSame :=
 specKF_rec (fn := Try.f16) (c := C16) (d := B16) (fun p : TwoIn => SizeOf.sizeOf p.x) (fun p q h => by obtain ⟨h1, h2⟩ := encTwo_inj h; unfold outSame; rw [h1, h2]; exact ⟨rfl, rfl⟩) E0_ok hK (by kernel_rfl) (by kernel_rfl) (annot_isOf C16 _ (by kernel_rfl)) fun K' hK' p s hself ho => by
  have h35' : K' 35 = some (kfNode gTooDeep) := by rw [hK' 35 (by decide)]; exact h35
  have h37' : K' 37 = none := by rw [hK' 37 (by decide)]; exact h37
  obtain ⟨S', h1, h2⟩ := F16_spec (ev E0 K' 2) p.x p.y s ho (fun s => by rw [ev_known (n := 1) h35']; exact kfNode_run _ _ p.okx s) (fun s => by rw [ev_known (n := 1) h35']; exact kfNode_run _ _ p.oky s)
   (fun s ho => by
    obtain ⟨S', k1, k2⟩ := F37_spec (ev E0 K' 1) p.x.kids p.y.kids p.okx.at.few s ho fun u hu v hv s => by
     have := hself ⟨u, v, p.okx.at.kids u hu, p.oky.at.kids v hv⟩ s 0 (kid_size hu)
     show (ev E0 K' 1).f 16 [encN u, encN v] s = _
     exact this
    exact ⟨S', ev_read (c := C37) (d := B37) (by kernel_rfl) (by kernel_rfl) (annot_isOf C37 _ (by kernel_rfl)) h37' k1, k2⟩)
  exact ⟨2, _, S', h1, h2, Fz.same (.bool _)⟩
end Go.Proofs.Ythmkdoaaciamlaa.W
namespace Go.Proofs.Ythmkdoaaciamlaa.W
open Go.Proofs.Ythmkdoaaciamlaa.Ev
mutual
theorem same_one : ∀ {x y : Nd}, sameN x y = true → x = y
 | .mk n k e d l, .mk n' k' e' d' l', h => by
  rw [sameN_eq] at h
  simp only [Bool.and_eq_true, beq_iff_eq, decide_eq_true_eq] at h
  obtain ⟨_, h1, h2, h3, h4, h5⟩ := h
  have h6 := same_oneL h5
  simp only [Nd.name, Nd.kind, Nd.exec, Nd.data, Nd.kids] at h1 h2 h3 h4 h6
  subst h1; subst h2; subst h3; subst h4; subst h6
  rfl
theorem same_oneL : ∀ {l m : List Nd}, sameL l m = true → l = m
 | [], [], _ => rfl
 | [], _ :: _, h => by cases h
 | _ :: _, [], h => by cases h
 | x :: l, y :: m, h => by
  rw [sameL, Bool.and_eq_true] at h
  rw [same_one h.1, same_oneL h.2]
end
end Go.Proofs.Ythmkdoaaciamlaa.W
namespace Go.Proofs.Ythmkdoaaciamlaa.W
open Go.Proofs.Ythmkdoaaciamlaa.Ev Go.RowKit
noncomputable def K24a := knAdd K24 55 kfLose
theorem ok24a : KnOk Try.prog E0 K24a := ok24.add (kn55 ok24)
noncomputable def K25 := knAdd K24a 54 kfNum
theorem ok25 : KnOk Try.prog E0 K25 := ok24a.add (kn54 ok24a rfl rfl)
noncomputable def K26 := knAdd K25 31 kfText'
theorem ok26 : KnOk Try.prog E0 K26 := ok25.add (kn31 ok25 rfl rfl)
noncomputable def K27 := knAdd K26 32 kfRead
theorem ok27 : KnOk Try.prog E0 K27 := ok26.add (kn32 ok26 rfl rfl rfl)
noncomputable def K28 := knAdd K27 13 (kfDec decR)
theorem ok28 : KnOk Try.prog E0 K28 := ok27.add (kn13 ok27 rfl rfl rfl rfl)
theorem wk28 : WK K28 := ⟨rfl, rfl, rfl, rfl, rfl, rfl, rfl, rfl⟩
noncomputable def K29 := knAdd K28 29 kfNd
theorem ok29 : KnOk Try.prog E0 K29 := ok28.add (kn29 ok28 wk28 rfl rfl rfl)
theorem wk29 : WK K29 := ⟨rfl, rfl, rfl, rfl, rfl, rfl, rfl, rfl⟩
noncomputable def K30 := knAdd K29 12 kfDecW
theorem ok30 : KnOk Try.prog E0 K30 := ok29.add (kn12 ok29 wk29 rfl rfl rfl)
noncomputable def K31 := knAdd K30 14 kfSame
theorem ok31 : KnOk Try.prog E0 K31 := ok30.add (kn14 ok30 rfl)
noncomputable def K32 := knAdd K31 16 kfSame
theorem ok32 : KnOk Try.prog E0 K32 := ok31.add (kn16 ok31 rfl rfl)
theorem noN_ok : noN.ok := by
 unfold noN
 rw [Nd.ok]
 refine ⟨by decide, by decide, by decide, by decide, by decide, trivial⟩
theorem dec_ok (s : List UInt8) (hs : s.length ≤ 3001) : (decW s).1.ok := by
 rcases decW_cases s hs with h | ⟨n, h, ok, _⟩
 · rw [h]; exact noN_ok
 · rw [h]; exact ok
theorem cut_sv (s : List UInt8) (S : St) : sliceV E0 9 (sv s) none (some (.int .i64 ((min s.length 3000 : Nat) : Int))) none S = some (sv (s.take 3000), S) := by
 rw [slice_sv und9 s (bounds_hi .i64 (Nat.min_le_left ..)) (Nat.min_le_left ..), List.drop_zero, Nat.sub_zero, show List.take (min s.length 3000) s = s.take 3000 by
  rcases Nat.le_total s.length 3000 with h | h
  · rw [Nat.min_eq_left h, List.take_length, List.take_of_length_le h]
  · rw [Nat.min_eq_right h]]
end Go.Proofs.Ythmkdoaaciamlaa.W
namespace Go.Proofs.Ythmkdoaaciamlaa.W
open Go.Proofs.Ythmkdoaaciamlaa.Ev Go.RowKit
theorem enc_check (a : Nd) : (encodeN a).2 = checkN a ∨ ((encodeN a).2 = 3 ∧ checkN a = 0) := by
 unfold encodeN
 by_cases h : checkN a = 0
 · rw [if_pos h]
   by_cases hf : (layN (putText [] magicN) a).length ≤ 60000
   · rw [if_pos hf]; exact .inl h.symm
   · rw [if_neg hf]; exact .inr ⟨rfl, h⟩
 · rw [if_neg h]; exact .inl rfl
end Go.Proofs.Ythmkdoaaciamlaa.W
namespace Go.Proofs.Ythmkdoaaciamlaa.W
open Go.Proofs.Ythmkdoaaciamlaa.Ev Go.RowKit
theorem enc_prefix {x y : Nd} {s rest : List UInt8} (okx : x.ok) (oky : y.ok) (hx : (encodeN x).2 = 0) (hx1 : (encodeN x).1 = s) (hy : (encodeN y).2 = 0) (hy1 : (encodeN y).1 = s ++ rest) : rest = [] := by
 have tx := taken okx hx hx1
 have ty := taken oky hy hy1
 have e : layN [] y = layN [] x ++ rest := by
  have := ty.bytes
  rw [tx.bytes, List.append_assoc] at this
  exact (List.append_cancel_left this).symm
 have rx := readN_lay 14 13 x rest (by omega) okx tx.may (by have := tx.cnt; omega) (by have := tx.deep; omega) (by have := tx.deep; omega)
 have ry := readN_lay 14 13 y [] (by omega) oky ty.may (by have := ty.cnt; omega) (by have := ty.deep; omega) (by have := ty.deep; omega)
 rw [List.append_nil, e, rx] at ry
 simp only [pM, RSt.mk.injEq, and_true] at ry
 exact ry.2
theorem enc_some {x : Nd} {s : List UInt8} (ok : x.ok) (h0 : (encodeN x).2 = 0) (h1 : (encodeN x).1 = s) : s ≠ [] := by
 have t := taken ok h0 h1
 intro h
 have := t.bytes
 rw [h] at this
 have := congrArg List.length this
 rw [List.length_append] at this
 have h2 : magicN.length ≤ (putText [] magicN).length := by unfold putText; simp
 have h3 : magicN.length = 10 := rfl
 simp only [List.length_nil] at this
 omega
theorem one_less {n : Nd} {t : List UInt8} (ok : n.ok) (h0 : (encodeN n).2 = 0) (h1 : (encodeN n).1 = t) (ht : t.length ≤ 3001) {k : Nat} (hk : k < t.length) : decW (t.take k) = (noN, 4) := by
 rcases decW_cases (t.take k) (by rw [List.length_take]; omega) with h | ⟨m, _, okm, hm, hm1⟩
 · exact h
 · have := enc_prefix (rest := t.drop k) okm ok hm hm1 h0 (by rw [h1, List.take_append_drop])
   have := congrArg List.length this
   rw [List.length_drop, List.length_nil] at this
   omega
theorem one_more {n : Nd} {t : List UInt8} (ok : n.ok) (h0 : (encodeN n).2 = 0) (h1 : (encodeN n).1 = t) (b : UInt8) (ht : t.length ≤ 3000) : decW (t ++ [b]) = (noN, 4) := by
 rcases decW_cases (t ++ [b]) (by rw [List.length_append, List.length_singleton]; omega) with h | ⟨m, _, okm, hm, hm1⟩
 · exact h
 · have := enc_prefix ok okm h0 h1 hm hm1
   cases this
theorem xor_ne (c b : UInt8) : c ^^^ (b ||| 1) ≠ c := by
 intro h
 have h1 : c ^^^ (c ^^^ (b ||| 1)) = c ^^^ c := by rw [h]
 rw [← UInt8.xor_assoc, UInt8.xor_self, UInt8.zero_xor] at h1
 have h2 := congrArg (fun x : UInt8 => x.toNat.testBit 0) h1
 simp [UInt8.toNat_or] at h2
theorem one_other {n : Nd} {t : List UInt8} (ok : n.ok) (h0 : (encodeN n).2 = 0) (h1 : (encodeN n).1 = t) (ht : t.length ≤ 3000) {k : Nat} (hk : k < t.length) (c : UInt8) (hc : c ≠ t[k]) (hd : (decW (t.set k c)).2 = 0) : sameN n (decW (t.set k c)).1 = false := by
 rcases decW_cases (t.set k c) (by rw [List.length_set]; omega) with h | ⟨m, h, okm, hm, hm1⟩
 · rw [h] at hd; simp at hd
 · rw [h]
   cases hs : sameN n m with
   | false => rfl
   | true =>
    exfalso
    have := same_one hs
    subst this
    rw [h1] at hm1
    have := congrArg (fun l : List UInt8 => l[k]?) hm1
    simp only [List.getElem?_set_self hk, List.getElem?_eq_getElem hk, oS] at this
    exact hc this.symm
theorem or8 (x y : UInt8) : intsV .or .u8 (x.toNat : Int) .u8 (y.toNat : Int) = some (.int .u8 ((x ||| y).toNat : Int)) := by
 have hx := x.toNat_lt
 have hy := y.toNat_lt
 have hz := (x ||| y).toNat_lt
 show ((bitsF .or (resOf .u8 (x.toNat : Int)) (resOf .u8 (y.toNat : Int)) 256).map fun r => V.int .u8 (ofRes .u8 r)) = _
 rw [show resOf .u8 (x.toNat : Int) = x.toNat % 256 from rfl, show resOf .u8 (y.toNat : Int) = y.toNat % 256 from rfl, Nat.mod_eq_of_lt (by omega), Nat.mod_eq_of_lt (by omega)]
 show some (V.int .u8 (ofRes .u8 (Nat.lor x.toNat y.toNat))) = _
 rw [show Nat.lor x.toNat y.toNat = (x ||| y).toNat from (UInt8.toNat_or x y).symm]
 unfold ofRes
 rw [show Nat.blt (x ||| y).toNat (ikLim .u8) = true from blt_true.2 (by show _ < 256; omega)]
 rfl
theorem xor8 (x y : UInt8) : intsV .xor .u8 (x.toNat : Int) .u8 (y.toNat : Int) = some (.int .u8 ((x ^^^ y).toNat : Int)) := by
 have hx := x.toNat_lt
 have hy := y.toNat_lt
 have hz := (x ^^^ y).toNat_lt
 show ((bitsF .xor (resOf .u8 (x.toNat : Int)) (resOf .u8 (y.toNat : Int)) 256).map fun r => V.int .u8 (ofRes .u8 r)) = _
 rw [show resOf .u8 (x.toNat : Int) = x.toNat % 256 from rfl, show resOf .u8 (y.toNat : Int) = y.toNat % 256 from rfl, Nat.mod_eq_of_lt (by omega), Nat.mod_eq_of_lt (by omega)]
 show some (V.int .u8 (ofRes .u8 (Nat.xor x.toNat y.toNat))) = _
 rw [show Nat.xor x.toNat y.toNat = (x ^^^ y).toNat from (UInt8.toNat_xor x y).symm]
 unfold ofRes
 rw [show Nat.blt (x ^^^ y).toNat (ikLim .u8) = true from blt_true.2 (by show _ < 256; omega)]
 rfl
theorem hi_sv (s : List UInt8) (S : St) {k : Nat} (hk : k ≤ s.length) : sliceV E0 9 (sv s) none (some (.int .i64 (k : Int))) none S = some (sv (s.take k), S) := by
 rw [slice_sv und9 s (bounds_hi .i64 hk) hk, List.drop_zero, Nat.sub_zero]
theorem row_set {S : St} (ho : S.on = false) {r k : Nat} {full : List UInt8} (h : RowAt S r 5 1 (full.map byteC)) (hk : k < full.length) (c : UInt8) :
 ∃ S', stP 1 (.ptr r k) (.int .u8 (c.toNat : Int)) S = some (.tuple [], S') ∧ RowAt S' r 5 1 ((full.set k c).map byteC) ∧ Grew (fun x => x = r) S S' ∧ S'.next = S.next := by
 obtain ⟨S', h1, h2, h3, h4⟩ := h.stK ho (i := k) (by rw [List.length_map]; exact hk) (byteC c)
 refine ⟨S', ?_, by rw [List.map_set]; exact h2, h3, h4⟩
 rw [Nat.mul_one] at h1
 show vu (bif Nat.beq 1 1 && !false then stK S r k 1 (byteC c) else none) = _
 rw [h1]
 rfl
end Go.Proofs.Ythmkdoaaciamlaa.W
