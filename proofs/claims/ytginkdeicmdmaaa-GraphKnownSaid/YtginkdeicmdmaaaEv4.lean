/-
  THE EVALUATOR AND ITS SOUNDNESS: what it says of a call holds of the call in the model, in whatever world, on whatever tape, part 4 of 4 (no condition).
-/
import Derived.Test.YtginkdeicmdmaaaEv3
import Derived.Shelf.SortM.Plain
import Derived.Shelf.SortM.SortNone
import Derived.Maps.RangeRun
namespace Go.Proofs.Ytginkdeicmdmaaa.Ev
open Go.RowKit Go.Maps Go.Sort Go.Shelf Go.Proofs
variable {P : Program}
def KeysLaid (P : Program) (et : TypeId) (g : FuncId) : Prop := ∃ ρ, SlLaysZ.n10 P ρ ∧ ρ.f 10 = g ∧ ρ.t 26 = et
theorem sortedOk_of {ρ ρm : Ren} (L : SlLaysZ.n6 P ρ) (Lm : SlLaysM.n6 P ρm) (hm : ρm.f 6 = ρ.f 9) (kfs : List FuncId) (hk : ∀ g ∈ kfs, KeysLaid P (ρ.t 26) g) : SortedOk P (ρ.f 6) kfs (ρ.t 26) := by
 have hsort : ∀ m, AnyZ.SortsIn P ρ Fence.wide m := fun m => by
  unfold AnyZ.SortsIn
  rw [← hm]
  exact ⟨fun blk off cap ss W hH hblk hsz => callsIn_wide.2 (AnyM.slices_Sort_string Lm blk off cap ss W hH hblk hsz),
   fun p cap W => callsIn_wide.2 (AnyM.slices_Sort_string_none Lm p cap W)⟩
 have e9 : ∀ args w, (callFunc (ρ.f 9) args).run P w = .ok (.enter (ρ.f 9) args) w := by
  rw [← hm]
  exact Lm.f6.enters rfl
 have eg : ∀ g ∈ kfs, ∀ args w, (callFunc g args).run P w = .ok (.enter g args) w := fun g hg => by
  obtain ⟨ρg, Lg, rfl, _⟩ := hk g hg
  exact Lg.f10.enters rfl
 refine ⟨fun g hg a b w es clock ks hsp hBm hcell hb h1 h2 hks hnd hshort hlen => ?_, fun g hg a w hsp hBm hcell => ?_⟩
 · obtain ⟨ρg, Lg, hfg, htg⟩ := hk g hg
   obtain ⟨Bm, Bo, spot⟩ := a
   simp only at hsp hBm
   subst hsp
   have hu := L.t26
   have hread : ∀ x ∈ es.toList, ∃ k, k ∈ ks ∧ x.key = encStr k := fun x hx => by
    have : x.key ∈ es.toList.map (·.key) := List.mem_map.2 ⟨x, hx, rfl⟩
    rw [hks] at this
    obtain ⟨k, hk, he⟩ := List.mem_map.1 this
    exact ⟨k, hk, he.symm⟩
   have hkey : ∀ k ∈ ks, keyOf P (ρ.t 26) (encStr k) = some (.string k) := fun k hk => by
    have hl := hshort k hk
    have : k.toArray.size ≤ Go.maxLen := by
     unfold Go.maxLen
     have : k.toArray.size = k.length := by simp
     omega
    have h' : (⟨k.toArray⟩ : ByteArray).size ≤ Go.maxLen := this
    unfold keyOf
    rw [hu]
    simp only [mapKey, hu, encStr, h', if_true, List.toList_toArray]
   let R : Value → Option (DataW Unit × List MemPlace) := fun _ => some (.nil, [])
   have hrd : ∀ x ∈ es.toList, ∀ k, x.key = encStr k → k ∈ ks → WideElems.rd P (ρ.t 26) R x = some (.string k, .nil) := fun x hx k he hk => by
    unfold WideElems.rd
    rw [he, hkey k hk]
    rfl
   have hown : w.ownsMap P (ρ.t 26) R b es.size (.map ((es.toList.map (WideElems.rg P (ρ.t 26) R)).foldr DataW.insert [])) := by
    refine ⟨es, clock, hb, ⟨?_, ⟨h1, h2, ?_⟩, fun x hx => ?_⟩, Nat.le_refl _, rfl⟩
    · have : es.size = ks.length := by have := congrArg List.length hks; simpa using this
      unfold Go.maxLen
      omega
    · rw [hks]
      exact List.pairwise_map.2 (hnd.imp fun h e => h (encStr_inj e))
    · obtain ⟨k, hk, he⟩ := hread x hx
      exact ⟨_, hrd x hx k he hk⟩
   have hperm : (strKeys (.map ((es.toList.map (WideElems.rg P (ρ.t 26) R)).foldr DataW.insert []))).Perm ks := by
    have hp : ((es.toList.map (WideElems.rg P (ρ.t 26) R)).foldr DataW.insert []).Perm (es.toList.map (WideElems.rg P (ρ.t 26) R)) := WideShapes.sorted_perm _
    refine (hp.map fun p => strOf p.1).trans ?_
    rw [List.map_map]
    have : ∀ (l : List MapEntry) (q : List (List UInt8)), (∀ x ∈ l, x ∈ es.toList) → l.map (·.key) = q.map encStr → l.map ((fun p : Lit × DataW Unit => strOf p.1) ∘ WideElems.rg P (ρ.t 26) R) = q := by
     intro l
     induction l with
     | nil => intro q _ h; cases q with | nil => rfl | cons a q => cases h
     | cons x l ih =>
      intro q hl h
      cases q with
      | nil => cases h
      | cons a q =>
       rw [List.map_cons, List.map_cons, List.cons.injEq] at h
       obtain ⟨k, hk, he⟩ := hread x (hl x (List.mem_cons_self ..))
       have : k = a := encStr_inj (he.symm.trans h.1)
       subst this
       rw [List.map_cons, ih q (fun y hy => hl y (List.mem_cons_of_mem _ hy)) h.2]
       show strOf (WideElems.rg P (ρ.t 26) R x).1 :: q = _
       rw [WideElems.rg_of (hrd x (hl x (List.mem_cons_self ..)) k he hk)]
       rfl
    rw [this es.toList ks (fun _ h => h) hks]
   have hsz : Maps.size (.map ((es.toList.map (WideElems.rg P (ρ.t 26) R)).foldr DataW.insert [])) = ks.length := by
    have := hperm.length_eq
    simpa [strKeys, Maps.size] using this
   have hseq : SeqGives Fence.wide 2 P g #[.pointer (some ⟨Bm, Bo, none⟩)] encStr (fun ss => ss.Perm (strKeys (.map ((es.toList.map (WideElems.rg P (ρ.t 26) R)).foldr DataW.insert [])))) ks.length w := by
    have := keysAt_gives (ρ := ρg) Lg Fence.wide 2 trivial rfl (by omega) Bm Bo b es.size (.map ((es.toList.map (WideElems.rg P (ρ.t 26) R)).foldr DataW.insert [])) (R := R) w hBm hcell (by rw [htg]; exact hown)
    rw [hfg, hsz] at this
    exact this
   have hfin := AnyZ.sorted_in L Fence.wide 5 trivial trivial trivial trivial rfl (by omega) (hsort _) e9 g #[.pointer (some ⟨Bm, Bo, none⟩)] trivial (eg g hg) _ ks.length (by unfold Go.maxLen; omega) (by omega) w hseq
   refine (callsIn_wide.1 hfin).mono fun e w' hw => ?_
   obtain ⟨v, ss, rfl, hS, hrow, hnil, hbel⟩ := hw
   have hp : ss.Perm ks := hS.trans hperm
   refine ⟨v, rfl, ?_, hnil.trans ⟨fun h => ?_, fun h => ?_⟩, hbel⟩
   · rw [← mergeSort_of_perm hp, ← hp.length_eq]
     exact hrow
   · subst h; exact hp.symm.eq_nil
   · subst h; exact hp.eq_nil
 · obtain ⟨ρg, Lg, hfg, htg⟩ := hk g hg
   obtain ⟨Bm, Bo, spot⟩ := a
   simp only at hsp hBm
   subst hsp
   have hseq := keysAt_gives_nil (ρ := ρg) Lg Fence.wide 2 trivial rfl Bm Bo w hBm hcell
   rw [hfg] at hseq
   have hfin := AnyZ.sorted_in L Fence.wide 5 trivial trivial trivial trivial rfl (by omega) (hsort _) e9 g #[.pointer (some ⟨Bm, Bo, none⟩)] trivial (eg g hg) _ 0 (Nat.zero_le _) (by omega) w hseq
   refine (callsIn_wide.1 hfin).mono fun e w' hw => ?_
   obtain ⟨v, ss, rfl, hS, hrow, hnil, hbel⟩ := hw
   exact ⟨by rw [hnil.2 hS], hbel⟩
end Go.Proofs.Ytginkdeicmdmaaa.Ev
namespace Go.Proofs.Ytginkdeicmdmaaa.Ev
open Go.RowKit
open Go.ChangeMaps (setBlock)
section
variable {P : Program} {E : Env} {w0 : Base} {ρ ρ' : Rho} {s s' : St} {w w' : World}
structure Spare (w0 : Base) (ρ : Rho) (s : St) (r : Nat) : Prop where
 prot : ¬ w0.pt.prot r
 fz : ρ.fz r = none
 free : ∀ b o sh sz, s.heap.get b = some o → o.alive = true → ρ b ≠ some (r, sh, sz)
def Base.with (w0 : Base) (w : World) (r : Nat) (hr : r < w.heap.size) (hk : Keeps w0.pt.prot w0.w w) : Base where
 w := w
 pt := ⟨fun k => w0.pt.prot k ∨ k = r, w0.pt.old, fun k h => .inl (w0.pt.sub k h)⟩
 out := w0.out
 lo := w0.lo
 fzp := fun k => w0.fzp k ∧ k ≠ r
 protLt := fun k h => by
  rcases h with h | rfl
  · exact Nat.lt_of_lt_of_le (w0.protLt k h) hk.size
  · exact hr
 outLt := w0.outLt
theorem alive_of_mine {o : O} (h : o.mine = true) : o.alive = true := by cases o <;> first | rfl | cases h
theorem OR.prt {B B' : Prt} {b : Nat} {o : O} (h : OR B ρ b o w) (hold : ∀ k, B.old k → B'.old k) (hp : ∀ cb sh sz, ρ b = some (cb, sh, sz) → o.mine = true → ¬ B.prot cb → ¬ B'.prot cb) : OR B' ρ b o w := by
 cases o with
 | dead => trivial
 | cells e esz n ro c =>
  obtain ⟨cb, sh, sz, cs, fr, hρ, hc⟩ := h
  exact ⟨cb, sh, sz, cs, fr, hρ, hc.heap, hc.size, hc.room, hc.al, fun h => hold _ (hc.old h), fun h => ⟨hp cb sh sz hρ (by simp [O.mine, h]) (hc.own h).1, (hc.own h).2⟩, hc.one, hc.cell⟩
 | map es cl =>
  obtain ⟨cr, sh, sz, ces, hρ, hB, h1, h2⟩ := h
  exact ⟨cr, sh, sz, ces, hρ, hp _ _ _ hρ rfl hB, h1, h2⟩
 | siter l n pos =>
  obtain ⟨cr, sz, str, hρ, hB, h1⟩ := h
  exact ⟨cr, sz, str, hρ, hp _ _ _ hρ rfl hB, h1⟩
 | loop =>
  obtain ⟨cr, sz, q, hρ, hB, h1⟩ := h
  exact ⟨cr, sz, q, hρ, hp _ _ _ hρ rfl hB, h1⟩
 | defb =>
  obtain ⟨cr, sz, hρ, hB, h1⟩ := h
  exact ⟨cr, sz, hρ, hp _ _ _ hρ rfl hB, h1⟩
theorem Rel.spareIn (hR : Rel E w0 ρ s w) {r : Nat} (hS : Spare w0 ρ s r) (hr : r < w.heap.size) : Rel E (w0.with w r hr hR.below) ρ s w := by
 refine ⟨⟨rfl, rfl, rfl, Nat.le_refl _, fun _ _ => rfl⟩, hR.dom, hR.lo, fun b o ho => ?_, hR.sep, hR.glob, hR.fz, hR.apart, fun k o hk hp => ?_⟩
 · refine OR.prt (hR.obj b o ho) (fun _ h => h) fun cb sh sz hρ hm hn hp => ?_
   rcases hp with hp | rfl
   · exact hn hp
   · exact hS.free b o sh sz ho (alive_of_mine hm) hρ
 · have hne : k ≠ r := fun e => by rw [e, hS.fz] at hk; cases hk
   refine ⟨hR.fzIn k o hk ?_, hne⟩
   rcases hp with hp | hp
   · exact hp
   · exact absurd hp hne
theorem Rel.spareOut {hr : (r : Nat) → Prop} {r : Nat} {hk : Keeps w0.pt.prot w0.w w} {hlt : r < w.heap.size} (hS : ¬ w0.pt.prot r) (h : Rel E (w0.with w r hlt hk) ρ s w') :
 Rel E w0 ρ s w' ∧ Spare w0 ρ s r ∧ w'.heap[r]? = w.heap[r]? := by
 refine ⟨⟨⟨h.below.os.trans hk.os, h.below.tape.trans hk.tape, h.below.output.trans hk.output, Nat.le_trans hk.size h.below.size, fun k hp => (h.below.block k (.inl hp)).trans (hk.block k hp)⟩, h.dom, h.lo, fun b o ho => ?_, h.sep, h.glob, h.fz, h.apart, fun k o hk hp => (h.fzIn k o hk (.inl hp)).1⟩, ⟨hS, ?_, fun b o sh sz ho ha hρ => ?_⟩, h.below.block r (.inr rfl)⟩
 · exact OR.prt (h.obj b o ho) (fun _ h => h) fun cb sh sz hρ hm hn hp => hn (.inl hp)
 · cases hf : ρ.fz r with
   | none => rfl
   | some o => exact absurd rfl (h.fzIn r o hf (.inr rfl)).2
 · cases hm : o.mine with
   | true =>
    have := h.obj b o ho
    cases o with
    | dead => cases ha
    | cells e esz n ro c =>
     obtain ⟨cb, sh', sz', cs, fr, hρ', hc⟩ := this
     rw [hρ] at hρ'; simp only [oS, pM] at hρ'; obtain ⟨rfl, rfl, rfl⟩ := hρ'
     exact (hc.own (by simpa [O.mine] using hm)).1 (.inr rfl)
    | map es cl =>
     obtain ⟨cr, sh', sz', ces, hρ', hB, _⟩ := this
     rw [hρ] at hρ'; simp only [oS, pM] at hρ'; obtain ⟨rfl, rfl, rfl⟩ := hρ'
     exact hB (.inr rfl)
    | siter l n pos =>
     obtain ⟨cr, sz', str, hρ', hB, _⟩ := this
     rw [hρ] at hρ'; simp only [oS, pM] at hρ'; obtain ⟨rfl, rfl, rfl⟩ := hρ'
     exact hB (.inr rfl)
    | loop =>
     obtain ⟨cr, sz', q, hρ', hB, _⟩ := this
     rw [hρ] at hρ'; simp only [oS, pM] at hρ'; obtain ⟨rfl, rfl, rfl⟩ := hρ'
     exact hB (.inr rfl)
    | defb =>
     obtain ⟨cr, sz', hρ', hB, _⟩ := this
     rw [hρ] at hρ'; simp only [oS, pM] at hρ'; obtain ⟨rfl, rfl, rfl⟩ := hρ'
     exact hB (.inr rfl)
   | false =>
    have := h.obj b o ho
    cases o <;> first | (cases ha; done) | (cases hm; done) | skip
    obtain ⟨cb, sh', sz', cs, fr, hρ', hc⟩ := this
    rw [hρ] at hρ'; simp only [oS, pM] at hρ'; obtain ⟨rfl, rfl, rfl⟩ := hρ'
    exact hS (w0.pt.sub _ (hc.old (by simpa [O.mine] using hm)))
theorem Rel.turned (hR : Rel E w0 ρ s w) {r : Nat} (hS : Spare w0 ρ s r) (h1 : w'.os = w.os) (h2 : w'.tape = w.tape) (h3 : w'.output = w.output) (h4 : w.heap.size ≤ w'.heap.size) (h5 : ∀ k, k ≠ r → w'.heap[k]? = w.heap[k]?) : Rel E w0 ρ s w' := by
 refine ⟨⟨h1.trans hR.below.os, h2.trans hR.below.tape, h3.trans hR.below.output, Nat.le_trans hR.below.size h4, fun k hk => ?_⟩, hR.dom, hR.lo, fun b o ho => ?_, hR.sep, hR.glob, fun k o hk => ?_, hR.apart, hR.fzIn⟩
 · exact (h5 k fun e => hS.prot (e ▸ hk)).trans (hR.below.block k hk)
 · cases ha : o.alive with
   | false => cases o <;> simp only [O.alive, Bool.true_eq_false] at ha; trivial
   | true => exact (hR.obj b o ho).of_same (Rho.le_refl ρ) fun cb sh sz h' => h5 cb fun e => hS.free b o sh sz ho ha (e ▸ h')
 · exact (h5 k fun e => by rw [e, hS.fz] at hk; cases hk).trans (hR.fz k o hk)
theorem MERels.mem' : ∀ {l : List ME} {cl : List MapEntry}, MERels ρ l cl → ∀ c ∈ cl, ∃ e ∈ l, MERel ρ e c
 | _, _, .cons h t, c, hc => by
  rcases List.mem_cons.1 hc with rfl | hc
  · exact ⟨_, List.mem_cons_self .., h⟩
  · obtain ⟨e, he, h'⟩ := t.mem' c hc
    exact ⟨e, List.mem_cons_of_mem _ he, h'⟩
theorem MERels.mem : ∀ {l : List ME} {cl : List MapEntry}, MERels ρ l cl → ∀ e ∈ l, ∃ c ∈ cl, MERel ρ e c
 | _, _, .cons h t, c, hc => by
  rcases List.mem_cons.1 hc with rfl | hc
  · exact ⟨_, List.mem_cons_self .., h⟩
  · obtain ⟨e, he, h'⟩ := t.mem c hc
    exact ⟨e, List.mem_cons_of_mem _ he, h'⟩
theorem MERels.borns : ∀ {l : List ME} {cl : List MapEntry}, MERels ρ l cl → cl.map (·.born) = l.map (·.born)
 | _, _, .nil => rfl
 | _, _, .cons h t => by rw [List.map_cons, List.map_cons, t.borns, h.born]
theorem next_sim (hR : Rel E w0 ρ s w) {r : Nat} (hS : Spare w0 ρ s r) {b cr sh sz clock : Nat} {es : List ME} (hb : s.heap.get b = some (.map es clock)) (hρ : ρ b = some (cr, sh, sz)) {seen : Array Nat}
 (hr : w.heap[r]? = some (.mapIter (some cr) clock seen clock)) (hold : ∀ e ∈ es, e.born < clock) (ty : TypeId) :
 ((∀ e ∈ es, seen.contains e.born = true) ∧ (Instr.next (.pointer (some ⟨r, 0, none⟩)) false ty).run P w = .ok (.tuple #[.bool false]) w) ∨
 ∃ e ∈ es, seen.contains e.born = false ∧ ∃ ck cv w', VRel ρ e.k ck ∧ VRel ρ e.v cv ∧ (Instr.next (.pointer (some ⟨r, 0, none⟩)) false ty).run P w = .ok (.tuple #[.bool true, ck, cv]) w' ∧ Rel E w0 ρ s w' ∧
  w'.heap[r]? = some (.mapIter (some cr) clock (seen.push e.born) clock) := by
 obtain ⟨ces, hw, hm⟩ := map_of hR hb hρ
 have hold' : ∀ x ∈ ces.toList, x.born < clock := fun x hx => by
  obtain ⟨e, he, h'⟩ := hm.mem' x hx
  rw [← h'.born]; exact hold e he
 rcases run_next_at (P := P) w ty r cr clock clock seen ces clock hr hw hold' (Nat.le_refl _) with ⟨h0, hrun⟩ | ⟨c, hc, w1, hw1, hrun⟩
 · refine .inl ⟨fun e he => ?_, hrun⟩
   obtain ⟨c, hc, h'⟩ := hm.mem e he
   rw [h'.born]
   cases hs : seen.contains c.born with
   | true => rfl
   | false =>
    have : c ∈ leftOf ces seen := by
     unfold leftOf
     exact Array.mem_filter.2 ⟨by simpa using hc, by rw [hs]; rfl⟩
    have := Array.size_pos_of_mem this
    omega
 · have hc' : c ∈ leftOf ces seen := by simpa using hc
   unfold leftOf at hc'
   obtain ⟨hc1, hc2⟩ := Array.mem_filter.1 hc'
   obtain ⟨e, he, h'⟩ := hm.mem' c (by simpa using hc1)
   have hR1 : Rel E w0 ρ s w1 := by
    rcases hw1 with rfl | rfl
    · exact hR
    · exact hR.drew _
   have hr1 : w1.heap[r]? = some (.mapIter (some cr) clock seen clock) := by rcases hw1 with rfl | rfl <;> exact hr
   have hlt : r < w1.heap.size := (Array.getElem?_eq_some_iff.1 hr1).1
   refine .inr ⟨e, he, by rw [h'.born]; simpa using hc2, c.key, c.val, _, h'.k, h'.v, hrun, ?_, ?_⟩
   · refine hR1.turned hS rfl rfl rfl (by simp [setBlock]) fun k hk => ?_
     show (w1.heap.setIfInBounds r _)[k]? = _
     rw [Array.getElem?_setIfInBounds_ne (fun e => hk e.symm)]
   · show (w1.heap.setIfInBounds r _)[r]? = _
     rw [h'.born, Array.getElem?_setIfInBounds_self_of_lt hlt]
theorem entry_sim (hR : Rel E w0 ρ s w) {r : Nat} {b cr sh sz clock : Nat} {es : List ME} (hb : s.heap.get b = some (.map es clock)) (hρ : ρ b = some (cr, sh, sz)) {seen : Array Nat} {e : ME} (he : e ∈ es)
 (hr : w.heap[r]? = some (.mapIter (some cr) clock (seen.push e.born) clock)) (hnd : (es.map (·.born)).Nodup) :
 ∃ ck cv, VRel ρ e.k ck ∧ VRel ρ e.v cv ∧ (Instr.entry (.pointer (some ⟨r, 0, none⟩))).run P w = .ok (.tuple #[ck, cv]) w := by
 obtain ⟨ces, hw, hm⟩ := map_of hR hb hρ
 obtain ⟨c, hc, h'⟩ := hm.mem e he
 rw [h'.born] at hr
 exact ⟨c.key, c.val, h'.k, h'.v, run_entry_at w r cr clock seen ces clock c hr hw hc (by rw [hm.borns]; exact hnd)⟩
theorem hand_op {rd : Option Nat} {ops : Array Oper} {Q : Exit → Act → World → Prop} {K : Act → World → Prop} {i : Nat} {o : Oper} {ca : Act} {v : Value} (hi : ops[i]? = some o) (hg : o.guard = none) (hd : ∀ c, o.op ≠ .defer c)
 (hrun : (execOp ca.eval o).run P w = .ok (.value v) w') (hK : K (ca.put o.dst v) w') : wpOpIn (fenceAt rd) 0 P ops Q i K ca w := by
 unfold wpOpIn
 simp only [hi]
 have : Region.wanted o (yielded ops ca.tmps) = true := by unfold Region.wanted; rw [hg]
 rw [this]
 simp only [if_true]
 refine ⟨fun _ _ => trivial, ?_⟩
 rw [Oper.semAt_eq _ _ _ hd, hrun]
 exact hK
end
end Go.Proofs.Ytginkdeicmdmaaa.Ev
namespace Go.Proofs.Ytginkdeicmdmaaa.Ev
open Go.RowKit
section
variable {P : Program} {E : Env} {self : EV}
def RStep (E : Env) (self : EV) (ops3 ops4 : Array Oper) (d3 d4 : Option Tmp) (rest3 rest4 : List Oper) (c : Operand) (B1 : Nat) (Z : Code) (I : Ac → St → Prop) (Out : X → Ac → St → Prop) (e : ME) (a : Ac) (s : St) : Prop :=
 ∃ a1 a2 a3 a4 s4 x a5 s5, (putF d3).run a (.tuple [.bool true, e.k, e.v]) = some a1 ∧ (opsL E ops3 rest3).run self a1 s = some (.norm, a2, s) ∧ evO E a2 c = some (.bool true) ∧
  (putF d4).run a2 (.tuple [e.k, e.v]) = some a3 ∧ (opsL E ops4 rest4).run self a3 s = some (.norm, a4, s4) ∧ (comp E Z).run self a4 s4 = some (x, a5, s5) ∧ ((x = .norm ∨ x = .exit B1) → I a5 s5) ∧ (x ≠ .norm → x ≠ .exit B1 → Out x a5 s5)
def REnd (E : Env) (self : EV) (ops3 : Array Oper) (d3 : Option Tmp) (rest3 : List Oper) (c : Operand) (B0 : Nat) (Out : X → Ac → St → Prop) (a : Ac) (s : St) : Prop :=
 ∃ a1 a2, (putF d3).run a (.tuple [.bool false]) = some a1 ∧ (opsL E ops3 rest3).run self a1 s = some (.norm, a2, s) ∧ evO E a2 c = some (.bool false) ∧ Out (.exit B0) a2 s
theorem left_less {es : List ME} {seen : Array Nat} {e : ME} (he : e ∈ es) (hn : seen.contains e.born = false) :
 (es.filter fun x => !(seen.push e.born).contains x.born).length < (es.filter fun x => !seen.contains x.born).length := by
 have hc : ∀ n, (seen.push e.born).contains n = (seen.contains n || n == e.born) := fun n => by
  rw [Bool.eq_iff_iff]
  simp only [Bool.or_eq_true, Array.contains_iff_mem, Array.mem_push, beq_iff_eq]
 induction es with
 | nil => cases he
 | cons x l ih =>
  have key : (l.filter fun x => !(seen.push e.born).contains x.born).length ≤ (l.filter fun x => !seen.contains x.born).length := by
   rw [← List.countP_eq_length_filter, ← List.countP_eq_length_filter]
   refine List.countP_mono_left fun y _ hy => ?_
   rw [hc] at hy
   cases h : seen.contains y.born with
   | false => rfl
   | true => rw [h] at hy; simp at hy
  rw [List.filter_cons, List.filter_cons]
  rcases List.mem_cons.1 he with rfl | he
  · rw [hc, hn]
    simp only [Bool.not_false, if_true, beq_self_eq_true, Bool.or_true, Bool.not_true, Bool.false_eq_true, if_false, List.length_cons]
    omega
  · have := ih he
    rw [hc]
    cases h : seen.contains x.born with
    | true => simpa using this
    | false =>
     simp only [Bool.false_or, Bool.not_false, if_true]
     cases h2 : (x.born == e.born) with
     | true => simp only [Bool.not_true, Bool.false_eq_true, if_false, List.length_cons]; omega
     | false => simp only [Bool.not_false, if_true, List.length_cons]; omega
theorem opsL_simQ {w0 : Base} (hE : EnvOk P E) (hs : EVSim P E self) {ops : Array Oper} {Q : Exit → Act → World → Prop} : ∀ (l : List Oper) (k : Nat), (∀ j o, l[j]? = some o → ops[k + j]? = some o) → ∀ {ρ0 ρ : Rho} {s : St} {w : World} {a : Ac} {ca : Act} {x : X} {a' : Ac} {s' : St}, ρ0.le ρ →
 Rel E w0 ρ s w → ARel ρ a ca → ∀ {rd : Option Nat}, (a.round = none → rd = none) → (opsL E ops l).run self a s = some (x, a', s') → (∀ e ca' w', XSim E w0 ρ0 a' s' x e ca' w' → Q e ca' w') → wpOpsIn (fenceAt rd) 0 P ops Q (List.range' k l.length) ca w := by
 intro l
 induction l with
 | nil =>
  intro k _ ρ0 ρ s w a ca x a' s' hle0 hR hA rd hrd h hQ
  have h' : some (X.norm, a, s) = some (x, a', s') := h
  simp only [oS, pM] at h'
  obtain ⟨rfl, rfl, rfl⟩ := h'
  exact hQ _ _ _ ⟨rfl, ρ, hle0, hA, hR⟩
 | cons o l ih =>
  intro k hops ρ0 ρ s w a ca x a' s' hle0 hR hA rd hrd h hQ
  have h' : ((op1 E ops o).run self a s).bind (seqOn (opsL E ops l) self) = some (x, a', s') := h
  simp only [oI, Prod.exists] at h'
  obtain ⟨x1, a1, s1, h1, h2⟩ := h'
  simp only [List.length_cons, List.range'_succ]
  rw [wpOpsIn_cons]
  have hk : ops[k]? = some o := by simpa using hops 0 o (by simp)
  refine op1_sim hE hs hk hR hA h1 hrd (fun hx ρ' ca' w' hle hA' hR' => ?_) (fun hx e ca' w' hxs => ?_)
  · subst hx
    have h2' : (opsL E ops l).run self a1 s1 = some (x, a', s') := h2
    exact ih (k + 1) (fun j o' hj => by have := hops (j + 1) o' (by simpa using hj); rw [show k + 1 + j = k + (j + 1) by omega]; exact this) (Rho.le_trans hle0 hle) hR' hA' (fun e => hrd ((op1_round h1).symm.trans e)) h2' hQ
  · have h2' : some (x1, a1, s1) = some (x, a', s') := by cases x1 <;> first | exact absurd rfl hx | exact h2
    simp only [oS, pM] at h2'
    obtain ⟨rfl, rfl, rfl⟩ := h2'
    exact hQ _ _ _ (hxs.mono hle0)
variable {w0 : Base} {i3 i4 B0 B1 : Nat} {ops3 ops4 : Array Oper} {on oe : Oper} {rest3 rest4 : List Oper} {c : Operand} {Z : Code} {ti : Tmp}
theorem mloop_sim (hE : EnvOk P E) (hs : EVSim P E self) (hl : EVLoc self) (h3 : ops3.toList = on :: rest3) (hon : on.op = .next (.tmp ti) false) (hog : on.guard = none) (h4 : ops4.toList = oe :: rest4) (hoe : oe.op = .entry (.tmp ti)) (heg : oe.guard = none)
 {es : List ME} {clock b bi r cr sh sz : Nat} (hold : ∀ e ∈ es, e.born < clock) (hnd : (es.map (·.born)).Nodup) {Inv : Array Nat → Ac → St → Prop} {Out : X → Ac → St → Prop}
 (hinv : ∀ seen a s, Inv seen a s → a.tmps.get ti = some (.ptr bi 0) ∧ s.heap.get b = some (.map es clock) ∧ a.round = none)
 (hput : ∀ seen a s (e : ME) a1 a2, Inv seen a s → (putF on.dst).run a (.tuple [.bool true, e.k, e.v]) = some a1 → (opsL E ops3 rest3).run self a1 s = some (.norm, a2, s) → a2.tmps.get ti = some (.ptr bi 0))
 (hend : ∀ seen a s, Inv seen a s → (∀ e ∈ es, seen.contains e.born = true) → REnd E self ops3 on.dst rest3 c B0 Out a s)
 (hstep : ∀ seen a s e, Inv seen a s → e ∈ es → seen.contains e.born = false → RStep E self ops3 ops4 on.dst oe.dst rest3 rest4 c B1 Z (Inv (seen.push e.born)) Out e a s)
 {ρ0 : Rho} : ∀ (m : Nat) {ρ : Rho} {s : St} {w : World} {a : Ac} {ca : Act} {seen : Array Nat}, (es.filter fun e => !seen.contains e.born).length < m → ρ0.le ρ → Rel E w0 ρ s w → Spare w0 ρ s r → ARel ρ a ca →
  ρ bi = some (r, 0, 1) → ρ b = some (cr, sh, sz) → w.heap[r]? = some (.mapIter (some cr) clock seen clock) → Inv seen a s →
  Code.roundsIn (fenceAt none) 0 P ((Code.region i3 ops3 false).seq ((Code.cond c .skip (.exit B0)).seq (Code.block B1 ((Code.region i4 ops4 false).seq Z))))
   (fun e ca' w' => ∃ x a' s', Out x a' s' ∧ x ≠ .norm ∧ XSim E w0 ρ0 a' s' x e ca' w') m ca w := by
 intro m
 induction m with
 | zero => intro ρ s w a ca seen hm; omega
 | succ m ih =>
  intro ρ s w a ca seen hm hle hR hS hA hbi hb hr hI
  obtain ⟨hti, hmap, hrd⟩ := hinv _ _ _ hI
  have ht : ca.eval (.tmp ti) = .pointer (some ⟨r, 0, none⟩) := by
   have := hA.tmp ti _ hti
   show ca.tmps.getD ti undef = _
   generalize ca.tmps.getD ti undef = cv at this
   cases this with
   | ptr h =>
    rw [hbi] at h
    simp only [oS, pM] at h
    obtain ⟨rfl, rfl, rfl⟩ := h
    rfl
  have hlen3 : ops3.size = rest3.length + 1 := by rw [← Array.length_toList, h3]; rfl
  have hlen4 : ops4.size = rest4.length + 1 := by rw [← Array.length_toList, h4]; rfl
  have hi3 : ops3[0]? = some on := by rw [← Array.getElem?_toList, h3]; rfl
  have hi4 : ops4[0]? = some oe := by rw [← Array.getElem?_toList, h4]; rfl
  have hj3 : ∀ j o, rest3[j]? = some o → ops3[1 + j]? = some o := fun j o h => by rw [← Array.getElem?_toList, h3, Nat.add_comm]; exact h
  have hj4 : ∀ j o, rest4[j]? = some o → ops4[1 + j]? = some o := fun j o h => by rw [← Array.getElem?_toList, h4, Nat.add_comm]; exact h
  rw [roundsIn_succ]
  refine wpIn_seq (wpIn_region ?_)
  rw [hlen3, List.range_eq_range', List.range'_succ, wpOpsIn_cons]
  rcases next_sim (P := P) hR hS hmap hb hr hold on.type with ⟨hall, hrun⟩ | ⟨e, he, hns, ck, cv, w1, hk, hv, hrun, hR1, hr1⟩
  · obtain ⟨a1, a2, p1, p2, p3, p4⟩ := hend _ _ _ hI hall
    refine hand_op hi3 hog (fun _ h => by rw [hon] at h; cases h) (v := .tuple #[.bool false]) (w' := w) ?_ ?_
    · simp only [execOp, hon, ht]
      rw [run_bind_ok hrun]
      rfl
    have hA1 := (put_sim hA p1 (.tuple (.cons (.bool false) .nil))).1
    refine opsL_simQ hE hs rest3 1 hj3 (Rho.le_refl ρ) hR hA1 (fun _ => rfl) p2 fun ee ca1 w1 hx => ?_
    obtain ⟨rfl, ρ1, hle1, hA2, hR2⟩ := hx
    refine wpIn_seq ?_
    have hc := evO_sim hR2 hA2 (x := c) p3
    generalize hcc : ca1.eval c = cc at hc
    cases hc
    exact wpIn_cond_false hcc (wpIn_exit ⟨.exit B0, a2, s, p4, by simp, rfl, ρ1, Rho.le_trans hle hle1, hA2, hR2⟩)
  · obtain ⟨a1, a2, a3, a4, s4, x, a5, s5, p1, p2, p3, p4, p5, p6, p7, p8⟩ := hstep _ _ _ e hI he hns
    refine hand_op hi3 hog (fun _ h => by rw [hon] at h; cases h) (v := .tuple #[.bool true, ck, cv]) (w' := w1) ?_ ?_
    · simp only [execOp, hon, ht]
      rw [run_bind_ok hrun]
      rfl
    have hr1lt : r < w1.heap.size := (Array.getElem?_eq_some_iff.1 hr1).1
    have hRw := hR1.spareIn hS hr1lt
    have hA1 := (put_sim hA p1 (.tuple (.cons (.bool true) (.cons hk (.cons hv .nil))))).1
    refine opsL_simQ hE hs rest3 1 hj3 (Rho.le_refl ρ) hRw hA1 (fun _ => rfl) p2 fun ee ca1 w2 hx => ?_
    obtain ⟨rfl, ρ2, hle2, hA2, hR2⟩ := hx
    refine wpIn_seq ?_
    have hc := evO_sim hR2 hA2 (x := c) p3
    generalize hcc : ca1.eval c = cc at hc
    cases hc
    refine wpIn_cond_true hcc (wpIn_skip ?_)
    have hr2 : w2.heap[r]? = some (.mapIter (some cr) clock (seen.push e.born) clock) := (hR2.below.block r (.inr rfl)).trans hr1
    have ht2 : ca1.eval (.tmp ti) = .pointer (some ⟨r, 0, none⟩) := by
     have := hA2.tmp ti _ (hput _ _ _ _ _ _ hI p1 p2)
     show ca1.tmps.getD ti undef = _
     generalize ca1.tmps.getD ti undef = cv at this
     cases this with
     | ptr h =>
      rw [hle2 _ _ hbi] at h
      simp only [oS, pM] at h
      obtain ⟨rfl, rfl, rfl⟩ := h
      rfl
    refine wpIn_block (wpIn_seq (wpIn_region ?_))
    rw [hlen4, List.range_eq_range', List.range'_succ, wpOpsIn_cons]
    obtain ⟨ck2, cv2, hk2, hv2, hrun2⟩ := entry_sim (P := P) hR2 hmap (hle2 _ _ hb) he hr2 hnd
    refine hand_op hi4 heg (fun _ h => by rw [hoe] at h; cases h) (v := .tuple #[ck2, cv2]) (w' := w2) ?_ ?_
    · simp only [execOp, hoe, ht2]
      rw [run_bind_ok hrun2]
      rfl
    have hA3 := (put_sim hA2 p4 (.tuple (.cons hk2 (.cons hv2 .nil)))).1
    refine opsL_simQ hE hs rest4 1 hj4 (Rho.le_refl ρ2) hR2 hA3 (fun _ => rfl) p5 fun ee ca3 w3 hx => ?_
    obtain ⟨rfl, ρ3, hle3, hA4, hR4⟩ := hx
    have hrd4 : Rnd ρ3 a4.round none := by
     rw [opsL_round _ p5, putF_round p4, opsL_round _ p2, putF_round p1, hrd]
     exact rfl
    refine wpIn_mono (comp_sim hE hs hl Z hR4 hA4 hrd4 p6) fun ee ca5 w5 hx => ?_
    have hfin : ∀ ρ5, ρ3.le ρ5 → ARel ρ5 a5 ca5 → Rel E (w0.with w1 r hr1lt hR1.below) ρ5 s5 w5 → (x = .norm ∨ x = .exit B1) →
     Code.roundsIn (fenceAt none) 0 P ((Code.region i3 ops3 false).seq ((Code.cond c .skip (.exit B0)).seq (Code.block B1 ((Code.region i4 ops4 false).seq Z))))
      (fun e ca' w' => ∃ x a' s', Out x a' s' ∧ x ≠ .norm ∧ XSim E w0 ρ0 a' s' x e ca' w') m ca5 w5 := fun ρ5 hle5 hA5 hR5 hx => by
     obtain ⟨q1, q2, q3⟩ := Rel.spareOut (hr := fun _ => True) hS.prot hR5
     have hle' : ρ.le ρ5 := Rho.le_trans hle2 (Rho.le_trans hle3 hle5)
     exact ih (by have := left_less he hns; omega) (Rho.le_trans hle hle') q1 q2 hA5 (hle' _ _ hbi) (hle' _ _ hb) (q3.trans hr1) (p7 hx)
    cases x with
    | norm =>
     obtain ⟨rfl, ρ5, hle5, hA5, hR5⟩ := hx
     exact hfin ρ5 hle5 hA5 hR5 (.inl rfl)
    | exit id =>
     obtain ⟨rfl, ρ5, hle5, hA5, hR5⟩ := hx
     by_cases hid : id = B1
     · subst hid
       simp only [Exit.inBlock, if_true]
       exact hfin ρ5 hle5 hA5 hR5 (.inr rfl)
     · simp only [Exit.inBlock, if_neg hid]
       obtain ⟨q1, _, _⟩ := Rel.spareOut (hr := fun _ => True) hS.prot hR5
       exact ⟨.exit id, a5, s5, p8 (by simp) (by simpa using hid), by simp, rfl, ρ5, Rho.le_trans hle (Rho.le_trans hle2 (Rho.le_trans hle3 hle5)), hA5, q1⟩
    | ret =>
     obtain ⟨rfl, ρ5, hle5, hA5, hR5⟩ := hx
     obtain ⟨q1, _, _⟩ := Rel.spareOut (hr := fun _ => True) hS.prot hR5
     exact ⟨.ret, a5, s5, p8 (by simp) (by simp), by simp, rfl, ρ5, Rho.le_trans hle (Rho.le_trans hle2 (Rho.le_trans hle3 hle5)), hA5, q1⟩
    | pan v =>
     obtain ⟨ρ5, cv5, rfl, hle5, hv5, hA5, hR5⟩ := hx
     obtain ⟨q1, _, _⟩ := Rel.spareOut (hr := fun _ => True) hS.prot hR5
     exact ⟨.pan v, a5, s5, p8 (by simp) (by simp), by simp, ρ5, cv5, rfl, Rho.le_trans hle (Rho.le_trans hle2 (Rho.le_trans hle3 hle5)), hv5, hA5, q1⟩
end
end Go.Proofs.Ytginkdeicmdmaaa.Ev
namespace Go.Proofs.Ytginkdeicmdmaaa.Ev
open Go.RowKit
section
variable {E : Env} {self : EV}
def capN (a : Ac) (s : St) : Rs := match a.defers, a.round with
 | [], none => some (.ret (.agg a.n a.tmps), s)
 | _, _ => none
def Kcap : Kt := { norm := capN, ret := fun _ _ => none, exit := fun _ _ _ => none, pan := fun _ _ _ => none }
theorem capN_inv {a : Ac} {s s' : St} {n : Nat} {T : Tr V} (h : capN a s = some (.ret (.agg n T), s')) : a = { tmps := T, n := n, defers := [], round := none } ∧ s = s' := by
 unfold capN at h
 split at h
 · rename_i h1 h2
   simp only [oS, pM, En.ret.injEq, V.agg.injEq] at h
   obtain ⟨⟨rfl, rfl⟩, rfl⟩ := h
   obtain ⟨t, n, ds, r⟩ := a
   simp only at h1 h2
   subst h1; subst h2
   exact ⟨rfl, rfl⟩
 · cases h
theorem kcap {RL : List Nat} {d : D} {c : Code} {a b : Ac} {s s' : St} {n : Nat} {T : Tr V} (hd : isOf d c) (hab : ALe a b) (e : dr E self RL rounds d Kcap a s = some (.ret (.agg n T), s')) :
 ∃ b', (comp E c).run self b s = some (.norm, b', s') ∧ ALe { tmps := T, n := n, defers := [], round := none } b' := by
 obtain ⟨x, b', s1, h1, a', h2, h3⟩ := dr_sound d c hd _ _ _ s hab e
 cases x with
 | norm =>
  obtain ⟨rfl, rfl⟩ := capN_inv h3
  exact ⟨b', h1, h2⟩
 | ret => cases h3
 | exit i => cases h3
 | pan v => cases h3
theorem kcap1 {ops : Array Oper} {o : Oper} {a b : Ac} {s s' : St} {n : Nat} {T : Tr V} (hab : ALe a b) (e : oneD E self ops o a s capN (fun _ _ _ => none) = some (.ret (.agg n T), s')) :
 ∃ b', (op1 E ops o).run self b s = some (.norm, b', s') ∧ ALe { tmps := T, n := n, defers := [], round := none } b' := by
 obtain ⟨x, b', s1, h1, h2⟩ := oneD_sound hab e
 rcases h2 with ⟨rfl, a', h3, h4⟩ | ⟨v, a', rfl, h3, h4⟩
 · obtain ⟨rfl, rfl⟩ := capN_inv h4
   exact ⟨b', h1, h3⟩
 · cases h4
theorem kcapL {ops : Array Oper} {l : List Oper} {a b : Ac} {s s' : St} {n : Nat} {T : Tr V} (hab : ALe a b) (e : opsK E self ops l capN (fun _ _ _ => none) a s = some (.ret (.agg n T), s')) :
 ∃ b', (opsL E ops l).run self b s = some (.norm, b', s') ∧ ALe { tmps := T, n := n, defers := [], round := none } b' := by
 obtain ⟨x, b', s1, h1, h2⟩ := opsK_sound l hab e
 rcases h2 with ⟨rfl, a', h3, h4⟩ | ⟨v, a', rfl, h3, h4⟩
 · obtain ⟨rfl, rfl⟩ := capN_inv h4
   exact ⟨b', h1, h3⟩
 · cases h4
theorem ARel.less {ρ : Rho} {a b : Ac} {ca : Act} (h : ARel ρ b ca) (hab : ALe a b) : ARel ρ a ca := ⟨h.n.trans hab.n.symm, fun t v ht => h.tmp t v (hab.tmps t v ht), by rw [hab.defers]; exact h.defers⟩
theorem put_le {a b : Ac} (hab : ALe a b) {d : Nat} (hd : Nat.blt d a.n = true) (v : V) : ∃ b', (putF (some d)).run b v = some b' ∧ ALe { a with tmps := a.tmps.set v d } b' := by
 have hb : Nat.blt d b.n = true := by rw [← hab.n]; exact hd
 refine ⟨{ b with tmps := (setP (bits d d)).run v b.tmps }, ?_, hab.n, hab.defers, hab.round, fun t u ht => ?_⟩
 · show putAt (setPC (bits d d)) d b v = _
   rw [putAt_eq, hb, cond_true]
 · show ((setP (bits d d)).run v b.tmps).get t = some u
   have ht' : (a.tmps.set v d).get t = some u := ht
   rw [setP_bits d d _ _ _ (Nat.le_refl _)]
   rw [Tr.get_set] at ht'
   by_cases e : t = d
   · rw [if_pos e] at ht' ⊢; exact ht'
   · rw [if_neg e] at ht' ⊢; exact hab.tmps t u ht'
end
end Go.Proofs.Ytginkdeicmdmaaa.Ev
