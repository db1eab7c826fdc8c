/-
  THE EVALUATOR AND ITS SOUNDNESS: what it says of a call holds of the call in the model, in whatever world, on whatever tape, part 4 of 4 (no condition).
-/
import Derived.Test.YtmeohejdafbodaaEv3
import Derived.Shelf.SlIter.Keys
import Derived.Shelf.SlIter.Sorted
import Derived.Shelf.SlIter.Nil
import Derived.RangeFuncGives
import Derived.Maps.Range
import Derived.Sort.KeysCollected
import Derived.Laws.AppendOwn
import Derived.Shelf.SortM.Plain
import Derived.Shelf.SortM.SortNone
import Derived.Maps.RangeRun
namespace Go.Proofs.Ytmeohejdafbodaa.Ev.Lg
open Go.Proofs.Ytmeohejdafbodaa.Ev
structure Same (s t : St) : Prop where
 next : t.next = s.next
 heap : t.heap = s.heap
theorem Same.refl (s : St) : Same s s := ⟨rfl, rfl⟩
def Loc {β : Type} (st : β → St) (up : β → St → β) (f : St → Option β) : Prop :=
 ∀ s r, f s = some r → (st r).on = s.on ∧ ∀ t, Same s t → ∃ t', f t = some (up r t') ∧ Same (st r) t' ∧ t'.on = t.on
abbrev LocP {α : Type} (f : St → Option (α × St)) : Prop := Loc Prod.snd upP f
abbrev LocS (f : St → Option St) : Prop := Loc id upS f
abbrev LocN (f : St → Option Nx) : Prop := Loc Nx.st Nx.up f
section
variable {α β γ : Type} {st : β → St} {up : β → St → β} {st1 : γ → St} {up1 : γ → St → γ}
theorem Loc.none : Loc st up fun _ => none := fun _ _ h => by cases h
theorem Loc.bindG (hup : ∀ r, up1 r (st1 r) = r) {f : St → Option γ} {g : γ → Option β} (hf : Loc st1 up1 f) (hg : ∀ r, Loc st up fun s => g (up1 r s)) : Loc st up fun s => (f s).bind g := by
 intro s r h
 simp only [oI] at h
 obtain ⟨q, h1, h2⟩ := h
 obtain ⟨o1, l1⟩ := hf s _ h1
 obtain ⟨o2, l2⟩ := hg q (st1 q) r (by simp only [hup]; exact h2)
 refine ⟨o2.trans o1, fun t hA => ?_⟩
 obtain ⟨t1, e1, A1, p1⟩ := l1 t hA
 obtain ⟨t2, e2, A2, p2⟩ := l2 t1 A1
 exact ⟨t2, by simp only [e1, oB]; exact e2, A2, p2.trans p1⟩
theorem Loc.bind {f : St → Option (α × St)} {g : α × St → Option β} (hf : LocP f) (hg : ∀ a, Loc st up fun s => g (a, s)) : Loc st up fun s => (f s).bind g :=
 Loc.bindG (up1 := upP) (fun _ => rfl) hf fun r => hg r.1
theorem Loc.bindS {f : St → Option St} {g : St → Option β} (hf : LocS f) (hg : Loc st up g) : Loc st up fun s => (f s).bind g :=
 Loc.bindG (up1 := upS) (fun _ => rfl) hf fun _ => hg
theorem Loc.opt {o : Option α} {g : α → St → Option β} (hg : ∀ a, Loc st up (g a)) : Loc st up fun s => o.bind fun a => g a s := by
 cases o with
 | none => exact Loc.none
 | some a => exact hg a
theorem Loc.cond {c : Bool} {f g : St → Option β} (hf : Loc st up f) (hg : Loc st up g) : Loc st up fun s => bif c then f s else g s := by
 cases c
 · exact hg
 · exact hf
theorem Loc.of_eq {f g : St → Option β} (h : ∀ s, f s = g s) (hg : Loc st up g) : Loc st up f := by
 rw [show f = g from funext h]; exact hg
theorem LocP.ret (a : α) : LocP fun s => some (a, s) := fun s r h => by
 simp only [oS] at h
 subst h
 exact ⟨rfl, fun t hA => ⟨t, rfl, hA, rfl⟩⟩
theorem LocS.ret : LocS fun s => some s := fun s r h => by
 simp only [oS] at h
 subst h
 exact ⟨rfl, fun t hA => ⟨t, rfl, hA, rfl⟩⟩
theorem LocN.ret (v : V) : LocN fun s => some (.val v s) := fun s r h => by
 simp only [oS] at h
 subst h
 exact ⟨rfl, fun t hA => ⟨t, rfl, hA, rfl⟩⟩
theorem LocN.vS {f : St → Option (V × St)} (h : LocP f) : LocN fun s => vS (f s) := Loc.bind (g := fun p => some (Nx.val p.1 p.2)) h fun _ => LocN.ret _
theorem LocN.uS {f : St → Option St} (h : LocS f) : LocN fun s => uS (f s) := Loc.bindS (g := fun s => some (Nx.val (.tuple []) s)) h (LocN.ret _)
theorem LocN.pS (o : Option V) : LocN fun s => pS o s := Loc.opt (g := fun v s => some (Nx.val v s)) fun _ => LocN.ret _
end
theorem note_on' (s : St) (b lo hi : Nat) (x : Bool) : (s.note b lo hi x).on = s.on := by unfold St.note; cases s; rename_i h n on l; cases on <;> rfl
theorem qjj {s t : St} (h : Same s t) (b lo hi : Nat) (x : Bool) : Same (s.note b lo hi x) (t.note b lo hi x) := ⟨by rw [qct, qct]; exact h.next, by rw [qaf, qaf]; exact h.heap⟩
theorem LocP.read {α : Type} {b lo hi : Nat} (k : Option O → Option α) : LocP fun s => (k (s.heap.get b)).bind fun a => some (a, s.note b lo hi false) := by
 intro s r h
 simp only [oI, oS] at h
 obtain ⟨a, ha, rfl⟩ := h
 refine ⟨note_on' .., fun t hA => ⟨t.note b lo hi false, ?_, qjj hA .., note_on' ..⟩⟩
 simp only [hA.heap, ha, oB]
theorem put_same {s t : St} (h : Same s t) (b : Nat) (o : O) : Same (s.put b o) (t.put b o) := ⟨h.next, by show t.heap.setS o b = s.heap.setS o b; rw [h.heap]⟩
theorem LocS.write {b lo hi : Nat} (k : Option O → Option O) : LocS fun s => (k (s.heap.get b)).bind fun o => some ((s.note b lo hi true).put b o) := by
 intro s r h
 simp only [oI, oS] at h
 obtain ⟨o, ho, rfl⟩ := h
 refine ⟨note_on' .., fun t hA => ⟨(t.note b lo hi true).put b o, ?_, put_same (qjj hA ..) .., note_on' ..⟩⟩
 simp only [hA.heap, ho, oB]
theorem LocS.setO (b : Nat) (o : O) : LocS fun s => some (setO s b o) := fun s r h => by
 simp only [oS] at h
 subst h
 exact ⟨note_on' .., fun t hA => ⟨Ev.setO t b o, rfl, put_same (qjj hA ..) .., note_on' ..⟩⟩
theorem nw_same {s t : St} (h : Same s t) (o : O) : Same (nw s o) (nw t o) := by
 unfold nw
 have hp := put_same (qjj h s.next 0 big true) s.next o
 rw [h.next]
 exact ⟨rfl, hp.heap⟩
theorem LocP.nw {α : Type} (k : Nat → α) (o : Nat → O) : LocP fun s => some (k s.next, nw s (o s.next)) := fun s r h => by
 simp only [oS] at h
 subst h
 exact ⟨note_on' .., fun t hA => ⟨Ev.nw t (o s.next), by simp only [hA.next], nw_same hA _, note_on' ..⟩⟩
theorem LocN.nw (k : Nat → V) (o : Nat → O) : LocN fun s => some (.val (k s.next) (nw s (o s.next))) :=
 Loc.of_eq (fun _ => rfl) (LocN.vS (LocP.nw k o))
theorem loc_ldK (b off k : Nat) : LocP fun s => ldK s b off k :=
 Loc.of_eq (fun s => by
  unfold ldK
  split
  · rename_i e esz n ro c h
    cases hc : (Nat.ble (off + k) (esz * n) && Nat.blt (esz * n) big)
    · rw [h]; simp only [hc]; rfl
    · rw [h]; simp only [hc, cond_true]
  · rename_i h
    cases ho : s.heap.get b with
    | none => rfl
    | some o => cases o <;> first | rfl | exact absurd ho (h _ _ _ _ _))
  (LocP.read (b := b) (lo := off) (hi := off + k) fun o => match o with
   | some (.cells _ esz n _ c) => bif Nat.ble (off + k) (esz * n) && Nat.blt (esz * n) big then qff c esz off k else none
   | _ => none)
theorem loc_ld (b off : Nat) : LocP fun s => ld s b off :=
 Loc.of_eq (fun s => by
  unfold ld
  split
  · rename_i e esz n ro c h
    cases hc : (Nat.blt off (esz * n) && Nat.blt (esz * n) big)
    · rw [h]; simp only [hc]; rfl
    · rw [h]; simp only [hc, cond_true]
      cases c.get (off / esz) with
      | none => rfl
      | some t => simp only [oB]
  · rename_i h
    cases ho : s.heap.get b with
    | none => rfl
    | some o => cases o <;> first | rfl | exact absurd ho (h _ _ _ _ _))
  (LocP.read (b := b) (lo := off) (hi := off + 1) fun o => match o with
   | some (.cells _ esz n _ c) => bif Nat.blt off (esz * n) && Nat.blt (esz * n) big then (c.get (off / esz)).bind fun t => t.get (off % esz) else none
   | _ => none)
theorem loc_getO (b : Nat) : LocP fun s => qgb s b := LocP.read (b := b) (lo := 0) (hi := big) fun o => o
theorem loc_sizeB (b : Nat) : LocP fun s => qlg s b :=
 Loc.of_eq (fun s => by
  unfold qlg
  split
  · rename_i e esz n ro c h
    cases hc : (Nat.blt (esz * n) big)
    · rw [h]; simp only [hc]; rfl
    · rw [h]; simp only [hc, cond_true, oB]
  · rename_i h
    cases ho : s.heap.get b with
    | none => rfl
    | some o => cases o <;> first | rfl | exact absurd ho (h _ _ _ _ _))
  (LocP.read (b := b) (lo := big - 1) (hi := big) fun o => match o with
   | some (.cells _ esz n _ _) => bif Nat.blt (esz * n) big then some (esz * n) else none
   | _ => none)
theorem loc_stK (b off k : Nat) (t : Tr V) : LocS fun s => stK s b off k t :=
 Loc.of_eq (fun s => by
  unfold stK
  split
  · rename_i e esz n ro c h
    cases hc : (Nat.ble (off + k) (esz * n) && Nat.blt (esz * n) big && !ro)
    · rw [h]; simp only [hc]; rfl
    · rw [h]; simp only [hc, cond_true]
      cases qdx c esz off k t <;> rfl
  · rename_i h
    cases ho : s.heap.get b with
    | none => rfl
    | some o => cases o <;> first | rfl | exact absurd ho (h _ _ _ _ _))
  (LocS.write (b := b) (lo := off) (hi := off + k) fun o => match o with
   | some (.cells e esz n ro c) => bif Nat.ble (off + k) (esz * n) && Nat.blt (esz * n) big && !ro then (qdx c esz off k t).bind fun c => some (.cells e esz n false c) else none
   | _ => none)
theorem loc_ldN (b k : Nat) : ∀ (n off : Nat), LocP fun s => ldN b k n off s
 | 0, _ => LocP.ret []
 | n + 1, off => by
  unfold ldN
  exact Loc.bind (loc_ldK b off k) fun a => by
   dsimp only
   exact Loc.bind (loc_ldN b k n (off + k)) fun _ => by dsimp only; exact LocP.ret _
theorem loc_stN (b k : Nat) : ∀ (l : List (Tr V)) (off : Nat), LocS fun s => stN b k l off s
 | [], _ => LocS.ret
 | t :: l, off => Loc.bindS (g := fun s => stN b k l (off + k) s) (loc_stK b off k t) (loc_stN b k l (off + k))
theorem loc_loadV (E : Env) (t : TypeId) (b off : Nat) : LocP fun s => qle E t b off s := by
 unfold qle
 refine Loc.opt fun g => Loc.cond ?_ (loc_ld b off)
 refine Loc.opt fun n => Loc.bind (loc_ldK b off n) fun _ => by dsimp only; exact LocP.ret _
theorem loc_storeV (E : Env) (t : TypeId) (b off : Nat) (v : V) : LocS fun s => qic E t b off v s := by
 unfold qic
 exact Loc.opt fun n => Loc.cond (loc_stK b off n _) Loc.none
theorem loc_sliceV (E : Env) (t : TypeId) (x : V) (lo hi mx : Option V) : LocP fun s => qdk E t x lo hi mx s := by
 unfold qdk
 refine Loc.opt fun d => ?_
 cases d <;> try exact Loc.none
 case string => cases x <;> cases mx <;> first | exact Loc.none | exact Loc.opt fun _ => LocP.ret _
 case array =>
  cases x <;> try exact Loc.none
  exact Loc.opt fun _ => Loc.opt fun _ => LocP.ret _
 case slice =>
  cases x <;> try exact Loc.none
  case slice => exact Loc.opt fun _ => Loc.opt fun _ => LocP.ret _
  case oslice b off len z =>
   refine Loc.opt fun z' => Loc.cond ?_ Loc.none
   refine Loc.bind (loc_sizeB b) fun k => ?_
   dsimp only
   refine Loc.opt fun p => ?_
   cases mx with
   | some _ => exact LocP.ret _
   | none => exact Loc.cond (LocP.ret _) (Loc.cond (LocP.ret _) Loc.none)
  case eslice => exact Loc.opt fun _ => Loc.opt fun _ => LocP.ret _
  case nilslice => exact Loc.opt fun _ => Loc.opt fun _ => LocP.ret _
  case list z l =>
   refine Loc.opt fun z' => ?_
   cases mx with
   | some _ => exact Loc.none
   | none => exact Loc.cond (Loc.opt fun _ => LocP.ret _) Loc.none
theorem loc_firstV (size n : Nat) (x : V) : LocP fun s => qb7 size n x s := by
 cases x <;> try exact Loc.none
 case str => exact Loc.cond (LocP.ret _) Loc.none
 case slice => exact loc_ldN _ _ _ _
 case oslice => exact loc_ldN _ _ _ _
 case eslice => exact Loc.cond (LocP.ret _) Loc.none
 case nilslice => exact Loc.cond (LocP.ret _) Loc.none
 case list => exact Loc.cond (LocP.ret _) Loc.none
theorem loc_growV (elem : TypeId) (size n b off len : Nat) (l : List (Tr V)) : LocP fun s => qhy elem size n b off len l s := by
 intro s r h
 unfold qhy at h
 simp only [qd7] at h
 split at h
 · rename_i e esz m ro c hb
   cases h1 : (ro || !Nat.beq e elem) with
   | true => rw [h1] at h; cases h
   | false =>
   rw [h1] at h
   simp only [cond_false] at h
   cases h2 : (Nat.beq esz size && Nat.beq off 0 && Nat.beq m len && Nat.blt (esz * m) big) with
   | true =>
    rw [h2] at h
    simp only [cond_true] at h
    have hl : LocP fun s => some (V.oslice s.next 0 (len + n) size, nw (setO s b .dead) (.cells elem size (len + n) false (addL c l len))) := by
     refine Loc.of_eq (g := fun s => ((fun s => some (setO s b .dead)) s).bind fun s => some (V.oslice s.next 0 (len + n) size, nw s (.cells elem size (len + n) false (addL c l len)))) (fun s => ?_) (Loc.bindS (LocS.setO b .dead) (LocP.nw (fun k => V.oslice k 0 (len + n) size) fun _ => _))
     simp only [oB]
     have : (setO s b .dead).next = s.next := by show (s.note b 0 big true).next = _; unfold St.note; cases s.on <;> rfl
     rw [this]
    obtain ⟨g1, l1⟩ := hl s r h
    refine ⟨g1, fun t hA => ?_⟩
    obtain ⟨t', e1, A1⟩ := l1 t hA
    refine ⟨t', ?_, A1⟩
    unfold qhy
    simp only [qd7]
    rw [hA.heap, hb]
    simp only [h1, h2, cond_true, cond_false]
    exact e1
   | false =>
    rw [h2] at h
    simp only [cond_false] at h
    cases h3 : (Nat.beq esz size && Nat.beq (off % size) 0) with
    | false => rw [h3] at h; cases h
    | true =>
    rw [h3] at h
    simp only [cond_true] at h
    have hl : LocP fun s => (ldN b size len off s).bind fun q => some (V.oslice q.2.next 0 (len + n) size, qaj (setO q.2 b .dead) elem size (q.1 ++ l)) := by
     refine Loc.bind (loc_ldN b size len off) fun a => ?_
     refine Loc.of_eq (g := fun s => ((fun s => some (setO s b .dead)) s).bind fun s => some (V.oslice s.next 0 (len + n) size, qaj s elem size (a ++ l))) (fun s => ?_) (Loc.bindS (LocS.setO b .dead) (LocP.nw (fun k => V.oslice k 0 (len + n) size) fun _ => _))
     simp only [oB]
     have : (setO s b .dead).next = s.next := by show (s.note b 0 big true).next = _; unfold St.note; cases s.on <;> rfl
     rw [this]
    obtain ⟨g1, l1⟩ := hl s r h
    refine ⟨g1, fun t hA => ?_⟩
    obtain ⟨t', e1, A1⟩ := l1 t hA
    refine ⟨t', ?_, A1⟩
    unfold qhy
    simp only [qd7]
    rw [hA.heap, hb]
    simp only [h1, h2, h3, cond_false, cond_true]
    exact e1
 · cases h
theorem loc_appendV (elem : TypeId) (size n : Nat) (x y : V) : LocP fun s => qd8 elem size n x y s := by
 unfold qd8
 refine Loc.bind (loc_firstV size n y) fun l => ?_
 dsimp only
 cases x <;> try exact Loc.none
 case slice b off len cap =>
  refine Loc.cond ?_ ?_
  · exact Loc.bindS (loc_stN b size l _) (LocP.ret _)
  · exact Loc.bind (loc_firstV size len _) fun a => by dsimp only; exact LocP.nw (fun k => V.oslice k 0 (len + n) size) fun _ => _
 case oslice b off len z =>
  refine Loc.cond ?_ Loc.none
  refine Loc.bind (loc_sizeB b) fun a => ?_
  dsimp only
  refine Loc.cond ?_ (loc_growV _ _ _ _ _ _ _)
  exact Loc.bindS (loc_stN b size l _) (LocP.ret _)
 case eslice => exact Loc.cond (LocP.ret _) Loc.none
 case nilslice => exact Loc.cond (LocP.ret _) (LocP.nw (fun k => V.oslice k 0 n size) fun _ => _)
theorem loc_lookupV (E : Env) (t : TypeId) (x k : V) (ok : Bool) : LocP fun s => qcc E t x k ok s := by
 unfold qcc
 refine Loc.opt fun d => ?_
 cases d <;> try exact Loc.none
 rename_i kt et
 refine Loc.opt fun d => Loc.cond ?_ Loc.none
 refine Loc.bind (f := fun s => match x with
  | .nilmap => some ([], s)
  | .map r => (qgb s r).bind fun p => match p.1 with
   | .map es _ => some (es, p.2)
   | _ => none
  | _ => none) ?_ fun es => ?_
 · cases x <;> try exact Loc.none
   · rename_i r
     refine Loc.bind (loc_getO r) fun o => ?_
     dsimp only
     cases o <;> first | exact Loc.none | exact LocP.ret _
   · exact LocP.ret _
 · dsimp only
   refine Loc.opt fun q => ?_
   cases q with
   | none => exact Loc.opt fun z => LocP.ret _
   | some q => exact LocP.ret _
theorem loc_updateV (E : Env) (t : TypeId) (m k v : V) : LocS fun s => qbe E t m k v s := by
 unfold qbe
 refine Loc.opt fun d => ?_
 cases d <;> try exact Loc.none
 rename_i kt et
 refine Loc.opt fun d => Loc.cond ?_ Loc.none
 cases m <;> try exact Loc.none
 rename_i r
 refine Loc.bind (loc_getO r) fun o => ?_
 dsimp only
 cases o <;> try exact Loc.none
 rename_i es clock
 refine Loc.opt fun q => ?_
 cases q with
 | none => exact LocS.setO _ _
 | some q => exact LocS.setO _ _
theorem loc_setRet {α : Type} (r : Nat) (o : O) (a : α) : LocP fun s => some (a, setO s r o) :=
 Loc.of_eq (g := fun s => ((fun s => some (setO s r o)) s).bind fun s => some (a, s)) (fun _ => rfl) (Loc.bindS (LocS.setO r o) (LocP.ret _))
theorem loc_entryV (E : Env) (t : TypeId) (m k : V) : LocP fun s => qi1 E t m k s := by
 unfold qi1
 refine Loc.opt fun d => ?_
 cases d <;> try exact Loc.none
 rename_i kt et
 refine Loc.opt fun d => Loc.cond ?_ Loc.none
 cases m <;> try exact Loc.none
 rename_i r
 refine Loc.bind (loc_getO r) fun o => ?_
 dsimp only
 cases o <;> try exact Loc.none
 rename_i es clock
 refine Loc.opt fun q => ?_
 cases q with
 | none => exact Loc.opt fun z => loc_setRet _ _ _
 | some q => exact Loc.opt fun z => loc_setRet _ _ _
theorem loc_entryStoreV (m st v : V) : LocS fun s => qbn m st v s := by
 unfold qbn
 cases m <;> try exact Loc.none
 cases st <;> try exact Loc.none
 rename_i r kk nn
 cases nn <;> try exact Loc.none
 refine Loc.bind (loc_getO r) fun o => ?_
 dsimp only
 cases o <;> try exact Loc.none
 exact Loc.opt fun q => LocS.setO _ _
theorem loc_deleteV (E : Env) (t : TypeId) (m k : V) : LocS fun s => qdc E t m k s := by
 unfold qdc
 refine Loc.opt fun d => ?_
 cases d <;> try exact Loc.none
 rename_i kt et
 refine Loc.opt fun d => Loc.cond ?_ Loc.none
 cases m <;> try exact Loc.none
 · rename_i r
   refine Loc.bind (loc_getO r) fun o => ?_
   dsimp only
   cases o <;> try exact Loc.none
   rename_i es clock
   refine Loc.opt fun q => ?_
   cases q with
   | none => exact LocS.setO _ _
   | some q => exact LocS.setO _ _
 · exact LocS.ret
theorem loc_zerosAt (b off n : Nat) : LocP fun s => qan s b off n :=
 Loc.of_eq (fun s => by
  unfold qan
  split
  · rename_i e esz m ro c h
    cases hc : (Nat.beq esz 1 && Nat.ble (off + n) m && Nat.blt m big && Nat.blt 0 n && qe0 c)
    · rw [h]; simp only [hc]; rfl
    · rw [h]; simp only [hc, cond_true, oB]
  · rename_i h
    cases ho : s.heap.get b with
    | none => rfl
    | some o => cases o <;> first | rfl | exact absurd ho (h _ _ _ _ _))
  (LocP.read (b := b) (lo := off) (hi := off + n) fun o => match o with
   | some (.cells _ esz m _ c) => bif Nat.beq esz 1 && Nat.ble (off + n) m && Nat.blt m big && Nat.blt 0 n && qe0 c then some (V.str n 0) else none
   | _ => none)
theorem zerosAt_none {s t : St} {b off n : Nat} (h : qan s b off n = none) (hn : n = 0 ∨ t.heap.get b = s.heap.get b) : qan t b off n = none := by
 rcases hn with rfl | hb
 · unfold qan
   split
   · rw [show Nat.blt 0 0 = false from rfl, Bool.and_false, Bool.false_and]; rfl
   · rfl
 · unfold qan at h ⊢
   rw [hb]
   split
   · rename_i e esz m ro c hc
     rw [hc] at h
     simp only at h
     cases hx : (Nat.beq esz 1 && Nat.ble (off + n) m && Nat.blt m big && Nat.blt 0 n && qe0 c)
     · rfl
     · rw [hx] at h; cases h
   · rfl
theorem loc_bytes (b off l c n : Nat) : LocP fun s => qfp (qan s b off n) ((qb7 1 n (.slice b off l c) s).bind fun p => (qdi p.1).bind fun q => some (V.str q.1 q.2, p.2)) := by
 have hg : LocP fun s => (qb7 1 n (.slice b off l c) s).bind fun p => (qdi p.1).bind fun q => some (V.str q.1 q.2, p.2) := Loc.bind (loc_firstV 1 n _) fun a => by dsimp only; exact Loc.opt fun q => LocP.ret _
 intro s r h
 dsimp only at h
 cases hz : qan s b off n with
 | some q =>
  rw [hz] at h
  simp only [qfp, oS] at h
  subst h
  obtain ⟨g1, l1⟩ := loc_zerosAt b off n s _ hz
  refine ⟨g1, fun t hA => ?_⟩
  obtain ⟨t', e1, A1⟩ := l1 t hA
  have e1' : qan t b off n = some (upP q t') := e1
  exact ⟨t', by dsimp only; rw [e1']; rfl, A1⟩
 | none =>
  rw [hz] at h
  have h' : ((qb7 1 n (.slice b off l c) s).bind fun p => (qdi p.1).bind fun q => some (V.str q.1 q.2, p.2)) = some r := h
  obtain ⟨g1, l1⟩ := hg s r h'
  refine ⟨g1, fun t hA => ?_⟩
  obtain ⟨t', e1, A1⟩ := l1 t hA
  refine ⟨t', ?_, A1⟩
  have hno : qan t b off n = none := zerosAt_none hz (.inr (by rw [hA.heap]))
  dsimp only
  rw [hno]
  exact e1
theorem loc_sameV (b : Nat) : LocS fun s => sameV s b :=
 Loc.of_eq (fun s => by
  unfold sameV
  split
  · rename_i e esz m c h
    rw [h]; rfl
  · rename_i h
    cases ho : s.heap.get b with
    | none => rfl
    | some o =>
     cases o <;> try rfl
     rename_i e esz m ro c
     cases ro
     · exact absurd ho (h _ _ _ _)
     · rfl)
  (LocS.write (b := b) (lo := 0) (hi := big) fun o => match o with
   | some (.cells e esz m false c) => some (.cells e esz m false c)
   | _ => none)
theorem loc_liesV (E : Env) (u : TypeId) (b off : Nat) : LocS fun s => liesV E u b off s :=
 Loc.of_eq (g := fun s => (((match s.heap.get b with
  | some (.cells e esz m _ _) => (sizeT E e).bind fun z => bif Nat.beq z esz && Nat.blt off (esz * m) && Nat.blt (esz * m) big && qik e (off % esz) u E.lie then some () else none
  | _ => none : Option Unit)).bind fun a => some (a, s.note b off (off + 1) false)).bind fun p => some p.2) (fun s => by
  unfold liesV
  cases s.heap.get b with
  | none => rfl
  | some o =>
   cases o <;> try rfl
   rename_i e esz m ro c
   show (sizeT E e).bind _ = (((sizeT E e).bind _).bind _).bind _
   cases sizeT E e with
   | none => rfl
   | some z =>
    simp only [oB]
    cases (Nat.beq z esz && Nat.blt off (esz * m) && Nat.blt (esz * m) big && qik e (off % esz) u E.lie) <;> rfl)
  (Loc.bind (LocP.read (b := b) (lo := off) (hi := off + 1) fun o => match o with
   | some (.cells e esz m _ _) => (sizeT E e).bind fun z => bif Nat.beq z esz && Nat.blt off (esz * m) && Nat.blt (esz * m) big && qik e (off % esz) u E.lie then some () else none
   | _ => none) fun _ => LocS.ret)
theorem loc_liesB (E : Env) (u : TypeId) (b off n : Nat) : LocS fun s => qn7 E u b off n s :=
 Loc.of_eq (g := fun s => (((match s.heap.get b with
  | some (.cells e esz m false _) => (sizeT E e).bind fun z => bif Nat.beq e u && Nat.beq z 1 && Nat.beq esz 1 && Nat.ble (off + n) m && Nat.blt m big then some () else none
  | _ => none : Option Unit)).bind fun a => some (a, s.note b off (off + 1) false)).bind fun p => some p.2) (fun s => by
  unfold qn7
  cases s.heap.get b with
  | none => rfl
  | some o =>
   cases o <;> try rfl
   rename_i e esz m ro c
   cases ro <;> try rfl
   show (sizeT E e).bind _ = (((sizeT E e).bind _).bind _).bind _
   cases sizeT E e with
   | none => rfl
   | some z =>
    simp only [oB]
    cases (Nat.beq e u && Nat.beq z 1 && Nat.beq esz 1 && Nat.ble (off + n) m && Nat.blt m big) <;> rfl)
  (Loc.bind (LocP.read (b := b) (lo := off) (hi := off + 1) fun o => match o with
   | some (.cells e esz m false _) => (sizeT E e).bind fun z => bif Nat.beq e u && Nat.beq z 1 && Nat.beq esz 1 && Nat.ble (off + n) m && Nat.blt m big then some () else none
   | _ => none) fun _ => LocS.ret)
theorem loc_unsafeV (E : Env) (ds dd : TypeDesc) (x : V) : LocP fun s => qg7 E ds dd x s := by
 unfold qg7
 cases x <;> try exact Loc.none
 refine Loc.cond ?_ (Loc.cond ?_ Loc.none)
 · refine Loc.opt fun t => Loc.opt fun z => Loc.cond Loc.none ?_
   exact Loc.bindS (loc_liesV _ _ _ _) (LocP.ret _)
 · refine Loc.opt fun t => Loc.opt fun z => ?_
   exact Loc.bindS (loc_liesV _ _ _ _) (LocP.ret _)
theorem loc_convertV (E : Env) (src dst : TypeId) (x : V) : LocP fun s => qb8 E src dst x s := by
 unfold qb8
 refine Loc.opt fun ds => Loc.opt fun dd => Loc.cond (loc_unsafeV _ _ _ _) ?_
 have bytes : ∀ (x : V), LocP fun s => (match ds with
  | .slice e => (und E e).bind fun
   | .int .u8 => (lenV x).bind fun n => match x with
    | .str _ _ => none
    | .slice b off l c => qfp (qan s b off n) ((qb7 1 n (.slice b off l c) s).bind fun p => (qdi p.1).bind fun q => some (.str q.1 q.2, p.2))
    | x => (qb7 1 n x s).bind fun p => (qdi p.1).bind fun q => some (V.str q.1 q.2, p.2)
   | _ => none
  | _ => none) := by
  intro x
  cases ds <;> try exact Loc.none
  rename_i e
  refine Loc.opt fun d => ?_
  cases d <;> try exact Loc.none
  rename_i k
  cases k <;> try exact Loc.none
  refine Loc.opt fun n => ?_
  cases x <;> first
   | exact Loc.none
   | exact loc_bytes _ _ _ _ _
   | exact Loc.bind (loc_firstV 1 n _) fun a => by dsimp only; exact Loc.opt fun q => LocP.ret _
 cases dd <;> try (cases x <;> exact Loc.none)
 · cases x <;> first | exact Loc.none | exact LocP.ret _
 · cases x <;> first | exact LocP.ret _ | exact bytes _
 · cases x <;> try exact Loc.none
   · refine Loc.opt fun d => ?_
     cases d <;> try exact Loc.none
     rename_i k
     cases k <;> try exact Loc.none
     exact LocP.nw (fun k => V.oslice k 0 _ 1) fun _ => _
   · refine Loc.cond ?_ Loc.none
     refine Loc.opt fun d => ?_
     cases d <;> try exact Loc.none
     rename_i k
     cases k <;> try exact Loc.none
     exact Loc.bindS (loc_sameV _) (LocP.ret _)
theorem loc_lenAny (d : TypeDesc) (E : Env) (x : V) : LocN fun s => lenAny d E x s := by
 cases d <;> try exact Loc.none
 case array => exact LocN.ret _
 case pointer e =>
  refine Loc.opt fun d => ?_
  cases d <;> first | exact Loc.none | exact LocN.ret _
 case string => cases x <;> first | exact Loc.none | exact LocN.ret _
 case slice => cases x <;> first | exact Loc.none | exact LocN.ret _
 case map =>
  cases x <;> try exact Loc.none
  case nilmap => exact LocN.ret _
  case map r =>
   refine Loc.bind (loc_getO r) fun o => ?_
   dsimp only
   cases o <;> first | exact Loc.none | exact LocN.ret _
theorem loc_copyInto (size : Nat) (x : V) (n : Nat) (l : List (Tr V)) : LocN fun s => qhh size x n l s := by
 cases x <;> try exact Loc.none
 case slice => exact Loc.bindS (loc_stN _ size l _) (LocN.ret _)
 case oslice => exact Loc.bindS (loc_stN _ size l _) (LocN.ret _)
 case eslice => exact LocN.ret _
 case nilslice => exact LocN.ret _
theorem loc_extV (k : Nat) (args : List V) : LocN fun s => extV k args s := by
 unfold extV
 split
 · split
   · refine Loc.cond ?_ Loc.none
     split <;> exact LocN.ret _
   · exact Loc.none
 · split
   · rename_i t r
     refine Loc.bind (loc_getO r) fun o => ?_
     dsimp only
     cases o <;> first | exact Loc.none | exact LocN.nw (fun k => V.iface t (V.map k)) fun _ => _
   · exact Loc.none
 · split
   · exact Loc.cond (LocN.ret _) Loc.none
   · exact Loc.none
 · split
   · exact LocN.ret _
   · exact Loc.none
 · refine Loc.cond ?_ Loc.none
   split
   · exact Loc.cond (LocN.nw (fun k => V.oslice k 0 _ 1) fun _ => _) Loc.none
   · exact Loc.none
theorem LocN.enter (f : FuncId) (args : List V) : LocN fun s => some (.enter f args s) := fun s r h => by
 simp only [oS] at h
 subst h
 exact ⟨rfl, fun t hA => ⟨t, rfl, hA, rfl⟩⟩
theorem LocN.round (f : Nat) (args : List V) : LocN fun s => some (.round f args s) := fun s r h => by
 simp only [oS] at h
 subst h
 exact ⟨rfl, fun t hA => ⟨t, rfl, hA, rfl⟩⟩
theorem LocN.defer (d : AD) : LocN fun s => some (.defer d s) := fun s r h => by
 simp only [oS] at h
 subst h
 exact ⟨rfl, fun t hA => ⟨t, rfl, hA, rfl⟩⟩
theorem LocN.recover : LocN fun s => some (.recover s) := fun s r h => by
 simp only [oS] at h
 subst h
 exact ⟨rfl, fun t hA => ⟨t, rfl, hA, rfl⟩⟩
theorem LocN.pan (v : V) : LocN fun s => some (.pan v s) := fun s r h => by
 simp only [oS] at h
 subst h
 exact ⟨rfl, fun t hA => ⟨t, rfl, hA, rfl⟩⟩
theorem loc_callV (E : Env) (f : V) (args : List V) : LocN fun s => qeh E f args s := by
 unfold qeh
 cases f <;> try exact Loc.none
 case yield l => exact LocN.round _ _
 rename_i fn x y
 cases fn <;> try exact Loc.none
 rename_i g
 dsimp only
 cases E.ext.get g with
 | some k => exact loc_extV _ _
 | none => exact Loc.cond (LocN.enter _ _) Loc.none
theorem loc_extendAt (E : Env) (e : TypeId) (size bytes : Nat) (x y : V) : LocP fun s => qds E e size bytes x y s := by
 unfold qds
 cases x <;> try exact Loc.none
 exact Loc.opt fun n => Loc.cond (Loc.opt fun z => Loc.cond (LocP.nw (fun k => V.oslice k 0 n size) fun _ => _) Loc.none) Loc.none
theorem loc_builtinF (E : Env) (b : Builtin) (ts : List TypeId) (args : List Operand) (a : Ac) : LocN fun s => (qa4 E b ts args).run a s := by
 cases b <;> try exact Loc.none
 case append =>
  unfold qa4
  dsimp only
  split
  · refine Loc.opt fun q => Loc.opt fun d2 => Loc.cond ?_ (Loc.cond ?_ Loc.none)
    · refine Loc.opt fun vx => Loc.opt fun vy => Loc.opt fun n => Loc.opt fun m => Loc.cond ?_ Loc.none
      exact LocN.vS (loc_appendV _ _ _ _ _)
    · exact Loc.opt fun vx => Loc.opt fun vy => LocN.vS (loc_extendAt _ _ _ _ _ _)
  · exact Loc.none
 case cap =>
  unfold qa4
  dsimp only
  split
  · refine Loc.opt fun d => ?_
    cases d <;> try exact Loc.none
    refine Loc.opt fun v => ?_
    cases v <;> first | exact Loc.none | exact LocN.ret _
  · exact Loc.none
 case copy =>
  unfold qa4
  dsimp only
  split
  · refine Loc.opt fun q => Loc.opt fun vx => Loc.opt fun vy => Loc.opt fun m => Loc.opt fun k => ?_
    exact Loc.bind (loc_firstV _ _ _) fun l => by dsimp only; exact loc_copyInto _ _ _ _
  · exact Loc.none
 case delete =>
  unfold qa4
  dsimp only
  split
  · exact Loc.opt fun m => Loc.opt fun k => LocN.uS (loc_deleteV _ _ _ _)
  · exact Loc.none
 case len =>
  unfold qa4
  dsimp only
  split
  · exact Loc.opt fun d => Loc.opt fun v => loc_lenAny _ _ _
  · exact Loc.none
 case unsafeSliceData =>
  unfold qa4
  dsimp only
  split
  · refine Loc.opt fun v => ?_
    cases v <;> first | exact Loc.none | exact LocN.ret _ | exact Loc.cond (LocN.ret _) Loc.none
  · exact Loc.none
 case unsafeString =>
  unfold qa4
  dsimp only
  split
  · refine Loc.opt fun d => Loc.opt fun u => Loc.opt fun p => Loc.opt fun vn => Loc.opt fun n => ?_
    cases p <;> first | exact Loc.none | exact Loc.cond (LocN.ret _) Loc.none | skip
    refine Loc.cond (LocN.ret _) (Loc.cond ?_ Loc.none)
    refine Loc.bindS (loc_liesB _ _ _ _ _) ?_
    refine Loc.bind (loc_ldN _ 1 _ _) fun l => ?_
    dsimp only
    refine Loc.opt fun k => ?_
    exact Loc.of_eq (g := fun s => ((fun s => some (setO s _ .dead)) s).bind fun s => some (Nx.val (.str k.1 k.2) s)) (fun _ => rfl) (Loc.bindS (LocS.setO _ _) (LocN.ret _))
  · exact Loc.none
 case max =>
  unfold qa4
  dsimp only
  split
  · exact Loc.opt fun v => Loc.opt fun vs => LocN.pS _
  · exact Loc.none
 case min =>
  unfold qa4
  dsimp only
  split
  · exact Loc.opt fun v => Loc.opt fun vs => LocN.pS _
  · exact Loc.none
 case panic =>
  unfold qa4
  dsimp only
  split
  · refine Loc.opt fun v => ?_
    cases v <;> first | exact Loc.none | exact LocN.pan _
  · exact Loc.none
 case recover => exact LocN.recover
theorem loc_opF (E : Env) (op : Op) (a : Ac) : LocN fun s => (opF E op).run a s := by
 cases op <;> try exact Loc.none
 case move => exact LocN.pS _
 case assign => exact LocN.pS _
 case pick =>
  refine Loc.opt fun v => ?_
  cases v <;> try exact Loc.none
  exact Loc.cond (LocN.pS _) (LocN.pS _)
 case alloc t => exact Loc.opt fun z => LocN.nw (fun k => V.ptr k 0) fun _ => _
 case box t x => exact Loc.opt fun v => Loc.cond Loc.none (LocN.nw (fun k => V.ptr k 0) fun _ => _)
 case build => exact Loc.opt fun v => LocN.pS _
 case buildSlice t len parts =>
  refine Loc.opt fun q => Loc.cond ?_ Loc.none
  refine Loc.opt fun z => Loc.opt fun ps => Loc.cond ?_ Loc.none
  exact Loc.opt fun l => LocN.nw (fun k => V.slice k 0 len len) fun _ => _
 case load =>
  refine Loc.opt fun v => ?_
  cases v <;> try exact Loc.none
  · exact LocN.vS (loc_loadV _ _ _ _)
  · exact Loc.cond (LocN.ret _) Loc.none
 case store =>
  refine Loc.opt fun v => ?_
  cases v <;> try exact Loc.none
  exact Loc.opt fun v => LocN.uS (loc_storeV _ _ _ _ _)
 case nilCheck => exact Loc.opt fun v => Loc.cond (LocN.ret _) Loc.none
 case binOp => exact Loc.opt fun v => Loc.opt fun u => LocN.pS _
 case unOp => exact Loc.opt fun v => LocN.pS _
 case convert => exact Loc.opt fun v => LocN.vS (loc_convertV _ _ _ _)
 case makeInterface => exact Loc.opt fun d => Loc.cond (Loc.opt fun v => LocN.ret _) Loc.none
 case makeFunc => exact Loc.opt fun d => Loc.opt fun v => LocN.ret _
 case makeMap t r =>
  cases r with
  | none => exact LocN.nw (fun k => V.map k) fun _ => _
  | some x => exact Loc.opt fun d => Loc.opt fun v => Loc.cond (LocN.nw (fun k => V.map k) fun _ => _) Loc.none
 case makeSlice =>
  refine Loc.opt fun q => Loc.opt fun vl => Loc.opt fun n => Loc.opt fun vc => Loc.opt fun m => Loc.cond ?_ Loc.none
  exact Loc.opt fun z => Loc.cond (LocN.nw (fun k => V.slice k 0 n m) fun _ => _) Loc.none
 case slice => exact Loc.opt fun v => Loc.opt fun l => Loc.opt fun h => Loc.opt fun m => LocN.vS (loc_sliceV _ _ _ _ _ _)
 case fieldAddr =>
  refine Loc.opt fun p => Loc.cond Loc.none (Loc.opt fun v => ?_)
  cases v <;> try exact Loc.none
  · exact LocN.ret _
  · rename_i u
    cases u <;> first | exact Loc.none | exact Loc.opt fun _ => LocN.ret _
 case field =>
  refine Loc.opt fun p => Loc.opt fun v => ?_
  cases v <;> first | exact Loc.none | exact LocN.pS _
 case indexAddr =>
  refine Loc.opt fun d => Loc.opt fun vi => Loc.opt fun n => Loc.opt fun v => ?_
  cases d <;> try exact Loc.none
  · refine Loc.opt fun z => ?_
    cases v <;> first | exact Loc.none | exact Loc.cond (LocN.ret _) Loc.none | exact Loc.cond (Loc.opt fun _ => LocN.ret _) Loc.none
  · refine Loc.opt fun z => ?_
    cases v <;> try exact Loc.none
    · exact Loc.cond (LocN.ret _) Loc.none
    · rename_i u
      cases u <;> first | exact Loc.none | exact Loc.cond (Loc.opt fun _ => LocN.ret _) Loc.none
 case index =>
  refine Loc.opt fun d => Loc.opt fun vi => Loc.opt fun n => Loc.opt fun v => ?_
  cases d <;> try exact Loc.none
  · cases v <;> first | exact Loc.none | exact Loc.cond (LocN.ret _) Loc.none
  · cases v <;> first | exact Loc.none | exact Loc.opt fun z => Loc.cond (LocN.pS _) Loc.none
 case lookup => exact Loc.opt fun m => Loc.opt fun k => LocN.vS (loc_lookupV _ _ _ _ _)
 case mapUpdate => exact Loc.opt fun m => Loc.opt fun k => Loc.opt fun v => LocN.uS (loc_updateV _ _ _ _ _)
 case insert => exact Loc.opt fun m => Loc.opt fun k => Loc.opt fun v => LocN.uS (loc_updateV _ _ _ _ _)
 case mapEntry => exact Loc.opt fun m => Loc.opt fun k => LocN.vS (loc_entryV _ _ _ _)
 case entryStore => exact Loc.opt fun m => Loc.opt fun k => Loc.opt fun v => LocN.uS (loc_entryStoreV _ _ _)
 case typeAssert x xt asserted ok =>
  refine Loc.opt fun d => Loc.cond (Loc.opt fun v => ?_) Loc.none
  have no : LocN fun s => qda E asserted ok s := Loc.cond (Loc.opt fun z => LocN.ret _) Loc.none
  cases v <;> try exact Loc.none
  · exact Loc.cond (LocN.ret _) no
  · exact no
 case range =>
  refine Loc.opt fun d => ?_
  cases d <;> try exact Loc.none
  refine Loc.opt fun v => ?_
  cases v <;> first | exact Loc.none | exact LocN.nw (fun k => V.ptr k 0) fun _ => _
 case next =>
  refine Loc.cond (Loc.opt fun v => ?_) Loc.none
  cases v <;> try exact Loc.none
  rename_i b off
  refine Loc.cond ?_ Loc.none
  refine Loc.bind (loc_getO b) fun o => ?_
  dsimp only
  cases o <;> try exact Loc.none
  refine Loc.cond ?_ (LocN.ret _)
  exact Loc.of_eq (fun _ => rfl) (LocN.vS (loc_setRet b _ _))
 case extract =>
  refine Loc.opt fun v => ?_
  cases v <;> first | exact Loc.none | exact LocN.pS _
 case panic =>
  refine Loc.opt fun v => ?_
  cases v <;> first | exact Loc.none | exact LocN.pan _
 case call c =>
  unfold opF
  dsimp only
  cases c.callee with
  | builtin b => exact loc_builtinF _ _ _ _ _
  | value f => exact Loc.opt fun fv => Loc.opt fun vs => loc_callV _ _ _
  | invoke x n => exact Loc.none
 case defer c =>
  unfold opF
  dsimp only
  cases c.callee with
  | builtin b => exact Loc.none
  | value f =>
   refine Loc.opt fun fv => ?_
   cases fv <;> first | exact Loc.none | exact Loc.opt fun vs => LocN.defer _
  | invoke x n => exact Loc.none
abbrev LocX (f : St → Option (X × Ac × St)) : Prop := Loc (fun r => r.2.2) upX f
abbrev LocM (f : St → Option (X × Ac × Md × St)) : Prop := Loc (fun r => r.2.2.2) upM f
section
variable {β γ : Type} {st : β → St} {up : β → St → β} {st1 : γ → St} {up1 : γ → St → γ}
theorem Loc.bindN {f : St → Option Nx} {g : Nx → Option β} (hf : LocN f) (hg : ∀ r : Nx, Loc st up fun s => g (r.up s)) : Loc st up fun s => (f s).bind g := Loc.bindG nx_up hf hg
theorem Loc.bindX {f : St → Option (X × Ac × St)} {g : X × Ac × St → Option β} (hf : LocX f) (hg : ∀ x a, Loc st up fun s => g (x, a, s)) : Loc st up fun s => (f s).bind g :=
 Loc.bindG (up1 := upX) (fun _ => rfl) hf fun r => hg r.1 r.2.1
theorem Loc.bindM {f : St → Option (X × Ac × Md × St)} {g : X × Ac × Md × St → Option β} (hf : LocM f) (hg : ∀ x a m, Loc st up fun s => g (x, a, m, s)) : Loc st up fun s => (f s).bind g :=
 Loc.bindG (up1 := upM) (fun _ => rfl) hf fun r => hg r.1 r.2.1 r.2.2.1
end
theorem LocX.ret (x : X) (a : Ac) : LocX fun s => some (x, a, s) := fun s r h => by
 simp only [oS] at h
 subst h
 exact ⟨rfl, fun t hA => ⟨t, rfl, hA, rfl⟩⟩
theorem LocM.ret (x : X) (a : Ac) (m : Md) : LocM fun s => some (x, a, m, s) := fun s r h => by
 simp only [oS] at h
 subst h
 exact ⟨rfl, fun t hA => ⟨t, rfl, hA, rfl⟩⟩
def EVLoc (self : EV) : Prop := (∀ f args, LocP fun s => self.f f args s) ∧ ∀ l args, LocP fun s => self.r l args s
def CFLoc (c : CF) : Prop := ∀ self, EVLoc self → ∀ a, LocX fun s => c.run self a s
theorem loc_afterOp {self : EV} (hs : EVLoc self) (p : PF) (a : Ac) (nx : Nx) : LocX fun s => qb4 p self a (nx.up s) := by
 cases nx with
 | val v s0 =>
  simp only [Nx.up, qb4, qbj, qam]
  exact Loc.opt fun a' => LocX.ret _ _
 | enter f args s0 =>
  simp only [Nx.up, qb4, qam]
  refine Loc.bind (hs.1 f args) fun e => ?_
  cases e with
  | ret v =>
   simp only [qbh, qbj, qam]
   exact Loc.opt fun a' => LocX.ret _ _
  | pan v => exact LocX.ret _ _
 | round f args s0 =>
  simp only [Nx.up, qb4, qam]
  refine Loc.bind (hs.2 f args) fun e => ?_
  cases e with
  | ret v =>
   simp only [qbh, qbj, qam]
   exact Loc.opt fun a' => LocX.ret _ _
  | pan v => exact LocX.ret _ _
 | defer d s0 =>
  simp only [Nx.up, qb4]
  cases a.round with
  | none => exact Loc.opt fun a' => LocX.ret _ _
  | some l => exact Loc.none
 | recover s0 => exact Loc.none
 | pan v s0 => exact LocX.ret _ _
theorem loc_op1 (E : Env) (ops : Array Oper) (o : Oper) : CFLoc (op1 E ops o) := fun self hs a => by
 refine Loc.opt fun b => Loc.cond ?_ (Loc.opt fun a' => LocX.ret _ _)
 exact Loc.bindN (loc_opF E o.op a) fun nx => loc_afterOp hs _ _ nx
theorem loc_skip : CFLoc ⟨skipC⟩ := fun _ _ _ => LocX.ret _ _
theorem loc_seqC {x y : CF} (hx : CFLoc x) (hy : CFLoc y) : CFLoc ⟨seqC x y⟩ := fun self hs a => by
 refine Loc.bindX (hx self hs a) fun e a' => ?_
 cases e with
 | norm => exact hy self hs a'
 | _ => exact LocX.ret _ _
theorem loc_opsL (E : Env) (ops : Array Oper) : ∀ l, CFLoc (opsL E ops l)
 | [] => loc_skip
 | o :: l => loc_seqC (loc_op1 E ops o) (loc_opsL E ops l)
def DFLoc (d : DF) : Prop := ∀ self, EVLoc self → ∀ a s r, d.run self a s = some r → ∀ t, Same s t → ∃ t', d.run self a t = some (r.1, r.2.1, t', r.2.2.2) ∧ Same r.2.2.1 t'
theorem loc_drawNil : DFLoc ⟨drawNil⟩ := fun _ _ a s r h t hA => by
 have h' : some (X.norm, a, s, []) = some r := h
 simp only [oS] at h'
 subst h'
 exact ⟨t, rfl, hA⟩
theorem loc_drawC {x : CF} {k : DF} (hk : DFLoc k) : DFLoc ⟨qgp x k⟩ := fun self hs a s r h t hA => by
 have h' : qgp x k self a s = some r := h
 refine ⟨r.2.2.1, ?_, Same.refl _⟩
 show qgp x k self a t = _
 unfold qgp at h' ⊢
 rw [show ({ t with on := true, log := [] } : St) = { s with on := true, log := [] } by rw [hA.heap, hA.next]]
 exact h'
theorem loc_opsD (E : Env) (ops : Array Oper) : ∀ l, DFLoc (opsD E ops l)
 | [] => loc_drawNil
 | _ :: l => loc_drawC (loc_opsD E ops l)
theorem relog_same' {s t s1 t1 : St} (h : Same s1 t1) (ls : List (List LE)) : Same (qb2 s s1 ls) (qb2 t t1 ls) := by
 unfold qb2
 cases s.on <;> cases t.on <;> exact ⟨h.next, h.heap⟩
theorem relog_on' (s s1 : St) (ls : List (List LE)) : (qb2 s s1 ls).on = s.on := by
 unfold qb2
 cases h : s.on <;> rfl
theorem loc_drawnC (pl : Plan) {f : DF} (hf : DFLoc f) : CFLoc ⟨qks pl f⟩ := fun self hs a => by
 refine Loc.cond ?_ Loc.none
 intro s r h
 simp only [oI] at h
 obtain ⟨q, hq, h⟩ := h
 have hq' : f.run self a s = some q := hq
 have key : ∃ e a', r = (e, a', qb2 s q.2.2.1 q.2.2.2) ∧ ∀ t t', qbd pl a t (q.1, q.2.1, t', q.2.2.2) = some (e, a', qb2 t t' q.2.2.2) := by
  obtain ⟨e, a1, s1, ls⟩ := q
  cases e with
  | norm =>
   simp only [qbd] at h ⊢
   cases hc : (qau ls pl.prs && Nat.beq a1.defers.length a.defers.length) with
   | false => rw [hc] at h; cases h
   | true =>
    rw [hc] at h
    simp only [cond_true, oS] at h
    exact ⟨.norm, _, h.symm, fun _ _ => rfl⟩
  | pan v =>
   simp only [qbd] at h ⊢
   cases hc : (qau ls pl.prs && Nat.beq a1.defers.length a.defers.length) with
   | false => rw [hc] at h; cases h
   | true =>
    rw [hc] at h
    simp only [cond_true, oI, oS] at h
    obtain ⟨a2, hp, h⟩ := h
    exact ⟨.pan v, a2, h.symm, fun _ _ => by rw [hp]; rfl⟩
  | exit id => simp [qbd] at h
  | ret => simp [qbd] at h
 obtain ⟨e, a', rfl, hend⟩ := key
 refine ⟨relog_on' .., fun t hA => ?_⟩
 obtain ⟨t1, e1, A1⟩ := hf self hs a s q hq' t hA
 refine ⟨qb2 t t1 q.2.2.2, ?_, relog_same' A1 _, relog_on' ..⟩
 have e1' : f.run self a t = some (q.1, q.2.1, t1, q.2.2.2) := e1
 simp only [e1', oB]
 exact hend t t1
theorem loc_setX (x : X) (a : Ac) (l : Nat) (o : O) : LocX fun s => some (x, a, setO s l o) := Loc.of_eq (g := fun s => ((fun s => some (setO s l o)) s).bind fun s => some (x, a, s)) (fun _ => rfl) (Loc.bindS (LocS.setO l o) (LocX.ret _ _))
theorem loc_endLoop (l : Nat) (a : Ac) : LocX fun s => endLoop l a s := by
 unfold endLoop
 refine Loc.bind (loc_getO l) fun o => ?_
 dsimp only
 cases o <;> try exact Loc.none
 rename_i st pend tmps n params assign body
 refine Loc.cond Loc.none ?_
 cases pend with
 | none => exact loc_setX _ _ _ _
 | some c => cases c <;> first | exact Loc.none | exact loc_setX _ _ _ _
theorem loc_rangeCall {self : EV} (hs : EVLoc self) (l : Nat) (a : Ac) (nx : Nx) : LocX fun s => rangeCall self l a (nx.up s) := by
 cases nx <;> try exact Loc.none
 case enter f args s0 =>
  refine Loc.bind (hs.1 f args) fun e => ?_
  cases e with
  | ret v => exact loc_endLoop l a
  | pan v => exact LocX.ret _ _
theorem loc_rangeC (E : Env) (f : Operand) (params : List Nat) (assign body : Code) : CFLoc ⟨qe7 E f params assign body⟩ := fun self hs a => by
 show LocX fun s => qe7 E f params assign body self a s
 obtain ⟨tm, nn, df, rd⟩ := a
 unfold qe7
 cases rd with
 | none =>
  dsimp only
  refine Loc.opt fun fv => ?_
  have h2 : LocP fun s => some (s.next, nw (nw s .defb) (.loop 0 none (qdo params assign body tm) nn params assign body)) :=
   Loc.of_eq (g := fun s => ((fun s => some (s.next, nw s .defb)) s).bind fun p => ((fun s => some (s.next, nw s (.loop 0 none (qdo params assign body tm) nn params assign body))) p.2).bind fun q => some (p.1, q.2)) (fun _ => rfl)
    (Loc.bind (LocP.nw (fun k => k) fun _ => .defb) fun k => by
     dsimp only
     exact Loc.bind (LocP.nw (fun k => k) fun _ => .loop 0 none (qdo params assign body tm) nn params assign body) fun _ => by dsimp only; exact LocP.ret k)
  refine Loc.of_eq (g := fun s => ((fun s => some (s.next, nw (nw s .defb) (.loop 0 none (qdo params assign body tm) nn params assign body))) s).bind fun p => (qeh E fv [.yield (p.1 + 1)] p.2).bind
   (rangeCall self (p.1 + 1) { tmps := tm, n := nn, defers := { mark := some p.1, f := .func 0, captured := [], args := [] } :: df, round := none })) (fun _ => rfl) ?_
  exact Loc.bind h2 fun k => by dsimp only; exact Loc.bindN (loc_callV E fv _) fun nx => loc_rangeCall hs _ _ nx
 | some l0 =>
  dsimp only
  refine Loc.bind (loc_getO l0) fun o => ?_
  dsimp only
  cases o <;> try exact Loc.none
  refine Loc.opt fun fv => ?_
  refine Loc.of_eq (g := fun s => ((fun s => some (s.next, nw s (.loop 0 none (qdo params assign body tm) nn params assign body))) s).bind fun p => (qeh E fv [.yield p.1] p.2).bind (rangeCall self p.1 { tmps := tm, n := nn, defers := df, round := some l0 })) (fun _ => rfl) ?_
  exact Loc.bind (LocP.nw (fun k => k) fun _ => .loop 0 none (qdo params assign body tm) nn params assign body) fun k => by dsimp only; exact Loc.bindN (loc_callV E fv _) fun nx => loc_rangeCall hs _ _ nx
theorem loc_loopC {x : CF} (hx : CFLoc x) : ∀ n, CFLoc ⟨qjf x n⟩
 | 0 => fun _ _ _ => Loc.none
 | n + 1 => fun self hs a => by
  refine Loc.bindX (hx self hs a) fun e a' => ?_
  cases e with
  | norm => exact loc_loopC hx n self hs a'
  | _ => exact LocX.ret _ _
theorem loc_comp (E : Env) : ∀ c, CFLoc (qdl E c)
 | .skip => loc_skip
 | .region _ ops false => loc_opsL E ops _
 | .region _ ops true => loc_drawnC _ (loc_opsD E ops _)
 | .seq x y => loc_seqC (loc_comp E x) (loc_comp E y)
 | .cond c x y => fun self hs a => by
  refine Loc.opt fun v => ?_
  cases v <;> try exact Loc.none
  exact Loc.cond (loc_comp E x self hs a) (loc_comp E y self hs a)
 | .block id x => fun self hs a => by
  refine Loc.bindX (loc_comp E x self hs a) fun e a' => ?_
  cases e <;> exact LocX.ret _ _
 | .loop x => loc_loopC (loc_comp E x) qa1
 | .rangeFunc f ps x y => loc_rangeC E f ps.toList x y
 | .exit id => fun _ _ _ => LocX.ret _ _
 | .scope x => loc_comp E x
 | .label _ => loc_skip
 | .goto _ => fun _ _ _ => Loc.none
 | .ret => fun _ _ _ => LocX.ret _ _
 | .refuse _ => fun _ _ _ => Loc.none
theorem loc_opsS (E : Env) {self : EV} (hs : EVLoc self) (ops : Array Oper) : ∀ (l : List Oper) (a : Ac) (m : Md), LocM fun s => opsS E self ops l a m s
 | [], a, m => LocM.ret _ _ _
 | o :: l, a, m => by
  unfold opsS
  refine Loc.cond (Loc.opt fun a' => loc_opsS E hs ops l _ _) ?_
  refine Loc.bindX (loc_op1 E ops o { self with r := fun _ _ _ => none } ⟨hs.1, fun _ _ => Loc.none⟩ a) fun e a' => ?_
  cases e with
  | norm => exact loc_opsS E hs ops l a' m
  | _ => exact LocM.ret _ _ _
theorem loc_evS (E : Env) {self : EV} (hs : EVLoc self) : ∀ (d : Nat) (c : Code) (a : Ac) (m : Md), LocM fun s => evS E self d c a m s
 | 0, _, _, _ => Loc.none
 | d + 1, c, a, m => by
  have other : LocM fun s => ((qdl E c).run self a s).bind fun (x, a, s) => some (x, a, m, s) :=
   Loc.bindX (loc_comp E c self hs a) fun e a' => LocM.ret _ _ _
  cases c <;> try exact other
  case seq x y =>
   refine Loc.bindM (loc_evS E hs d x a m) fun e a' m' => ?_
   cases e with
   | norm => exact loc_evS E hs d y a' m'
   | _ => exact LocM.ret _ _ _
  case cond c x y =>
   refine Loc.opt fun v => ?_
   cases v <;> try exact Loc.none
   exact loc_evS E hs d _ a m
  case region id ops draw =>
   cases draw with
   | false => exact loc_opsS E hs ops _ a m
   | true => exact other
theorem loc_resultsV (E : Env) (a : Ac) : ∀ l, LocP fun s => qas E a l s
 | [] => LocP.ret _
 | .tmp t :: l => by
  unfold qas
  exact Loc.opt fun v => Loc.bind (loc_resultsV E a l) fun vs => by dsimp only; exact LocP.ret _
 | .cell t ty :: l => by
  unfold qas
  refine Loc.opt fun v => ?_
  cases v <;> try exact Loc.none
  refine Loc.bind (loc_loadV E ty _ _) fun u => ?_
  dsimp only
  exact Loc.bind (loc_resultsV E a l) fun vs => by dsimp only; exact LocP.ret _
theorem loc_leaves (E : Env) {self : EV} (hs : EVLoc self) (fn : Func) (a : Ac) : ∀ (ds : List AD) (m : Md), LocP fun s => qbc E self fn a ds m s
 | [], m => by
  cases m with
  | ret => exact Loc.bind (loc_resultsV E a _) fun vs => by dsimp only; exact LocP.ret _
  | pan v => exact LocP.ret _
  | got v => exact Loc.none
 | d :: ds, m => by
  unfold qbc
  cases d.mark with
  | some r =>
   dsimp only
   refine Loc.bind (loc_getO r) fun o => ?_
   dsimp only
   cases o <;> try exact Loc.none
   exact Loc.of_eq (g := fun s => ((fun s => some (setO s r .dead)) s).bind fun s => qbc E self fn a ds m s) (fun _ => rfl) (Loc.bindS (LocS.setO r .dead) (loc_leaves E hs fn a ds m))
  | none =>
  dsimp only
  cases d.f <;> try exact Loc.none
  refine Loc.opt fun g => Loc.opt fun c => Loc.cond ?_ Loc.none
  refine Loc.bindM (loc_evS E hs 50 c _ m) fun e a' m' => ?_
  dsimp only
  refine Loc.cond ?_ Loc.none
  exact Loc.bind (loc_resultsV E a' _) fun vs => by dsimp only; exact loc_leaves E hs fn a ds _
def KnLoc (K : FuncId → Option KF) : Prop := ∀ f g, K f = some g → ∀ args, LocP fun s => g.run args s
theorem loc_stepF (E : Env) {K : FuncId → Option KF} (hK : KnLoc K) {self : EV} (hs : EVLoc self) (f : FuncId) (args : List V) : LocP fun s => stepF E K self f args s := by
 unfold stepF fnOf
 cases hg : K f with
 | some g => exact hK f g hg args
 | none =>
 cases hf : E.fns.get f with
 | none => exact Loc.none
 | some fn =>
 cases hb : fn.body with
 | none => simp only [oB, hb]; exact Loc.none
 | some c =>
 simp only [oB, hb]
 refine Loc.cond ?_ Loc.none
 refine Loc.bindX (loc_comp E c self hs _) fun e a' => ?_
 cases e with
 | norm => exact loc_leaves E hs fn a' a'.defers .ret
 | ret => exact loc_leaves E hs fn a' a'.defers .ret
 | pan v => exact loc_leaves E hs fn a' a'.defers (.pan v)
 | exit id => exact Loc.none
theorem loc_endRound (l st : Nat) (pend : Option Code) (back : Bool) : LocP fun s => endRound l st pend back s := by
 unfold endRound
 refine Loc.bind (loc_getO l) fun o => ?_
 dsimp only
 cases o <;> try exact Loc.none
 exact loc_setRet _ _ _
theorem loc_roundEnd (l : Nat) (x : X) (a : Ac) : LocP fun s => qcz l (x, a, s) := by
 unfold qcz
 dsimp only
 refine Loc.cond ?_ Loc.none
 cases x with
 | norm => exact loc_endRound _ _ _ _
 | ret => exact loc_endRound _ _ _ _
 | exit id => exact loc_endRound _ _ _ _
 | pan v => exact Loc.none
theorem loc_roundBody (E : Env) {self : EV} (hs : EVLoc self) (l : Nat) (body : Code) (x : X) (a : Ac) : LocP fun s => qcw E self l body (x, a, s) := by
 unfold qcw
 cases x <;> try exact Loc.none
 dsimp only
 refine Loc.bind (loc_getO l) fun o => ?_
 dsimp only
 cases o <;> try exact Loc.none
 rename_i st pend tmps n params assign body'
 refine Loc.cond ?_ Loc.none
 refine Loc.of_eq (g := fun s => ((fun s => some (setO s l (.loop 2 pend tmps n params assign body'))) s).bind fun s => ((qdl E body).run self a s).bind (qcz l)) (fun _ => rfl) ?_
 exact Loc.bindS (LocS.setO _ _) (Loc.bindX (loc_comp E body self hs a) fun e a' => loc_roundEnd l e a')
theorem loc_stepR (E : Env) {self : EV} (hs : EVLoc self) (l : Nat) (args : List V) : LocP fun s => qlh E self l args s := by
 unfold qlh
 refine Loc.bind (loc_getO l) fun o => ?_
 dsimp only
 cases o <;> try exact Loc.none
 refine Loc.opt fun t => ?_
 exact Loc.bindX (loc_comp E _ self hs _) fun e a' => loc_roundBody E hs l _ e a'
theorem loc_ev (E : Env) {K : FuncId → Option KF} (hK : KnLoc K) : ∀ n, EVLoc (ev E K n)
 | 0 => ⟨fun _ _ => Loc.none, fun _ _ => Loc.none⟩
 | n + 1 => ⟨fun f args => loc_stepF E hK (loc_ev E hK n) f args, fun l args => loc_stepR E (loc_ev E hK n) l args⟩
theorem ev_lg {E : Env} {K : FuncId → Option KF} (hK : KnLoc K) {n : Nat} {f : FuncId} {args : List V} {s t : St} {e : En} (h : (ev E K n).f f args s = some (e, t)) (l : List LE) : ∃ l', (ev E K n).f f args (s.lg l) = some (e, t.lg l') := by
 obtain ⟨_, h2⟩ := (loc_ev E hK n).1 f args s (e, t) h
 obtain ⟨t', h3, h4, h5⟩ := h2 (s.lg l) ⟨rfl, rfl⟩
 refine ⟨t'.log, h3.trans ?_⟩
 obtain ⟨hp, nx, on, lg⟩ := t'
 obtain ⟨k1, k2⟩ := h4
 simp only at k1 k2 h5
 have h5' : on = true := h5
 subst h5'; subst k1; subst k2
 rfl
theorem knLoc_nil : KnLoc (fun _ => Option.none) := fun _ _ h => by cases h
theorem KnLoc.add {K : FuncId → Option KF} (h : KnLoc K) (f : FuncId) {g : KF} (hg : ∀ args, LocP fun s => g.run args s) : KnLoc (qd1 K f g) := fun x y hx => by
 unfold qd1 at hx
 cases hb : Nat.beq x f with
 | true =>
  rw [hb] at hx
  simp only [cond_true, oS] at hx
  subst hx
  exact hg
 | false => rw [hb] at hx; exact h x y hx
theorem specKF_lg {α : Type} {enc : α → List V} {out : α → En} (args : List V) : LocP fun s => (qd6 enc out).run args s := by
 unfold qd6
 simp only
 by_cases hx : ∃ x, enc x = args
 · simp only [dif_pos hx]; exact LocP.ret _
 · simp only [dif_neg hx]; exact Loc.none
end Go.Proofs.Ytmeohejdafbodaa.Ev.Lg
namespace Go.Proofs.Ytmeohejdafbodaa.Ev
open Go.RowKit Go.Maps Go.Sort Go.Shelf Go.Proofs
variable {P : Program} {ρ : Ren}
end Go.Proofs.Ytmeohejdafbodaa.Ev
namespace Go.Proofs.Ytmeohejdafbodaa.Ev
open Go.Proofs (encStr)
open Go.RowKit
def qcf : Nat → List ME → Bool
 | _, [] => true
 | m, e :: es => Nat.ble m e.born && qcf (e.born + 1) es
def qbu : List ME → Nat → Nat
 | [], m => m
 | e :: es, _ => qbu es (e.born + 1)
def qkj (l : List (Nat × Nat)) : List (Tr V) := l.map fun y => one (.str y.1 y.2)
section
variable {α : Type}
end
def kp (x : List UInt8) : Nat × Nat := (x.length, qal x)
theorem insS_kp (x : List UInt8) : ∀ l : List (List UInt8), ∃ l' : List (List UInt8), insS x.length (qal x) (l.map kp) = l'.map kp ∧ l'.Perm (x :: l)
 | [] => ⟨[x], rfl, .refl _⟩
 | y :: l => by
  rw [List.map_cons]
  unfold insS
  cases h : qhz (kp y).1 (kp y).1 (kp y).2 x.length (qal x) with
  | true =>
   obtain ⟨l', h1, h2⟩ := insS_kp x l
   refine ⟨y :: l', by rw [cond_true, h1]; rfl, (h2.cons y).trans (.swap x y l)⟩
  | false => exact ⟨x :: y :: l, rfl, .refl _⟩
theorem bless_lt : ∀ {x y : List UInt8}, Op.bytesLess x y = true → x < y
 | [], [], h => by simp [Op.bytesLess] at h
 | _ :: _, [], h => by simp [Op.bytesLess] at h
 | [], _ :: _, _ => by simp
 | a :: x, b :: y, h => by
  simp only [Op.bytesLess, Bool.or_eq_true, decide_eq_true_eq, Bool.and_eq_true, beq_iff_eq] at h
  rw [List.cons_lt_cons_iff]
  rcases h with h | ⟨rfl, h⟩
  · exact .inl h
  · exact .inr ⟨rfl, bless_lt h⟩
theorem rising_pw : ∀ {l : List (List UInt8)}, qny (l.map kp) = true → l.Pairwise (· < ·)
 | [], _ => .nil
 | [x], _ => by simp
 | x :: y :: l, h => by
  unfold qny at h
  simp only [List.map_cons, Bool.and_eq_true] at h
  have h1 : x < y := by
   have := h.1
   unfold kp at this
   simp only [qdv] at this
   exact bless_lt this
  have h2 := rising_pw (l := y :: l) h.2
  refine List.pairwise_cons.2 ⟨fun z hz => ?_, h2⟩
  rcases List.mem_cons.1 hz with rfl | hz
  · exact h1
  · exact List.lt_trans h1 ((List.pairwise_cons.1 h2).1 z hz)
theorem erels_keys {ρ : Rho} : ∀ (l : List (List UInt8)), ERels ρ 1 (qkj (l.map kp)) (l.map encStr)
 | [] => .nil
 | x :: l => by
  have h : VRel ρ (.str x.length (qal x)) (encStr x) := VRel.str (ρ := ρ) ⟨x.toArray⟩
  exact ERels.cons (h.cells rfl) (erels_keys l)
theorem mergeSort_kp {ls ks : List (List UInt8)} (hp : ls.Perm ks) (hr : ls.Pairwise (· < ·)) : ks.mergeSort leB = ls := by
 rw [← mergeSort_of_perm hp]
 exact List.mergeSort_of_pairwise (hr.imp fun h => by simp only [leB, decide_eq_true_eq]; exact List.le_of_lt h)
section
variable {P : Program} {E : Env} {w0 : Base} {ρ : Rho} {s : St} {w w' : World}
end
end Go.Proofs.Ytmeohejdafbodaa.Ev
namespace Go.Proofs.Ytmeohejdafbodaa.Ev
open Go.RowKit Go.Maps Go.Sort Go.Shelf Go.Proofs
variable {P : Program}
end Go.Proofs.Ytmeohejdafbodaa.Ev
namespace Go.Proofs.Ytmeohejdafbodaa.Ev
open Go.RowKit
open Go.ChangeMaps (setBlock)
section
variable {P : Program} {E : Env} {w0 : Base} {ρ ρ' : Rho} {s s' : St} {w w' : World}
structure Spare (w0 : Base) (ρ : Rho) (s : St) (r : Nat) : Prop where
 prot : ¬ w0.pt.prot r
 fz : ρ.fz r = none
 free : ∀ b o sh sz, s.heap.get b = some o → o.alive = true → ρ b ≠ some (r, sh, sz)
def Base.with (w0 : Base) (w : World) (r : Nat) (hr : r < w.heap.size) (hk : Keeps w0.pt.prot w0.w w) : Base where
 w := w
 pt := ⟨fun k => w0.pt.prot k ∨ k = r, w0.pt.old, fun k h => .inl (w0.pt.sub k h)⟩
 out := w0.out
 lo := w0.lo
 fzp := fun k => w0.fzp k ∧ k ≠ r
 protLt := fun k h => by
  rcases h with h | rfl
  · exact Nat.lt_of_lt_of_le (w0.protLt k h) hk.size
  · exact hr
 outLt := w0.outLt
theorem Rel.turned (hR : Rel E w0 ρ s w) {r : Nat} (hS : Spare w0 ρ s r) (h1 : w'.os = w.os) (h2 : w'.tape = w.tape) (h3 : w'.output = w.output) (h4 : w.heap.size ≤ w'.heap.size) (h5 : ∀ k, k ≠ r → w'.heap[k]? = w.heap[k]?) : Rel E w0 ρ s w' := by
 refine ⟨⟨h1.trans hR.below.os, h2.trans hR.below.tape, h3.trans hR.below.output, Nat.le_trans hR.below.size h4, fun k hk => ?_⟩, hR.dom, hR.lo, fun b o ho => ?_, hR.sep, hR.glob, fun k o hk => ?_, hR.apart, hR.fzIn⟩
 · exact (h5 k fun e => hS.prot (e ▸ hk)).trans (hR.below.block k hk)
 · cases ha : o.alive with
   | false => cases o <;> simp only [O.alive, Bool.true_eq_false] at ha; trivial
   | true => exact (hR.obj b o ho).of_same (Rho.le_refl ρ) fun cb sh sz h' => h5 cb fun e => hS.free b o sh sz ho ha (e ▸ h')
 · exact (h5 k fun e => by rw [e, hS.fz] at hk; cases hk).trans (hR.fz k o hk)
theorem MERels.mem : ∀ {l : List ME} {cl : List MapEntry}, MERels ρ l cl → ∀ e ∈ l, ∃ c ∈ cl, MERel ρ e c
 | _, _, .cons h t, c, hc => by
  rcases List.mem_cons.1 hc with rfl | hc
  · exact ⟨_, List.mem_cons_self .., h⟩
  · obtain ⟨e, he, h'⟩ := t.mem c hc
    exact ⟨e, List.mem_cons_of_mem _ he, h'⟩
end
end Go.Proofs.Ytmeohejdafbodaa.Ev
namespace Go.Proofs.Ytmeohejdafbodaa.Ev
open Go.RowKit
section
variable {P : Program} {E : Env} {self : EV}
variable {w0 : Base} {i3 i4 B0 B1 : Nat} {ops3 ops4 : Array Oper} {on oe : Oper} {rest3 rest4 : List Oper} {c : Operand} {Z : Code} {ti : Tmp}
end
section
variable {E : Env} {self : EV}
theorem ARel.less {ρ : Rho} {a b : Ac} {ca : Act} (h : ARel ρ b ca) (hab : ALe a b) : ARel ρ a ca := ⟨h.n.trans hab.n.symm, fun t v ht => h.tmp t v (hab.tmps t v ht), by rw [hab.defers]; exact h.defers⟩
end
end Go.Proofs.Ytmeohejdafbodaa.Ev
namespace Go.Proofs.Ytmeohejdafbodaa.Ev.Fz
open Go.Proofs.Ytmeohejdafbodaa.Ev
structure Fz where
 b : Nat
 e : TypeId
 z : Nat
 n : Nat
 c : Tr (Tr V)
structure Same (F : Fz) (s t : St) : Prop where
 next : t.next = s.next
 heap : ∀ x, x ≠ F.b → t.heap.get x = s.heap.get x
 fs : s.heap.get F.b = some (.cells F.e F.z F.n true F.c)
 ft : t.heap.get F.b = some (.cells F.e F.z F.n false F.c)
 lt : F.b < s.next
def Wd (F : Fz) (d : List LE) : Prop := ∀ e ∈ d, e.w = false ∨ e.b ≠ F.b
structure Ok (F : Fz) (s s' t t' : St) : Prop where
 same : Same F s' t'
 ons : s'.on = s.on
 ont : t'.on = t.on
 log : ∃ d, (s.on = true → s'.log = d ++ s.log) ∧ (t.on = true → t'.log = d ++ t.log) ∧ Wd F d
theorem Ok.refl {F : Fz} {s t : St} (h : Same F s t) : Ok F s s t t := ⟨h, rfl, rfl, [], fun _ => rfl, fun _ => rfl, fun _ h => by cases h⟩
theorem Ok.trans {F : Fz} {s s1 s2 t t1 t2 : St} (h : Ok F s s1 t t1) (k : Ok F s1 s2 t1 t2) : Ok F s s2 t t2 := by
 obtain ⟨d1, a1, b1, c1⟩ := h.log
 obtain ⟨d2, a2, b2, c2⟩ := k.log
 refine ⟨k.same, k.ons.trans h.ons, k.ont.trans h.ont, d2 ++ d1, fun ho => ?_, fun ho => ?_, fun e he => ?_⟩
 · rw [a2 (h.ons.trans ho), a1 ho, List.append_assoc]
 · rw [b2 (h.ont.trans ho), b1 ho, List.append_assoc]
 · rcases List.mem_append.1 he with h | h
   · exact c2 e h
   · exact c1 e h
def Loc {β : Type} (F : Fz) (st : β → St) (up : β → St → β) (f : St → Option β) : Prop :=
 ∀ s r, f s = some r → ∀ t, Same F s t → ∃ t', f t = some (up r t') ∧ Ok F s (st r) t t'
abbrev LocP {α : Type} (F : Fz) (f : St → Option (α × St)) : Prop := Loc F Prod.snd upP f
abbrev LocS (F : Fz) (f : St → Option St) : Prop := Loc F id upS f
abbrev LocN (F : Fz) (f : St → Option Nx) : Prop := Loc F Nx.st Nx.up f
variable {F : Fz}
section
variable {α β γ : Type} {st : β → St} {up : β → St → β} {st1 : γ → St} {up1 : γ → St → γ}
theorem Loc.none : Loc F st up fun _ => none := fun _ _ h => by cases h
theorem Loc.bindG (hup : ∀ r, up1 r (st1 r) = r) {f : St → Option γ} {g : γ → Option β} (hf : Loc F st1 up1 f) (hg : ∀ r, Loc F st up fun s => g (up1 r s)) : Loc F st up fun s => (f s).bind g := by
 intro s r h
 simp only [oI] at h
 obtain ⟨q, h1, h2⟩ := h
 intro t hA
 obtain ⟨t1, e1, A1⟩ := hf s _ h1 t hA
 obtain ⟨t2, e2, A2⟩ := hg q (st1 q) r (by simp only [hup]; exact h2) t1 A1.same
 exact ⟨t2, by simp only [e1, oB]; exact e2, A1.trans A2⟩
theorem Loc.bind {f : St → Option (α × St)} {g : α × St → Option β} (hf : LocP F f) (hg : ∀ a, Loc F st up fun s => g (a, s)) : Loc F st up fun s => (f s).bind g :=
 Loc.bindG (up1 := upP) (fun _ => rfl) hf fun r => hg r.1
theorem Loc.bindS {f : St → Option St} {g : St → Option β} (hf : LocS F f) (hg : Loc F st up g) : Loc F st up fun s => (f s).bind g :=
 Loc.bindG (up1 := upS) (fun _ => rfl) hf fun _ => hg
theorem Loc.opt {o : Option α} {g : α → St → Option β} (hg : ∀ a, Loc F st up (g a)) : Loc F st up fun s => o.bind fun a => g a s := by
 cases o with
 | none => exact Loc.none
 | some a => exact hg a
theorem Loc.cond {c : Bool} {f g : St → Option β} (hf : Loc F st up f) (hg : Loc F st up g) : Loc F st up fun s => bif c then f s else g s := by
 cases c
 · exact hg
 · exact hf
theorem Loc.of_eq {f g : St → Option β} (h : ∀ s, f s = g s) (hg : Loc F st up g) : Loc F st up f := by
 rw [show f = g from funext h]; exact hg
theorem LocP.ret (a : α) : LocP F fun s => some (a, s) := fun s r h => by
 simp only [oS] at h
 subst h
 exact fun t hA => ⟨t, rfl, Ok.refl hA⟩
theorem LocS.ret : LocS F fun s => some s := fun s r h => by
 simp only [oS] at h
 subst h
 exact fun t hA => ⟨t, rfl, Ok.refl hA⟩
theorem LocN.ret (v : V) : LocN F fun s => some (.val v s) := fun s r h => by
 simp only [oS] at h
 subst h
 exact fun t hA => ⟨t, rfl, Ok.refl hA⟩
theorem LocN.vS {f : St → Option (V × St)} (h : LocP F f) : LocN F fun s => vS (f s) := Loc.bind (g := fun p => some (Nx.val p.1 p.2)) h fun _ => LocN.ret _
theorem LocN.uS {f : St → Option St} (h : LocS F f) : LocN F fun s => uS (f s) := Loc.bindS (g := fun s => some (Nx.val (.tuple []) s)) h (LocN.ret _)
theorem LocN.pS (o : Option V) : LocN F fun s => pS o s := Loc.opt (g := fun v s => some (Nx.val v s)) fun _ => LocN.ret _
end
theorem note_on' (s : St) (b lo hi : Nat) (x : Bool) : (s.note b lo hi x).on = s.on := by unfold St.note; cases s; rename_i h n on l; cases on <;> rfl
theorem note_log (s : St) (b lo hi : Nat) (x : Bool) (h : s.on = true) : (s.note b lo hi x).log = [⟨b, lo, hi, x⟩] ++ s.log := by
 unfold St.note; rw [h]; rfl
theorem qim {s t : St} (h : Same F s t) (b lo hi : Nat) {x : Bool} (hx : x = false ∨ b ≠ F.b) : Ok F s (s.note b lo hi x) t (t.note b lo hi x) := by
 refine ⟨⟨by rw [qct, qct]; exact h.next, fun y hy => by rw [qaf, qaf]; exact h.heap y hy, by rw [qaf]; exact h.fs, by rw [qaf]; exact h.ft, by rw [qct]; exact h.lt⟩, note_on' .., note_on' .., [⟨b, lo, hi, x⟩], note_log s b lo hi x, note_log t b lo hi x, fun e he => ?_⟩
 rw [List.mem_singleton.1 he]
 exact hx
theorem put_ok {s t : St} (h : Same F s t) {b : Nat} (hb : b ≠ F.b) (o : O) : Ok F s (s.put b o) t (t.put b o) := by
 refine ⟨⟨h.next, fun y hy => ?_, ?_, ?_, h.lt⟩, rfl, rfl, [], fun _ => rfl, fun _ => rfl, fun _ h => by cases h⟩
 · rw [qbp, qbp]
   by_cases e : y = b
   · rw [if_pos e, if_pos e]
   · rw [if_neg e, if_neg e]; exact h.heap y hy
 · rw [qbp, if_neg (Ne.symm hb)]; exact h.fs
 · rw [qbp, if_neg (Ne.symm hb)]; exact h.ft
theorem LocP.read {α : Type} {b lo hi : Nat} (k : Option O → Option α) (hk : ∀ e z n c a, k (some (.cells e z n true c)) = some a → k (some (.cells e z n false c)) = some a) : LocP F fun s => (k (s.heap.get b)).bind fun a => some (a, s.note b lo hi false) := by
 intro s r h
 simp only [oI, oS] at h
 obtain ⟨a, ha, rfl⟩ := h
 refine fun t hA => ⟨t.note b lo hi false, ?_, qim hA b lo hi (.inl rfl)⟩
 have : k (t.heap.get b) = some a := by
  by_cases e : b = F.b
  · subst e
    rw [hA.fs] at ha
    rw [hA.ft]
    exact hk _ _ _ _ _ ha
  · rw [hA.heap b e]; exact ha
 simp only [this, oB]
theorem LocS.write {b lo hi : Nat} (k : Option O → Option O) (hk : ∀ e z n c, k (some (.cells e z n true c)) = none) : LocS F fun s => (k (s.heap.get b)).bind fun o => some ((s.note b lo hi true).put b o) := by
 intro s r h
 simp only [oI, oS] at h
 obtain ⟨o, ho, rfl⟩ := h
 intro t hA
 have hb : b ≠ F.b := fun e => by
  subst e
  rw [hA.fs, hk] at ho
  cases ho
 refine ⟨(t.note b lo hi true).put b o, ?_, (qim hA b lo hi (.inr hb)).trans (put_ok (qim hA b lo hi (.inr hb)).same hb o)⟩
 simp only [hA.heap b hb, ho, oB]
theorem LocS.setO {b : Nat} (hb : b ≠ F.b) (o : O) : LocS F fun s => some (setO s b o) := fun s r h => by
 simp only [oS] at h
 subst h
 exact fun t hA => ⟨Ev.setO t b o, rfl, (qim hA b 0 big (.inr hb)).trans (put_ok (qim hA b 0 big (.inr hb)).same hb o)⟩
theorem nw_ok {s t : St} (h : Same F s t) (o : O) : Ok F s (nw s o) t (nw t o) := by
 have hb : s.next ≠ F.b := Nat.ne_of_gt h.lt
 have h1 := qim h s.next 0 big (x := true) (.inr hb)
 have h2 := h1.trans (put_ok h1.same hb o)
 unfold nw
 rw [h.next]
 exact ⟨⟨rfl, h2.same.heap, h2.same.fs, h2.same.ft, Nat.lt_succ_of_lt h.lt⟩, h2.ons, h2.ont, h2.log⟩
theorem LocP.nw {α : Type} (k : Nat → α) (o : Nat → O) : LocP F fun s => some (k s.next, nw s (o s.next)) := fun s r h => by
 simp only [oS] at h
 subst h
 exact fun t hA => ⟨Ev.nw t (o s.next), by simp only [hA.next], nw_ok hA _⟩
theorem LocN.nw (k : Nat → V) (o : Nat → O) : LocN F fun s => some (.val (k s.next) (nw s (o s.next))) :=
 Loc.of_eq (fun _ => rfl) (LocN.vS (LocP.nw k o))
theorem Loc.bindGet {β : Type} {st : β → St} {up : β → St → β} (b : Nat) {g : O × St → Option β} (hc : ∀ e z n ro c s, g (.cells e z n ro c, s) = Option.none) (hg : b ≠ F.b → ∀ o, Loc F st up fun s => g (o, s)) : Loc F st up fun s => (qgb s b).bind g := by
 intro s r h t hA
 have h : ((s.heap.get b).bind fun o => some (o, s.note b 0 big false)).bind g = some r := h
 simp only [oI, Prod.exists, oS, pM] at h
 obtain ⟨o, s1, ⟨o', ho, rfl, rfl⟩, h⟩ := h
 have hb : b ≠ F.b := fun e => by
  subst e
  rw [hA.fs] at ho
  cases ho
  rw [hc] at h
  cases h
 have h1 := qim hA b 0 big (x := false) (.inl rfl)
 obtain ⟨t', e1, A1⟩ := hg hb o' _ _ h _ h1.same
 refine ⟨t', ?_, h1.trans A1⟩
 show ((t.heap.get b).bind fun o => some (o, t.note b 0 big false)).bind g = _
 rw [hA.heap b hb, ho]
 exact e1
theorem loc_ldK (b off k : Nat) : LocP F fun s => ldK s b off k :=
 Loc.of_eq (fun s => by
  unfold ldK
  split
  · rename_i e esz n ro c h
    cases hc : (Nat.ble (off + k) (esz * n) && Nat.blt (esz * n) big)
    · rw [h]; simp only [hc]; rfl
    · rw [h]; simp only [hc, cond_true]
  · rename_i h
    cases ho : s.heap.get b with
    | none => rfl
    | some o => cases o <;> first | rfl | exact absurd ho (h _ _ _ _ _))
  (LocP.read (b := b) (lo := off) (hi := off + k) (fun o => match o with
   | some (.cells _ esz n _ c) => bif Nat.ble (off + k) (esz * n) && Nat.blt (esz * n) big then qff c esz off k else none
   | _ => none) fun _ _ _ _ _ h => h)
theorem loc_ld (b off : Nat) : LocP F fun s => ld s b off :=
 Loc.of_eq (fun s => by
  unfold ld
  split
  · rename_i e esz n ro c h
    cases hc : (Nat.blt off (esz * n) && Nat.blt (esz * n) big)
    · rw [h]; simp only [hc]; rfl
    · rw [h]; simp only [hc, cond_true]
      cases c.get (off / esz) with
      | none => rfl
      | some t => simp only [oB]
  · rename_i h
    cases ho : s.heap.get b with
    | none => rfl
    | some o => cases o <;> first | rfl | exact absurd ho (h _ _ _ _ _))
  (LocP.read (b := b) (lo := off) (hi := off + 1) (fun o => match o with
   | some (.cells _ esz n _ c) => bif Nat.blt off (esz * n) && Nat.blt (esz * n) big then (c.get (off / esz)).bind fun t => t.get (off % esz) else none
   | _ => none) fun _ _ _ _ _ h => h)
theorem loc_sizeB (b : Nat) : LocP F fun s => qlg s b :=
 Loc.of_eq (fun s => by
  unfold qlg
  split
  · rename_i e esz n ro c h
    cases hc : (Nat.blt (esz * n) big)
    · rw [h]; simp only [hc]; rfl
    · rw [h]; simp only [hc, cond_true, oB]
  · rename_i h
    cases ho : s.heap.get b with
    | none => rfl
    | some o => cases o <;> first | rfl | exact absurd ho (h _ _ _ _ _))
  (LocP.read (b := b) (lo := big - 1) (hi := big) (fun o => match o with
   | some (.cells _ esz n _ _) => bif Nat.blt (esz * n) big then some (esz * n) else none
   | _ => none) fun _ _ _ _ _ h => h)
theorem loc_stK (b off k : Nat) (t : Tr V) : LocS F fun s => stK s b off k t :=
 Loc.of_eq (fun s => by
  unfold stK
  split
  · rename_i e esz n ro c h
    cases hc : (Nat.ble (off + k) (esz * n) && Nat.blt (esz * n) big && !ro)
    · rw [h]; simp only [hc]; rfl
    · rw [h]; simp only [hc, cond_true]
      cases qdx c esz off k t <;> rfl
  · rename_i h
    cases ho : s.heap.get b with
    | none => rfl
    | some o => cases o <;> first | rfl | exact absurd ho (h _ _ _ _ _))
  (LocS.write (b := b) (lo := off) (hi := off + k) (fun o => match o with
   | some (.cells e esz n ro c) => bif Nat.ble (off + k) (esz * n) && Nat.blt (esz * n) big && !ro then (qdx c esz off k t).bind fun c => some (.cells e esz n false c) else none
   | _ => none) fun _ _ _ _ => by simp only [Bool.not_true, Bool.and_false, cond_false])
theorem loc_ldN (b k : Nat) : ∀ (n off : Nat), LocP F fun s => ldN b k n off s
 | 0, _ => LocP.ret []
 | n + 1, off => by
  unfold ldN
  exact Loc.bind (loc_ldK b off k) fun a => by
   dsimp only
   exact Loc.bind (loc_ldN b k n (off + k)) fun _ => by dsimp only; exact LocP.ret _
theorem loc_stN (b k : Nat) : ∀ (l : List (Tr V)) (off : Nat), LocS F fun s => stN b k l off s
 | [], _ => LocS.ret
 | t :: l, off => Loc.bindS (g := fun s => stN b k l (off + k) s) (loc_stK b off k t) (loc_stN b k l (off + k))
theorem loc_loadV (E : Env) (t : TypeId) (b off : Nat) : LocP F fun s => qle E t b off s := by
 unfold qle
 refine Loc.opt fun g => Loc.cond ?_ (loc_ld b off)
 refine Loc.opt fun n => Loc.bind (loc_ldK b off n) fun _ => by dsimp only; exact LocP.ret _
theorem loc_storeV (E : Env) (t : TypeId) (b off : Nat) (v : V) : LocS F fun s => qic E t b off v s := by
 unfold qic
 exact Loc.opt fun n => Loc.cond (loc_stK b off n _) Loc.none
theorem loc_sliceV (E : Env) (t : TypeId) (x : V) (lo hi mx : Option V) : LocP F fun s => qdk E t x lo hi mx s := by
 unfold qdk
 refine Loc.opt fun d => ?_
 cases d <;> try exact Loc.none
 case string => cases x <;> cases mx <;> first | exact Loc.none | exact Loc.opt fun _ => LocP.ret _
 case array =>
  cases x <;> try exact Loc.none
  exact Loc.opt fun _ => Loc.opt fun _ => LocP.ret _
 case slice =>
  cases x <;> try exact Loc.none
  case slice => exact Loc.opt fun _ => Loc.opt fun _ => LocP.ret _
  case oslice b off len z =>
   refine Loc.opt fun z' => Loc.cond ?_ Loc.none
   refine Loc.bind (loc_sizeB b) fun k => ?_
   dsimp only
   refine Loc.opt fun p => ?_
   cases mx with
   | some _ => exact LocP.ret _
   | none => exact Loc.cond (LocP.ret _) (Loc.cond (LocP.ret _) Loc.none)
  case eslice => exact Loc.opt fun _ => Loc.opt fun _ => LocP.ret _
  case nilslice => exact Loc.opt fun _ => Loc.opt fun _ => LocP.ret _
  case list z l =>
   refine Loc.opt fun z' => ?_
   cases mx with
   | some _ => exact Loc.none
   | none => exact Loc.cond (Loc.opt fun _ => LocP.ret _) Loc.none
theorem loc_firstV (size n : Nat) (x : V) : LocP F fun s => qb7 size n x s := by
 cases x <;> try exact Loc.none
 case str => exact Loc.cond (LocP.ret _) Loc.none
 case slice => exact loc_ldN _ _ _ _
 case oslice => exact loc_ldN _ _ _ _
 case eslice => exact Loc.cond (LocP.ret _) Loc.none
 case nilslice => exact Loc.cond (LocP.ret _) Loc.none
 case list => exact Loc.cond (LocP.ret _) Loc.none
theorem loc_growV (elem : TypeId) (size n b off len : Nat) (l : List (Tr V)) : LocP F fun s => qhy elem size n b off len l s := by
 intro s r h t hA
 unfold qhy at h
 simp only [qd7] at h
 split at h
 · rename_i e esz m ro c hb
   cases h1 : (ro || !Nat.beq e elem) with
   | true => rw [h1] at h; cases h
   | false =>
   rw [h1] at h
   simp only [cond_false] at h
   have hb' : b ≠ F.b := fun e => by
    subst e
    rw [hA.fs] at hb
    cases hb
    cases h1
   cases h2 : (Nat.beq esz size && Nat.beq off 0 && Nat.beq m len && Nat.blt (esz * m) big) with
   | true =>
    rw [h2] at h
    simp only [cond_true] at h
    have hl : LocP F fun s => some (V.oslice s.next 0 (len + n) size, nw (setO s b .dead) (.cells elem size (len + n) false (addL c l len))) := by
     refine Loc.of_eq (g := fun s => ((fun s => some (setO s b .dead)) s).bind fun s => some (V.oslice s.next 0 (len + n) size, nw s (.cells elem size (len + n) false (addL c l len)))) (fun s => ?_) (Loc.bindS (LocS.setO hb' .dead) (LocP.nw (fun k => V.oslice k 0 (len + n) size) fun _ => _))
     simp only [oB]
     have : (setO s b .dead).next = s.next := by show (s.note b 0 big true).next = _; unfold St.note; cases s.on <;> rfl
     rw [this]
    obtain ⟨t', e1, A1⟩ := hl s r h t hA
    refine ⟨t', ?_, A1⟩
    unfold qhy
    simp only [qd7]
    rw [hA.heap b hb', hb]
    simp only [h1, h2, cond_true, cond_false]
    exact e1
   | false =>
    rw [h2] at h
    simp only [cond_false] at h
    cases h3 : (Nat.beq esz size && Nat.beq (off % size) 0) with
    | false => rw [h3] at h; cases h
    | true =>
    rw [h3] at h
    simp only [cond_true] at h
    have hl : LocP F fun s => (ldN b size len off s).bind fun q => some (V.oslice q.2.next 0 (len + n) size, qaj (setO q.2 b .dead) elem size (q.1 ++ l)) := by
     refine Loc.bind (loc_ldN b size len off) fun a => ?_
     refine Loc.of_eq (g := fun s => ((fun s => some (setO s b .dead)) s).bind fun s => some (V.oslice s.next 0 (len + n) size, qaj s elem size (a ++ l))) (fun s => ?_) (Loc.bindS (LocS.setO hb' .dead) (LocP.nw (fun k => V.oslice k 0 (len + n) size) fun _ => _))
     simp only [oB]
     have : (setO s b .dead).next = s.next := by show (s.note b 0 big true).next = _; unfold St.note; cases s.on <;> rfl
     rw [this]
    obtain ⟨t', e1, A1⟩ := hl s r h t hA
    refine ⟨t', ?_, A1⟩
    unfold qhy
    simp only [qd7]
    rw [hA.heap b hb', hb]
    simp only [h1, h2, h3, cond_false, cond_true]
    exact e1
 · cases h
theorem loc_appendV (elem : TypeId) (size n : Nat) (x y : V) : LocP F fun s => qd8 elem size n x y s := by
 unfold qd8
 refine Loc.bind (loc_firstV size n y) fun l => ?_
 dsimp only
 cases x <;> try exact Loc.none
 case slice b off len cap =>
  refine Loc.cond ?_ ?_
  · exact Loc.bindS (loc_stN b size l _) (LocP.ret _)
  · exact Loc.bind (loc_firstV size len _) fun a => by dsimp only; exact LocP.nw (fun k => V.oslice k 0 (len + n) size) fun _ => _
 case oslice b off len z =>
  refine Loc.cond ?_ Loc.none
  refine Loc.bind (loc_sizeB b) fun a => ?_
  dsimp only
  refine Loc.cond ?_ (loc_growV _ _ _ _ _ _ _)
  exact Loc.bindS (loc_stN b size l _) (LocP.ret _)
 case eslice => exact Loc.cond (LocP.ret _) Loc.none
 case nilslice => exact Loc.cond (LocP.ret _) (LocP.nw (fun k => V.oslice k 0 n size) fun _ => _)
theorem loc_lookupV (E : Env) (t : TypeId) (x k : V) (ok : Bool) : LocP F fun s => qcc E t x k ok s := by
 unfold qcc
 refine Loc.opt fun d => ?_
 cases d <;> try exact Loc.none
 rename_i kt et
 refine Loc.opt fun d => Loc.cond ?_ Loc.none
 refine Loc.bind (f := fun s => match x with
  | .nilmap => some ([], s)
  | .map r => (qgb s r).bind fun p => match p.1 with
   | .map es _ => some (es, p.2)
   | _ => none
  | _ => none) ?_ fun es => ?_
 · cases x <;> try exact Loc.none
   · rename_i r
     refine Loc.bindGet r (fun _ _ _ _ _ _ => rfl) fun hb o => ?_
     dsimp only
     cases o <;> first | exact Loc.none | exact LocP.ret _
   · exact LocP.ret _
 · dsimp only
   refine Loc.opt fun q => ?_
   cases q with
   | none => exact Loc.opt fun z => LocP.ret _
   | some q => exact LocP.ret _
theorem loc_updateV (E : Env) (t : TypeId) (m k v : V) : LocS F fun s => qbe E t m k v s := by
 unfold qbe
 refine Loc.opt fun d => ?_
 cases d <;> try exact Loc.none
 rename_i kt et
 refine Loc.opt fun d => Loc.cond ?_ Loc.none
 cases m <;> try exact Loc.none
 rename_i r
 refine Loc.bindGet r (fun _ _ _ _ _ _ => rfl) fun hb o => ?_
 dsimp only
 cases o <;> try exact Loc.none
 rename_i es clock
 refine Loc.opt fun q => ?_
 cases q with
 | none => exact LocS.setO hb _
 | some q => exact LocS.setO hb _
theorem loc_setRet {α : Type} {r : Nat} (hb : r ≠ F.b) (o : O) (a : α) : LocP F fun s => some (a, setO s r o) :=
 Loc.of_eq (g := fun s => ((fun s => some (setO s r o)) s).bind fun s => some (a, s)) (fun _ => rfl) (Loc.bindS (LocS.setO hb o) (LocP.ret _))
theorem loc_entryV (E : Env) (t : TypeId) (m k : V) : LocP F fun s => qi1 E t m k s := by
 unfold qi1
 refine Loc.opt fun d => ?_
 cases d <;> try exact Loc.none
 rename_i kt et
 refine Loc.opt fun d => Loc.cond ?_ Loc.none
 cases m <;> try exact Loc.none
 rename_i r
 refine Loc.bindGet r (fun _ _ _ _ _ _ => rfl) fun hb o => ?_
 dsimp only
 cases o <;> try exact Loc.none
 rename_i es clock
 refine Loc.opt fun q => ?_
 cases q with
 | none => exact Loc.opt fun z => loc_setRet hb _ _
 | some q => exact Loc.opt fun z => loc_setRet hb _ _
theorem loc_entryStoreV (m st v : V) : LocS F fun s => qbn m st v s := by
 unfold qbn
 cases m <;> try exact Loc.none
 cases st <;> try exact Loc.none
 rename_i r kk nn
 cases nn <;> try exact Loc.none
 refine Loc.bindGet r (fun _ _ _ _ _ _ => rfl) fun hb o => ?_
 dsimp only
 cases o <;> try exact Loc.none
 exact Loc.opt fun q => LocS.setO hb _
theorem loc_deleteV (E : Env) (t : TypeId) (m k : V) : LocS F fun s => qdc E t m k s := by
 unfold qdc
 refine Loc.opt fun d => ?_
 cases d <;> try exact Loc.none
 rename_i kt et
 refine Loc.opt fun d => Loc.cond ?_ Loc.none
 cases m <;> try exact Loc.none
 · rename_i r
   refine Loc.bindGet r (fun _ _ _ _ _ _ => rfl) fun hb o => ?_
   dsimp only
   cases o <;> try exact Loc.none
   rename_i es clock
   refine Loc.opt fun q => ?_
   cases q with
   | none => exact LocS.setO hb _
   | some q => exact LocS.setO hb _
 · exact LocS.ret
theorem loc_zerosAt (b off n : Nat) : LocP F fun s => qan s b off n :=
 Loc.of_eq (fun s => by
  unfold qan
  split
  · rename_i e esz m ro c h
    cases hc : (Nat.beq esz 1 && Nat.ble (off + n) m && Nat.blt m big && Nat.blt 0 n && qe0 c)
    · rw [h]; simp only [hc]; rfl
    · rw [h]; simp only [hc, cond_true, oB]
  · rename_i h
    cases ho : s.heap.get b with
    | none => rfl
    | some o => cases o <;> first | rfl | exact absurd ho (h _ _ _ _ _))
  (LocP.read (b := b) (lo := off) (hi := off + n) (fun o => match o with
   | some (.cells _ esz m _ c) => bif Nat.beq esz 1 && Nat.ble (off + n) m && Nat.blt m big && Nat.blt 0 n && qe0 c then some (V.str n 0) else none
   | _ => none) fun _ _ _ _ _ h => h)
theorem zerosAt_none {s t : St} {b off n : Nat} (h : qan s b off n = none) (hA : Same F s t) : qan t b off n = none := by
 by_cases e : b = F.b
 · subst e
   unfold qan at h ⊢
   rw [hA.fs] at h
   rw [hA.ft]
   simp only at h ⊢
   cases hx : (Nat.beq F.z 1 && Nat.ble (off + n) F.n && Nat.blt F.n big && Nat.blt 0 n && qe0 F.c)
   · rfl
   · rw [hx] at h; cases h
 · exact Lg.zerosAt_none h (.inr (hA.heap b e))
theorem loc_bytes (b off l c n : Nat) : LocP F fun s => qfp (qan s b off n) ((qb7 1 n (.slice b off l c) s).bind fun p => (qdi p.1).bind fun q => some (V.str q.1 q.2, p.2)) := by
 have hg : LocP F fun s => (qb7 1 n (.slice b off l c) s).bind fun p => (qdi p.1).bind fun q => some (V.str q.1 q.2, p.2) := Loc.bind (loc_firstV 1 n _) fun a => by dsimp only; exact Loc.opt fun q => LocP.ret _
 intro s r h t hA
 dsimp only at h
 cases hz : qan s b off n with
 | some q =>
  rw [hz] at h
  simp only [qfp, oS] at h
  subst h
  obtain ⟨t', e1, A1⟩ := loc_zerosAt b off n s _ hz t hA
  have e1' : qan t b off n = some (upP q t') := e1
  exact ⟨t', by dsimp only; rw [e1']; rfl, A1⟩
 | none =>
  rw [hz] at h
  have h' : ((qb7 1 n (.slice b off l c) s).bind fun p => (qdi p.1).bind fun q => some (V.str q.1 q.2, p.2)) = some r := h
  obtain ⟨t', e1, A1⟩ := hg s r h' t hA
  refine ⟨t', ?_, A1⟩
  have hno : qan t b off n = none := zerosAt_none hz hA
  dsimp only
  rw [hno]
  exact e1
theorem loc_sameV (b : Nat) : LocS F fun s => sameV s b :=
 Loc.of_eq (fun s => by
  unfold sameV
  split
  · rename_i e esz m c h
    rw [h]; rfl
  · rename_i h
    cases ho : s.heap.get b with
    | none => rfl
    | some o =>
     cases o <;> try rfl
     rename_i e esz m ro c
     cases ro
     · exact absurd ho (h _ _ _ _)
     · rfl)
  (LocS.write (b := b) (lo := 0) (hi := big) (fun o => match o with
   | some (.cells e esz m false c) => some (.cells e esz m false c)
   | _ => none) fun _ _ _ _ => rfl)
theorem loc_liesV (E : Env) (u : TypeId) (b off : Nat) : LocS F fun s => liesV E u b off s :=
 Loc.of_eq (g := fun s => (((match s.heap.get b with
  | some (.cells e esz m _ _) => (sizeT E e).bind fun z => bif Nat.beq z esz && Nat.blt off (esz * m) && Nat.blt (esz * m) big && qik e (off % esz) u E.lie then some () else none
  | _ => none : Option Unit)).bind fun a => some (a, s.note b off (off + 1) false)).bind fun p => some p.2) (fun s => by
  unfold liesV
  cases s.heap.get b with
  | none => rfl
  | some o =>
   cases o <;> try rfl
   rename_i e esz m ro c
   show (sizeT E e).bind _ = (((sizeT E e).bind _).bind _).bind _
   cases sizeT E e with
   | none => rfl
   | some z =>
    simp only [oB]
    cases (Nat.beq z esz && Nat.blt off (esz * m) && Nat.blt (esz * m) big && qik e (off % esz) u E.lie) <;> rfl)
  (Loc.bind (LocP.read (b := b) (lo := off) (hi := off + 1) (fun o => match o with
   | some (.cells e esz m _ _) => (sizeT E e).bind fun z => bif Nat.beq z esz && Nat.blt off (esz * m) && Nat.blt (esz * m) big && qik e (off % esz) u E.lie then some () else none
   | _ => none) fun _ _ _ _ _ h => h) fun _ => LocS.ret)
theorem loc_liesB (E : Env) (u : TypeId) (b off n : Nat) : LocS F fun s => qn7 E u b off n s :=
 Loc.of_eq (g := fun s => (((match s.heap.get b with
  | some (.cells e esz m false _) => (sizeT E e).bind fun z => bif Nat.beq e u && Nat.beq z 1 && Nat.beq esz 1 && Nat.ble (off + n) m && Nat.blt m big then some () else none
  | _ => none : Option Unit)).bind fun a => some (a, s.note b off (off + 1) false)).bind fun p => some p.2) (fun s => by
  unfold qn7
  cases s.heap.get b with
  | none => rfl
  | some o =>
   cases o <;> try rfl
   rename_i e esz m ro c
   cases ro <;> try rfl
   show (sizeT E e).bind _ = (((sizeT E e).bind _).bind _).bind _
   cases sizeT E e with
   | none => rfl
   | some z =>
    simp only [oB]
    cases (Nat.beq e u && Nat.beq z 1 && Nat.beq esz 1 && Nat.ble (off + n) m && Nat.blt m big) <;> rfl)
  (Loc.bind (LocP.read (b := b) (lo := off) (hi := off + 1) (fun o => match o with
   | some (.cells e esz m false _) => (sizeT E e).bind fun z => bif Nat.beq e u && Nat.beq z 1 && Nat.beq esz 1 && Nat.ble (off + n) m && Nat.blt m big then some () else none
   | _ => none) fun _ _ _ _ _ h => by cases h) fun _ => LocS.ret)
theorem Loc.bindLies {β : Type} {st : β → St} {up : β → St → β} (E : Env) (u : TypeId) (b off n : Nat) {g : St → Option β} (hg : b ≠ F.b → Loc F st up g) : Loc F st up fun s => (qn7 E u b off n s).bind g := by
 intro s r h t hA
 have hb : b ≠ F.b := fun e => by
  subst e
  have h' : (qn7 E u F.b off n s).bind g = some r := h
  unfold qn7 at h'
  rw [hA.fs] at h'
  cases h'
 exact Loc.bindS (loc_liesB E u b off n) (hg hb) s r h t hA
theorem loc_unsafeV (E : Env) (ds dd : TypeDesc) (x : V) : LocP F fun s => qg7 E ds dd x s := by
 unfold qg7
 cases x <;> try exact Loc.none
 refine Loc.cond ?_ (Loc.cond ?_ Loc.none)
 · refine Loc.opt fun t => Loc.opt fun z => Loc.cond Loc.none ?_
   exact Loc.bindS (loc_liesV _ _ _ _) (LocP.ret _)
 · refine Loc.opt fun t => Loc.opt fun z => ?_
   exact Loc.bindS (loc_liesV _ _ _ _) (LocP.ret _)
theorem loc_convertV (E : Env) (src dst : TypeId) (x : V) : LocP F fun s => qb8 E src dst x s := by
 unfold qb8
 refine Loc.opt fun ds => Loc.opt fun dd => Loc.cond (loc_unsafeV _ _ _ _) ?_
 have bytes : ∀ (x : V), LocP F fun s => (match ds with
  | .slice e => (und E e).bind fun
   | .int .u8 => (lenV x).bind fun n => match x with
    | .str _ _ => none
    | .slice b off l c => qfp (qan s b off n) ((qb7 1 n (.slice b off l c) s).bind fun p => (qdi p.1).bind fun q => some (.str q.1 q.2, p.2))
    | x => (qb7 1 n x s).bind fun p => (qdi p.1).bind fun q => some (V.str q.1 q.2, p.2)
   | _ => none
  | _ => none) := by
  intro x
  cases ds <;> try exact Loc.none
  rename_i e
  refine Loc.opt fun d => ?_
  cases d <;> try exact Loc.none
  rename_i k
  cases k <;> try exact Loc.none
  refine Loc.opt fun n => ?_
  cases x <;> first
   | exact Loc.none
   | exact loc_bytes _ _ _ _ _
   | exact Loc.bind (loc_firstV 1 n _) fun a => by dsimp only; exact Loc.opt fun q => LocP.ret _
 cases dd <;> try (cases x <;> exact Loc.none)
 · cases x <;> first | exact Loc.none | exact LocP.ret _
 · cases x <;> first | exact LocP.ret _ | exact bytes _
 · cases x <;> try exact Loc.none
   · refine Loc.opt fun d => ?_
     cases d <;> try exact Loc.none
     rename_i k
     cases k <;> try exact Loc.none
     exact LocP.nw (fun k => V.oslice k 0 _ 1) fun _ => _
   · refine Loc.cond ?_ Loc.none
     refine Loc.opt fun d => ?_
     cases d <;> try exact Loc.none
     rename_i k
     cases k <;> try exact Loc.none
     exact Loc.bindS (loc_sameV _) (LocP.ret _)
theorem loc_lenAny (d : TypeDesc) (E : Env) (x : V) : LocN F fun s => lenAny d E x s := by
 cases d <;> try exact Loc.none
 case array => exact LocN.ret _
 case pointer e =>
  refine Loc.opt fun d => ?_
  cases d <;> first | exact Loc.none | exact LocN.ret _
 case string => cases x <;> first | exact Loc.none | exact LocN.ret _
 case slice => cases x <;> first | exact Loc.none | exact LocN.ret _
 case map =>
  cases x <;> try exact Loc.none
  case nilmap => exact LocN.ret _
  case map r =>
   refine Loc.bindGet r (fun _ _ _ _ _ _ => rfl) fun hb o => ?_
   dsimp only
   cases o <;> first | exact Loc.none | exact LocN.ret _
theorem loc_copyInto (size : Nat) (x : V) (n : Nat) (l : List (Tr V)) : LocN F fun s => qhh size x n l s := by
 cases x <;> try exact Loc.none
 case slice => exact Loc.bindS (loc_stN _ size l _) (LocN.ret _)
 case oslice => exact Loc.bindS (loc_stN _ size l _) (LocN.ret _)
 case eslice => exact LocN.ret _
 case nilslice => exact LocN.ret _
theorem loc_extV (k : Nat) (args : List V) : LocN F fun s => extV k args s := by
 unfold extV
 split
 · split
   · refine Loc.cond ?_ Loc.none
     split <;> exact LocN.ret _
   · exact Loc.none
 · split
   · rename_i t r
     refine Loc.bindGet r (fun _ _ _ _ _ _ => rfl) fun hb o => ?_
     dsimp only
     cases o <;> first | exact Loc.none | exact LocN.nw (fun k => V.iface t (V.map k)) fun _ => _
   · exact Loc.none
 · split
   · exact Loc.cond (LocN.ret _) Loc.none
   · exact Loc.none
 · split
   · exact LocN.ret _
   · exact Loc.none
 · refine Loc.cond ?_ Loc.none
   split
   · exact Loc.cond (LocN.nw (fun k => V.oslice k 0 _ 1) fun _ => _) Loc.none
   · exact Loc.none
theorem LocN.enter (f : FuncId) (args : List V) : LocN F fun s => some (.enter f args s) := fun s r h => by
 simp only [oS] at h
 subst h
 exact fun t hA => ⟨t, rfl, Ok.refl hA⟩
theorem LocN.round (f : Nat) (args : List V) : LocN F fun s => some (.round f args s) := fun s r h => by
 simp only [oS] at h
 subst h
 exact fun t hA => ⟨t, rfl, Ok.refl hA⟩
theorem LocN.defer (d : AD) : LocN F fun s => some (.defer d s) := fun s r h => by
 simp only [oS] at h
 subst h
 exact fun t hA => ⟨t, rfl, Ok.refl hA⟩
theorem LocN.recover : LocN F fun s => some (.recover s) := fun s r h => by
 simp only [oS] at h
 subst h
 exact fun t hA => ⟨t, rfl, Ok.refl hA⟩
theorem LocN.pan (v : V) : LocN F fun s => some (.pan v s) := fun s r h => by
 simp only [oS] at h
 subst h
 exact fun t hA => ⟨t, rfl, Ok.refl hA⟩
theorem loc_callV (E : Env) (f : V) (args : List V) : LocN F fun s => qeh E f args s := by
 unfold qeh
 cases f <;> try exact Loc.none
 case yield l => exact LocN.round _ _
 rename_i fn x y
 cases fn <;> try exact Loc.none
 rename_i g
 dsimp only
 cases E.ext.get g with
 | some k => exact loc_extV _ _
 | none => exact Loc.cond (LocN.enter _ _) Loc.none
theorem loc_extendAt (E : Env) (e : TypeId) (size bytes : Nat) (x y : V) : LocP F fun s => qds E e size bytes x y s := by
 unfold qds
 cases x <;> try exact Loc.none
 exact Loc.opt fun n => Loc.cond (Loc.opt fun z => Loc.cond (LocP.nw (fun k => V.oslice k 0 n size) fun _ => _) Loc.none) Loc.none
theorem loc_builtinF (E : Env) (b : Builtin) (ts : List TypeId) (args : List Operand) (a : Ac) : LocN F fun s => (qa4 E b ts args).run a s := by
 cases b <;> try exact Loc.none
 case append =>
  unfold qa4
  dsimp only
  split
  · refine Loc.opt fun q => Loc.opt fun d2 => Loc.cond ?_ (Loc.cond ?_ Loc.none)
    · refine Loc.opt fun vx => Loc.opt fun vy => Loc.opt fun n => Loc.opt fun m => Loc.cond ?_ Loc.none
      exact LocN.vS (loc_appendV _ _ _ _ _)
    · exact Loc.opt fun vx => Loc.opt fun vy => LocN.vS (loc_extendAt _ _ _ _ _ _)
  · exact Loc.none
 case cap =>
  unfold qa4
  dsimp only
  split
  · refine Loc.opt fun d => ?_
    cases d <;> try exact Loc.none
    refine Loc.opt fun v => ?_
    cases v <;> first | exact Loc.none | exact LocN.ret _
  · exact Loc.none
 case copy =>
  unfold qa4
  dsimp only
  split
  · refine Loc.opt fun q => Loc.opt fun vx => Loc.opt fun vy => Loc.opt fun m => Loc.opt fun k => ?_
    exact Loc.bind (loc_firstV _ _ _) fun l => by dsimp only; exact loc_copyInto _ _ _ _
  · exact Loc.none
 case delete =>
  unfold qa4
  dsimp only
  split
  · exact Loc.opt fun m => Loc.opt fun k => LocN.uS (loc_deleteV _ _ _ _)
  · exact Loc.none
 case len =>
  unfold qa4
  dsimp only
  split
  · exact Loc.opt fun d => Loc.opt fun v => loc_lenAny _ _ _
  · exact Loc.none
 case unsafeSliceData =>
  unfold qa4
  dsimp only
  split
  · refine Loc.opt fun v => ?_
    cases v <;> first | exact Loc.none | exact LocN.ret _ | exact Loc.cond (LocN.ret _) Loc.none
  · exact Loc.none
 case unsafeString =>
  unfold qa4
  dsimp only
  split
  · refine Loc.opt fun d => Loc.opt fun u => Loc.opt fun p => Loc.opt fun vn => Loc.opt fun n => ?_
    cases p <;> first | exact Loc.none | exact Loc.cond (LocN.ret _) Loc.none | skip
    refine Loc.cond (LocN.ret _) (Loc.cond ?_ Loc.none)
    refine Loc.bindLies _ _ _ _ _ fun hb => ?_
    refine Loc.bind (loc_ldN _ 1 _ _) fun l => ?_
    dsimp only
    refine Loc.opt fun k => ?_
    exact Loc.of_eq (g := fun s => ((fun s => some (setO s _ .dead)) s).bind fun s => some (Nx.val (.str k.1 k.2) s)) (fun _ => rfl) (Loc.bindS (LocS.setO hb _) (LocN.ret _))
  · exact Loc.none
 case max =>
  unfold qa4
  dsimp only
  split
  · exact Loc.opt fun v => Loc.opt fun vs => LocN.pS _
  · exact Loc.none
 case min =>
  unfold qa4
  dsimp only
  split
  · exact Loc.opt fun v => Loc.opt fun vs => LocN.pS _
  · exact Loc.none
 case panic =>
  unfold qa4
  dsimp only
  split
  · refine Loc.opt fun v => ?_
    cases v <;> first | exact Loc.none | exact LocN.pan _
  · exact Loc.none
 case recover => exact LocN.recover
theorem loc_opF (E : Env) (op : Op) (a : Ac) : LocN F fun s => (opF E op).run a s := by
 cases op <;> try exact Loc.none
 case move => exact LocN.pS _
 case assign => exact LocN.pS _
 case pick =>
  refine Loc.opt fun v => ?_
  cases v <;> try exact Loc.none
  exact Loc.cond (LocN.pS _) (LocN.pS _)
 case alloc t => exact Loc.opt fun z => LocN.nw (fun k => V.ptr k 0) fun _ => _
 case box t x => exact Loc.opt fun v => Loc.cond Loc.none (LocN.nw (fun k => V.ptr k 0) fun _ => _)
 case build => exact Loc.opt fun v => LocN.pS _
 case buildSlice t len parts =>
  refine Loc.opt fun q => Loc.cond ?_ Loc.none
  refine Loc.opt fun z => Loc.opt fun ps => Loc.cond ?_ Loc.none
  exact Loc.opt fun l => LocN.nw (fun k => V.slice k 0 len len) fun _ => _
 case load =>
  refine Loc.opt fun v => ?_
  cases v <;> try exact Loc.none
  · exact LocN.vS (loc_loadV _ _ _ _)
  · exact Loc.cond (LocN.ret _) Loc.none
 case store =>
  refine Loc.opt fun v => ?_
  cases v <;> try exact Loc.none
  exact Loc.opt fun v => LocN.uS (loc_storeV _ _ _ _ _)
 case nilCheck => exact Loc.opt fun v => Loc.cond (LocN.ret _) Loc.none
 case binOp => exact Loc.opt fun v => Loc.opt fun u => LocN.pS _
 case unOp => exact Loc.opt fun v => LocN.pS _
 case convert => exact Loc.opt fun v => LocN.vS (loc_convertV _ _ _ _)
 case makeInterface => exact Loc.opt fun d => Loc.cond (Loc.opt fun v => LocN.ret _) Loc.none
 case makeFunc => exact Loc.opt fun d => Loc.opt fun v => LocN.ret _
 case makeMap t r =>
  cases r with
  | none => exact LocN.nw (fun k => V.map k) fun _ => _
  | some x => exact Loc.opt fun d => Loc.opt fun v => Loc.cond (LocN.nw (fun k => V.map k) fun _ => _) Loc.none
 case makeSlice =>
  refine Loc.opt fun q => Loc.opt fun vl => Loc.opt fun n => Loc.opt fun vc => Loc.opt fun m => Loc.cond ?_ Loc.none
  exact Loc.opt fun z => Loc.cond (LocN.nw (fun k => V.slice k 0 n m) fun _ => _) Loc.none
 case slice => exact Loc.opt fun v => Loc.opt fun l => Loc.opt fun h => Loc.opt fun m => LocN.vS (loc_sliceV _ _ _ _ _ _)
 case fieldAddr =>
  refine Loc.opt fun p => Loc.cond Loc.none (Loc.opt fun v => ?_)
  cases v <;> try exact Loc.none
  · exact LocN.ret _
  · rename_i u
    cases u <;> first | exact Loc.none | exact Loc.opt fun _ => LocN.ret _
 case field =>
  refine Loc.opt fun p => Loc.opt fun v => ?_
  cases v <;> first | exact Loc.none | exact LocN.pS _
 case indexAddr =>
  refine Loc.opt fun d => Loc.opt fun vi => Loc.opt fun n => Loc.opt fun v => ?_
  cases d <;> try exact Loc.none
  · refine Loc.opt fun z => ?_
    cases v <;> first | exact Loc.none | exact Loc.cond (LocN.ret _) Loc.none | exact Loc.cond (Loc.opt fun _ => LocN.ret _) Loc.none
  · refine Loc.opt fun z => ?_
    cases v <;> try exact Loc.none
    · exact Loc.cond (LocN.ret _) Loc.none
    · rename_i u
      cases u <;> first | exact Loc.none | exact Loc.cond (Loc.opt fun _ => LocN.ret _) Loc.none
 case index =>
  refine Loc.opt fun d => Loc.opt fun vi => Loc.opt fun n => Loc.opt fun v => ?_
  cases d <;> try exact Loc.none
  · cases v <;> first | exact Loc.none | exact Loc.cond (LocN.ret _) Loc.none
  · cases v <;> first | exact Loc.none | exact Loc.opt fun z => Loc.cond (LocN.pS _) Loc.none
 case lookup => exact Loc.opt fun m => Loc.opt fun k => LocN.vS (loc_lookupV _ _ _ _ _)
 case mapUpdate => exact Loc.opt fun m => Loc.opt fun k => Loc.opt fun v => LocN.uS (loc_updateV _ _ _ _ _)
 case insert => exact Loc.opt fun m => Loc.opt fun k => Loc.opt fun v => LocN.uS (loc_updateV _ _ _ _ _)
 case mapEntry => exact Loc.opt fun m => Loc.opt fun k => LocN.vS (loc_entryV _ _ _ _)
 case entryStore => exact Loc.opt fun m => Loc.opt fun k => Loc.opt fun v => LocN.uS (loc_entryStoreV _ _ _)
 case typeAssert x xt asserted ok =>
  refine Loc.opt fun d => Loc.cond (Loc.opt fun v => ?_) Loc.none
  have no : LocN F fun s => qda E asserted ok s := Loc.cond (Loc.opt fun z => LocN.ret _) Loc.none
  cases v <;> try exact Loc.none
  · exact Loc.cond (LocN.ret _) no
  · exact no
 case range =>
  refine Loc.opt fun d => ?_
  cases d <;> try exact Loc.none
  refine Loc.opt fun v => ?_
  cases v <;> first | exact Loc.none | exact LocN.nw (fun k => V.ptr k 0) fun _ => _
 case next =>
  refine Loc.cond (Loc.opt fun v => ?_) Loc.none
  cases v <;> try exact Loc.none
  rename_i b off
  refine Loc.cond ?_ Loc.none
  refine Loc.bindGet b (fun _ _ _ _ _ _ => rfl) fun hb o => ?_
  dsimp only
  cases o <;> try exact Loc.none
  refine Loc.cond ?_ (LocN.ret _)
  exact Loc.of_eq (fun _ => rfl) (LocN.vS (loc_setRet hb _ _))
 case extract =>
  refine Loc.opt fun v => ?_
  cases v <;> first | exact Loc.none | exact LocN.pS _
 case panic =>
  refine Loc.opt fun v => ?_
  cases v <;> first | exact Loc.none | exact LocN.pan _
 case call c =>
  unfold opF
  dsimp only
  cases c.callee with
  | builtin b => exact loc_builtinF _ _ _ _ _
  | value f => exact Loc.opt fun fv => Loc.opt fun vs => loc_callV _ _ _
  | invoke x n => exact Loc.none
 case defer c =>
  unfold opF
  dsimp only
  cases c.callee with
  | builtin b => exact Loc.none
  | value f =>
   refine Loc.opt fun fv => ?_
   cases fv <;> first | exact Loc.none | exact Loc.opt fun vs => LocN.defer _
  | invoke x n => exact Loc.none
abbrev LocX (F : Fz) (f : St → Option (X × Ac × St)) : Prop := Loc F (fun r => r.2.2) upX f
abbrev LocM (F : Fz) (f : St → Option (X × Ac × Md × St)) : Prop := Loc F (fun r => r.2.2.2) upM f
section
variable {β γ : Type} {st : β → St} {up : β → St → β} {st1 : γ → St} {up1 : γ → St → γ}
theorem Loc.bindN {f : St → Option Nx} {g : Nx → Option β} (hf : LocN F f) (hg : ∀ r : Nx, Loc F st up fun s => g (r.up s)) : Loc F st up fun s => (f s).bind g := Loc.bindG nx_up hf hg
theorem Loc.bindX {f : St → Option (X × Ac × St)} {g : X × Ac × St → Option β} (hf : LocX F f) (hg : ∀ x a, Loc F st up fun s => g (x, a, s)) : Loc F st up fun s => (f s).bind g :=
 Loc.bindG (up1 := upX) (fun _ => rfl) hf fun r => hg r.1 r.2.1
theorem Loc.bindM {f : St → Option (X × Ac × Md × St)} {g : X × Ac × Md × St → Option β} (hf : LocM F f) (hg : ∀ x a m, Loc F st up fun s => g (x, a, m, s)) : Loc F st up fun s => (f s).bind g :=
 Loc.bindG (up1 := upM) (fun _ => rfl) hf fun r => hg r.1 r.2.1 r.2.2.1
end
theorem LocX.ret (x : X) (a : Ac) : LocX F fun s => some (x, a, s) := fun s r h => by
 simp only [oS] at h
 subst h
 exact fun t hA => ⟨t, rfl, Ok.refl hA⟩
theorem LocM.ret (x : X) (a : Ac) (m : Md) : LocM F fun s => some (x, a, m, s) := fun s r h => by
 simp only [oS] at h
 subst h
 exact fun t hA => ⟨t, rfl, Ok.refl hA⟩
def EVLoc (F : Fz) (self : EV) : Prop := (∀ f args, LocP F fun s => self.f f args s) ∧ ∀ l args, LocP F fun s => self.r l args s
def CFLoc (F : Fz) (c : CF) : Prop := ∀ self, EVLoc F self → ∀ a, LocX F fun s => c.run self a s
theorem loc_afterOp {self : EV} (hs : EVLoc F self) (p : PF) (a : Ac) (nx : Nx) : LocX F fun s => qb4 p self a (nx.up s) := by
 cases nx with
 | val v s0 =>
  simp only [Nx.up, qb4, qbj, qam]
  exact Loc.opt fun a' => LocX.ret _ _
 | enter f args s0 =>
  simp only [Nx.up, qb4, qam]
  refine Loc.bind (hs.1 f args) fun e => ?_
  cases e with
  | ret v =>
   simp only [qbh, qbj, qam]
   exact Loc.opt fun a' => LocX.ret _ _
  | pan v => exact LocX.ret _ _
 | round f args s0 =>
  simp only [Nx.up, qb4, qam]
  refine Loc.bind (hs.2 f args) fun e => ?_
  cases e with
  | ret v =>
   simp only [qbh, qbj, qam]
   exact Loc.opt fun a' => LocX.ret _ _
  | pan v => exact LocX.ret _ _
 | defer d s0 =>
  simp only [Nx.up, qb4]
  cases a.round with
  | none => exact Loc.opt fun a' => LocX.ret _ _
  | some l => exact Loc.none
 | recover s0 => exact Loc.none
 | pan v s0 => exact LocX.ret _ _
theorem loc_op1 (E : Env) (ops : Array Oper) (o : Oper) : CFLoc F (op1 E ops o) := fun self hs a => by
 refine Loc.opt fun b => Loc.cond ?_ (Loc.opt fun a' => LocX.ret _ _)
 exact Loc.bindN (loc_opF E o.op a) fun nx => loc_afterOp hs _ _ nx
theorem loc_skip : CFLoc F ⟨skipC⟩ := fun _ _ _ => LocX.ret _ _
theorem loc_seqC {x y : CF} (hx : CFLoc F x) (hy : CFLoc F y) : CFLoc F ⟨seqC x y⟩ := fun self hs a => by
 refine Loc.bindX (hx self hs a) fun e a' => ?_
 cases e with
 | norm => exact hy self hs a'
 | _ => exact LocX.ret _ _
theorem loc_opsL (E : Env) (ops : Array Oper) : ∀ l, CFLoc F (opsL E ops l)
 | [] => loc_skip
 | o :: l => loc_seqC (loc_op1 E ops o) (loc_opsL E ops l)
def DFLoc (F : Fz) (d : DF) : Prop := ∀ self, EVLoc F self → ∀ a s r, d.run self a s = some r → ∀ t, Same F s t → ∃ t', d.run self a t = some (r.1, r.2.1, t', r.2.2.2) ∧ Same F r.2.2.1 t' ∧ ∀ L ∈ r.2.2.2, Wd F L
theorem loc_drawNil : DFLoc F ⟨drawNil⟩ := fun _ _ a s r h t hA => by
 have h' : some (X.norm, a, s, []) = some r := h
 simp only [oS] at h'
 subst h'
 exact ⟨t, rfl, hA, fun _ h => by cases h⟩
theorem loc_drawC {x : CF} {k : DF} (hx : CFLoc F x) (hk : DFLoc F k) : DFLoc F ⟨qgp x k⟩ := fun self hs a s r h t hA => by
 have h' : qgp x k self a s = some r := h
 unfold qgp at h'
 simp only [oI] at h'
 obtain ⟨⟨x1, a1, s1⟩, h1, h2⟩ := h'
 obtain ⟨t1, e1, A1⟩ := hx self hs a _ _ h1 { t with on := true, log := [] } ⟨hA.next, hA.heap, hA.fs, hA.ft, hA.lt⟩
 obtain ⟨d, l1, l2, l3⟩ := A1.log
 have hl1 : s1.log = d := by have := l1 rfl; simpa using this
 have hl2 : t1.log = d := by have := l2 rfl; simpa using this
 have hrun : ∀ R, qcq k self (x1, a1, t1) = some R → qgp x k self a t = some R := fun R hR => by
  unfold qgp
  have e1' : x.run self a { t with on := true, log := [] } = some (x1, a1, t1) := e1
  rw [e1']; exact hR
 cases x1 with
 | norm =>
  simp only [qcq, oI, oS] at h2
  obtain ⟨q, h3, rfl⟩ := h2
  obtain ⟨t2, e2, A2, w2⟩ := hk self hs a1 s1 q h3 t1 A1.same
  refine ⟨t2, hrun _ ?_, A2, fun L hL => ?_⟩
  · show ((k.run self a1 t1).bind _) = _
    rw [e2, hl1, hl2]; rfl
  · rcases List.mem_cons.1 hL with rfl | hL
    · rw [hl1]; exact l3
    · exact w2 L hL
 | exit id =>
  simp only [qcq, oS] at h2
  subst h2
  exact ⟨t1, hrun _ (by simp only [qcq, hl1, hl2]), A1.same, fun L hL => by rw [List.mem_singleton.1 hL, hl1]; exact l3⟩
 | ret =>
  simp only [qcq, oS] at h2
  subst h2
  exact ⟨t1, hrun _ (by simp only [qcq, hl1, hl2]), A1.same, fun L hL => by rw [List.mem_singleton.1 hL, hl1]; exact l3⟩
 | pan v =>
  simp only [qcq, oS] at h2
  subst h2
  exact ⟨t1, hrun _ (by simp only [qcq, hl1, hl2]), A1.same, fun L hL => by rw [List.mem_singleton.1 hL, hl1]; exact l3⟩
theorem loc_opsD (E : Env) (ops : Array Oper) : ∀ l, DFLoc F (opsD E ops l)
 | [] => loc_drawNil
 | o :: l => loc_drawC (loc_op1 E ops o) (loc_opsD E ops l)
theorem qjc : ∀ (ls : List (List LE)) (l : List LE), qij ls l = qij ls [] ++ l
 | [], l => rfl
 | x :: ls, l => by
  show qij ls (x ++ l) = qij ls (x ++ []) ++ l
  rw [qjc ls (x ++ l), qjc ls (x ++ []), List.append_nil, List.append_assoc]
theorem joinL_mem : ∀ {ls : List (List LE)} {e : LE}, e ∈ qij ls [] → ∃ L ∈ ls, e ∈ L
 | [], e, h => by cases h
 | x :: ls, e, h => by
  have h' : e ∈ qij ls (x ++ []) := h
  rw [qjc, List.append_nil] at h'
  rcases List.mem_append.1 h' with h | h
  · obtain ⟨L, h1, h2⟩ := joinL_mem h
    exact ⟨L, List.mem_cons_of_mem _ h1, h2⟩
  · exact ⟨x, List.mem_cons_self .., h⟩
theorem relog_ok {s t s1 t1 : St} (h : Same F s1 t1) {ls : List (List LE)} (hw : ∀ L ∈ ls, Wd F L) : Ok F s (qb2 s s1 ls) t (qb2 t t1 ls) := by
 have hs : ∀ u v : St, (qb2 u v ls).on = u.on ∧ (qb2 u v ls).heap = v.heap ∧ (qb2 u v ls).next = v.next ∧ (u.on = true → (qb2 u v ls).log = qij ls [] ++ u.log) := fun u v => by
  unfold qb2
  cases hu : u.on
  · exact ⟨rfl, rfl, rfl, fun h => by cases h⟩
  · exact ⟨rfl, rfl, rfl, fun _ => qjc ls u.log⟩
 obtain ⟨a1, a2, a3, a4⟩ := hs s s1
 obtain ⟨b1, b2, b3, b4⟩ := hs t t1
 refine ⟨⟨by rw [a3, b3]; exact h.next, fun x hx => by rw [a2, b2]; exact h.heap x hx, by rw [a2]; exact h.fs, by rw [b2]; exact h.ft, by rw [a3]; exact h.lt⟩, a1, b1, _, a4, b4, fun e he => ?_⟩
 obtain ⟨L, h1, h2⟩ := joinL_mem he
 exact hw L h1 e h2
theorem loc_drawnC (pl : Plan) {f : DF} (hf : DFLoc F f) : CFLoc F ⟨qks pl f⟩ := fun self hs a => by
 refine Loc.cond ?_ Loc.none
 intro s r h
 simp only [oI] at h
 obtain ⟨q, hq, h⟩ := h
 have hq' : f.run self a s = some q := hq
 have key : ∃ e a', r = (e, a', qb2 s q.2.2.1 q.2.2.2) ∧ ∀ t t', qbd pl a t (q.1, q.2.1, t', q.2.2.2) = some (e, a', qb2 t t' q.2.2.2) := by
  obtain ⟨e, a1, s1, ls⟩ := q
  cases e with
  | norm =>
   simp only [qbd] at h ⊢
   cases hc : (qau ls pl.prs && Nat.beq a1.defers.length a.defers.length) with
   | false => rw [hc] at h; cases h
   | true =>
    rw [hc] at h
    simp only [cond_true, oS] at h
    exact ⟨.norm, _, h.symm, fun _ _ => rfl⟩
  | pan v =>
   simp only [qbd] at h ⊢
   cases hc : (qau ls pl.prs && Nat.beq a1.defers.length a.defers.length) with
   | false => rw [hc] at h; cases h
   | true =>
    rw [hc] at h
    simp only [cond_true, oI, oS] at h
    obtain ⟨a2, hp, h⟩ := h
    exact ⟨.pan v, a2, h.symm, fun _ _ => by rw [hp]; rfl⟩
  | exit id => simp [qbd] at h
  | ret => simp [qbd] at h
 obtain ⟨e, a', rfl, hend⟩ := key
 intro t hA
 obtain ⟨t1, e1, A1, w1⟩ := hf self hs a s q hq' t hA
 refine ⟨qb2 t t1 q.2.2.2, ?_, relog_ok A1 w1⟩
 have e1' : f.run self a t = some (q.1, q.2.1, t1, q.2.2.2) := e1
 simp only [e1', oB]
 exact hend t t1
theorem loc_setX (x : X) (a : Ac) {l : Nat} (hb : l ≠ F.b) (o : O) : LocX F fun s => some (x, a, setO s l o) := Loc.of_eq (g := fun s => ((fun s => some (setO s l o)) s).bind fun s => some (x, a, s)) (fun _ => rfl) (Loc.bindS (LocS.setO hb o) (LocX.ret _ _))
theorem loc_endLoop (l : Nat) (a : Ac) : LocX F fun s => endLoop l a s := by
 unfold endLoop
 refine Loc.bindGet l (fun _ _ _ _ _ _ => rfl) fun hb o => ?_
 dsimp only
 cases o <;> try exact Loc.none
 rename_i st pend tmps n params assign body
 refine Loc.cond Loc.none ?_
 cases pend with
 | none => exact loc_setX _ _ hb _
 | some c => cases c <;> first | exact Loc.none | exact loc_setX _ _ hb _
theorem loc_rangeCall {self : EV} (hs : EVLoc F self) (l : Nat) (a : Ac) (nx : Nx) : LocX F fun s => rangeCall self l a (nx.up s) := by
 cases nx <;> try exact Loc.none
 case enter f args s0 =>
  refine Loc.bind (hs.1 f args) fun e => ?_
  cases e with
  | ret v => exact loc_endLoop l a
  | pan v => exact LocX.ret _ _
theorem loc_rangeC (E : Env) (f : Operand) (params : List Nat) (assign body : Code) : CFLoc F ⟨qe7 E f params assign body⟩ := fun self hs a => by
 show LocX F fun s => qe7 E f params assign body self a s
 obtain ⟨tm, nn, df, rd⟩ := a
 unfold qe7
 cases rd with
 | none =>
  dsimp only
  refine Loc.opt fun fv => ?_
  have h2 : LocP F fun s => some (s.next, nw (nw s .defb) (.loop 0 none (qdo params assign body tm) nn params assign body)) :=
   Loc.of_eq (g := fun s => ((fun s => some (s.next, nw s .defb)) s).bind fun p => ((fun s => some (s.next, nw s (.loop 0 none (qdo params assign body tm) nn params assign body))) p.2).bind fun q => some (p.1, q.2)) (fun _ => rfl)
    (Loc.bind (LocP.nw (fun k => k) fun _ => .defb) fun k => by
     dsimp only
     exact Loc.bind (LocP.nw (fun k => k) fun _ => .loop 0 none (qdo params assign body tm) nn params assign body) fun _ => by dsimp only; exact LocP.ret k)
  refine Loc.of_eq (g := fun s => ((fun s => some (s.next, nw (nw s .defb) (.loop 0 none (qdo params assign body tm) nn params assign body))) s).bind fun p => (qeh E fv [.yield (p.1 + 1)] p.2).bind
   (rangeCall self (p.1 + 1) { tmps := tm, n := nn, defers := { mark := some p.1, f := .func 0, captured := [], args := [] } :: df, round := none })) (fun _ => rfl) ?_
  exact Loc.bind h2 fun k => by dsimp only; exact Loc.bindN (loc_callV E fv _) fun nx => loc_rangeCall hs _ _ nx
 | some l0 =>
  dsimp only
  refine Loc.bindGet l0 (fun _ _ _ _ _ _ => rfl) fun hb o => ?_
  dsimp only
  cases o <;> try exact Loc.none
  refine Loc.opt fun fv => ?_
  refine Loc.of_eq (g := fun s => ((fun s => some (s.next, nw s (.loop 0 none (qdo params assign body tm) nn params assign body))) s).bind fun p => (qeh E fv [.yield p.1] p.2).bind (rangeCall self p.1 { tmps := tm, n := nn, defers := df, round := some l0 })) (fun _ => rfl) ?_
  exact Loc.bind (LocP.nw (fun k => k) fun _ => .loop 0 none (qdo params assign body tm) nn params assign body) fun k => by dsimp only; exact Loc.bindN (loc_callV E fv _) fun nx => loc_rangeCall hs _ _ nx
theorem loc_loopC {x : CF} (hx : CFLoc F x) : ∀ n, CFLoc F ⟨qjf x n⟩
 | 0 => fun _ _ _ => Loc.none
 | n + 1 => fun self hs a => by
  refine Loc.bindX (hx self hs a) fun e a' => ?_
  cases e with
  | norm => exact loc_loopC hx n self hs a'
  | _ => exact LocX.ret _ _
theorem loc_comp (E : Env) : ∀ c, CFLoc F (qdl E c)
 | .skip => loc_skip
 | .region _ ops false => loc_opsL E ops _
 | .region _ ops true => loc_drawnC _ (loc_opsD E ops _)
 | .seq x y => loc_seqC (loc_comp E x) (loc_comp E y)
 | .cond c x y => fun self hs a => by
  refine Loc.opt fun v => ?_
  cases v <;> try exact Loc.none
  exact Loc.cond (loc_comp E x self hs a) (loc_comp E y self hs a)
 | .block id x => fun self hs a => by
  refine Loc.bindX (loc_comp E x self hs a) fun e a' => ?_
  cases e <;> exact LocX.ret _ _
 | .loop x => loc_loopC (loc_comp E x) qa1
 | .rangeFunc f ps x y => loc_rangeC E f ps.toList x y
 | .exit id => fun _ _ _ => LocX.ret _ _
 | .scope x => loc_comp E x
 | .label _ => loc_skip
 | .goto _ => fun _ _ _ => Loc.none
 | .ret => fun _ _ _ => LocX.ret _ _
 | .refuse _ => fun _ _ _ => Loc.none
theorem loc_opsS (E : Env) {self : EV} (hs : EVLoc F self) (ops : Array Oper) : ∀ (l : List Oper) (a : Ac) (m : Md), LocM F fun s => opsS E self ops l a m s
 | [], a, m => LocM.ret _ _ _
 | o :: l, a, m => by
  unfold opsS
  refine Loc.cond (Loc.opt fun a' => loc_opsS E hs ops l _ _) ?_
  refine Loc.bindX (loc_op1 E ops o { self with r := fun _ _ _ => none } ⟨hs.1, fun _ _ => Loc.none⟩ a) fun e a' => ?_
  cases e with
  | norm => exact loc_opsS E hs ops l a' m
  | _ => exact LocM.ret _ _ _
theorem loc_evS (E : Env) {self : EV} (hs : EVLoc F self) : ∀ (d : Nat) (c : Code) (a : Ac) (m : Md), LocM F fun s => evS E self d c a m s
 | 0, _, _, _ => Loc.none
 | d + 1, c, a, m => by
  have other : LocM F fun s => ((qdl E c).run self a s).bind fun (x, a, s) => some (x, a, m, s) :=
   Loc.bindX (loc_comp E c self hs a) fun e a' => LocM.ret _ _ _
  cases c <;> try exact other
  case seq x y =>
   refine Loc.bindM (loc_evS E hs d x a m) fun e a' m' => ?_
   cases e with
   | norm => exact loc_evS E hs d y a' m'
   | _ => exact LocM.ret _ _ _
  case cond c x y =>
   refine Loc.opt fun v => ?_
   cases v <;> try exact Loc.none
   exact loc_evS E hs d _ a m
  case region id ops draw =>
   cases draw with
   | false => exact loc_opsS E hs ops _ a m
   | true => exact other
theorem loc_resultsV (E : Env) (a : Ac) : ∀ l, LocP F fun s => qas E a l s
 | [] => LocP.ret _
 | .tmp t :: l => by
  unfold qas
  exact Loc.opt fun v => Loc.bind (loc_resultsV E a l) fun vs => by dsimp only; exact LocP.ret _
 | .cell t ty :: l => by
  unfold qas
  refine Loc.opt fun v => ?_
  cases v <;> try exact Loc.none
  refine Loc.bind (loc_loadV E ty _ _) fun u => ?_
  dsimp only
  exact Loc.bind (loc_resultsV E a l) fun vs => by dsimp only; exact LocP.ret _
theorem loc_leaves (E : Env) {self : EV} (hs : EVLoc F self) (fn : Func) (a : Ac) : ∀ (ds : List AD) (m : Md), LocP F fun s => qbc E self fn a ds m s
 | [], m => by
  cases m with
  | ret => exact Loc.bind (loc_resultsV E a _) fun vs => by dsimp only; exact LocP.ret _
  | pan v => exact LocP.ret _
  | got v => exact Loc.none
 | d :: ds, m => by
  unfold qbc
  cases d.mark with
  | some r =>
   dsimp only
   refine Loc.bindGet r (fun _ _ _ _ _ _ => rfl) fun hb o => ?_
   dsimp only
   cases o <;> try exact Loc.none
   exact Loc.of_eq (g := fun s => ((fun s => some (setO s r .dead)) s).bind fun s => qbc E self fn a ds m s) (fun _ => rfl) (Loc.bindS (LocS.setO hb .dead) (loc_leaves E hs fn a ds m))
  | none =>
  dsimp only
  cases d.f <;> try exact Loc.none
  refine Loc.opt fun g => Loc.opt fun c => Loc.cond ?_ Loc.none
  refine Loc.bindM (loc_evS E hs 50 c _ m) fun e a' m' => ?_
  dsimp only
  refine Loc.cond ?_ Loc.none
  exact Loc.bind (loc_resultsV E a' _) fun vs => by dsimp only; exact loc_leaves E hs fn a ds _
def KnLoc (F : Fz) (K : FuncId → Option KF) : Prop := ∀ f g, K f = some g → ∀ args, LocP F fun s => g.run args s
theorem loc_stepF (E : Env) {K : FuncId → Option KF} (hK : KnLoc F K) {self : EV} (hs : EVLoc F self) (f : FuncId) (args : List V) : LocP F fun s => stepF E K self f args s := by
 unfold stepF fnOf
 cases hg : K f with
 | some g => exact hK f g hg args
 | none =>
 cases hf : E.fns.get f with
 | none => exact Loc.none
 | some fn =>
 cases hb : fn.body with
 | none => simp only [oB, hb]; exact Loc.none
 | some c =>
 simp only [oB, hb]
 refine Loc.cond ?_ Loc.none
 refine Loc.bindX (loc_comp E c self hs _) fun e a' => ?_
 cases e with
 | norm => exact loc_leaves E hs fn a' a'.defers .ret
 | ret => exact loc_leaves E hs fn a' a'.defers .ret
 | pan v => exact loc_leaves E hs fn a' a'.defers (.pan v)
 | exit id => exact Loc.none
theorem loc_endRound (l st : Nat) (pend : Option Code) (back : Bool) : LocP F fun s => endRound l st pend back s := by
 unfold endRound
 refine Loc.bindGet l (fun _ _ _ _ _ _ => rfl) fun hb o => ?_
 dsimp only
 cases o <;> try exact Loc.none
 exact loc_setRet hb _ _
theorem loc_roundEnd (l : Nat) (x : X) (a : Ac) : LocP F fun s => qcz l (x, a, s) := by
 unfold qcz
 dsimp only
 refine Loc.cond ?_ Loc.none
 cases x with
 | norm => exact loc_endRound _ _ _ _
 | ret => exact loc_endRound _ _ _ _
 | exit id => exact loc_endRound _ _ _ _
 | pan v => exact Loc.none
theorem loc_roundBody (E : Env) {self : EV} (hs : EVLoc F self) (l : Nat) (body : Code) (x : X) (a : Ac) : LocP F fun s => qcw E self l body (x, a, s) := by
 unfold qcw
 cases x <;> try exact Loc.none
 dsimp only
 refine Loc.bindGet l (fun _ _ _ _ _ _ => rfl) fun hb o => ?_
 dsimp only
 cases o <;> try exact Loc.none
 rename_i st pend tmps n params assign body'
 refine Loc.cond ?_ Loc.none
 refine Loc.of_eq (g := fun s => ((fun s => some (setO s l (.loop 2 pend tmps n params assign body'))) s).bind fun s => ((qdl E body).run self a s).bind (qcz l)) (fun _ => rfl) ?_
 exact Loc.bindS (LocS.setO hb _) (Loc.bindX (loc_comp E body self hs a) fun e a' => loc_roundEnd l e a')
theorem loc_stepR (E : Env) {self : EV} (hs : EVLoc F self) (l : Nat) (args : List V) : LocP F fun s => qlh E self l args s := by
 unfold qlh
 refine Loc.bindGet l (fun _ _ _ _ _ _ => rfl) fun hb o => ?_
 dsimp only
 cases o <;> try exact Loc.none
 refine Loc.opt fun t => ?_
 exact Loc.bindX (loc_comp E _ self hs _) fun e a' => loc_roundBody E hs l _ e a'
theorem loc_ev (E : Env) {K : FuncId → Option KF} (hK : KnLoc F K) : ∀ n, EVLoc F (ev E K n)
 | 0 => ⟨fun _ _ => Loc.none, fun _ _ => Loc.none⟩
 | n + 1 => ⟨fun f args => loc_stepF E hK (loc_ev E hK n) f args, fun l args => loc_stepR E (loc_ev E hK n) l args⟩
theorem knLoc_nil : KnLoc F (fun _ => Option.none) := fun _ _ h => by cases h
theorem KnLoc.add {K : FuncId → Option KF} (h : KnLoc F K) (f : FuncId) {g : KF} (hg : ∀ args, LocP F fun s => g.run args s) : KnLoc F (qd1 K f g) := fun x y hx => by
 unfold qd1 at hx
 cases hb : Nat.beq x f with
 | true =>
  rw [hb] at hx
  simp only [cond_true, oS] at hx
  subst hx
  exact hg
 | false => rw [hb] at hx; exact h x y hx
end Go.Proofs.Ytmeohejdafbodaa.Ev.Fz
namespace Go.Proofs.Ytmeohejdafbodaa.Ev
open Go.RowKit Go.Maps Go.Sort Go.Shelf Go.Proofs
noncomputable def qis : List (Tr V) → Option (List (Nat × Nat))
 | [] => some []
 | t :: l => match t.get 0 with
  | some (.str a k) => (qis l).bind fun q => some ((a, k) :: q)
  | _ => none
def sortT : List (Nat × Nat) → List (Nat × Nat)
 | [] => []
 | x :: l => insS x.1 x.2 (sortT l)
noncomputable def qib (b off n : Nat) (s : St) : Option (En × St) :=
 bif Nat.beq n 0 then some (.ret (.tuple []), s) else (ldN b 1 n off s).bind fun p => (qis p.1).bind fun l =>
  bif Nat.blt n 1000000 && qny (sortT l) then (stN b 1 (qkj (sortT l)) off p.2).bind fun s => some (.ret (.tuple []), s) else none
noncomputable def sortK (v : V) (s : St) : Option (En × St) := match v with
 | .nilslice => some (.ret (.tuple []), s)
 | .slice b off n _ => qib b off n s
 | .oslice b off n z => bif Nat.beq z 1 then qib b off n s else none
 | _ => none
noncomputable def kfSort : KF := ⟨fun args s => match args with
 | [v] => sortK v s
 | _ => none⟩
structure SortOk (P : Program) (f : FuncId) : Prop where
 some : ∀ (blk off cap : Nat) (ss : List (List UInt8)) (w : World), Sort.Holds encStr w blk off ss.toArray → blk < w.heap.size → ss.length < 4611686018427387904 →
  Calls P f #[.slice (some ⟨blk, off, none⟩) ss.length cap] w fun e w' => e = .returned (.tuple #[]) ∧ ∃ n os, w' = Sort.grow (Sort.putRow encStr (Sort.ahead w n) blk off (ss.mergeSort fun x y => decide (x ≤ y)).toArray) os
 none : ∀ (p : Option Addr) (cap : Nat) (w : World), Calls P f #[.slice p 0 cap] w fun e w' => e = .returned (.tuple #[]) ∧ w' = w
theorem sortOk_of {P : Program} {ρ : Ren} (L : SlLaysM.n6 P ρ) : SortOk P (ρ.f 6) :=
 ⟨fun blk off cap ss w h1 h2 h3 => AnyM.slices_Sort_string L blk off cap ss w h1 h2 h3, fun p cap w => AnyM.slices_Sort_string_none L p cap w⟩
section
theorem qo9 (b off n : Nat) : LocP fun s => qib b off n s := by
 unfold qib
 refine Loc.cond (LocP.ret _) (Loc.bind (loc_ldN _ _ _ _) fun l => ?_)
 dsimp only
 exact Loc.opt fun q => Loc.cond (Loc.bindS (loc_stN _ _ _ _) (LocP.ret _)) Loc.none
theorem sortAt_lg (b off n : Nat) : Lg.LocP fun s => qib b off n s := by
 unfold qib
 refine Lg.Loc.cond (Lg.LocP.ret _) (Lg.Loc.bind (Lg.loc_ldN _ _ _ _) fun l => ?_)
 dsimp only
 exact Lg.Loc.opt fun q => Lg.Loc.cond (Lg.Loc.bindS (Lg.loc_stN _ _ _ _) (Lg.LocP.ret _)) Lg.Loc.none
theorem kfSort_locp (args : List V) : LocP fun s => kfSort.run args s := by
 unfold kfSort
 dsimp only
 split
 · rename_i v
   unfold sortK
   cases v <;> try exact Loc.none
   case nilslice => exact LocP.ret _
   case slice => exact qo9 _ _ _
   case oslice => exact Loc.cond (qo9 _ _ _) Loc.none
 · exact Loc.none
theorem kfSort_lg (args : List V) : Lg.LocP fun s => kfSort.run args s := by
 unfold kfSort
 dsimp only
 split
 · rename_i v
   unfold sortK
   cases v <;> try exact Lg.Loc.none
   case nilslice => exact Lg.LocP.ret _
   case slice => exact sortAt_lg _ _ _
   case oslice => exact Lg.Loc.cond (sortAt_lg _ _ _) Lg.Loc.none
 · exact Lg.Loc.none
end
theorem sortT_kp : ∀ (l : List (List UInt8)), ∃ l' : List (List UInt8), sortT (l.map kp) = l'.map kp ∧ l'.Perm l
 | [] => ⟨[], rfl, .refl _⟩
 | x :: l => by
  obtain ⟨l1, h1, h2⟩ := sortT_kp l
  obtain ⟨l2, h3, h4⟩ := insS_kp x l1
  refine ⟨l2, ?_, h4.trans (h2.cons x)⟩
  rw [List.map_cons, sortT, h1]
  exact h3
section
variable {P : Program} {E : Env} {w0 : Base} {ρ : Rho} {s : St} {w w' : World}
theorem texts_rel : ∀ {l : List (Tr V)} {cl : List Value} {q : List (Nat × Nat)}, ERels ρ 1 l cl → qis l = some q → ∃ ss : List (List UInt8), q = ss.map kp ∧ cl = ss.map encStr
 | _, _, q, .nil, h => by
  simp only [qis, oS] at h
  subst h
  exact ⟨[], rfl, rfl⟩
 | _, _, q, .cons (t := t) (c := c) (l := l) (cl := cl) h1 r, h => by
  unfold qis at h
  split at h
  · rename_i a k ht
    simp only [oI, oS] at h
    obtain ⟨q', hq', rfl⟩ := h
    obtain ⟨ss, rfl, rfl⟩ := texts_rel r hq'
    have hl := h1.len
    match c, hl with
    | [cv], _ =>
     have hv := h1.rel 0 _ ht cv rfl
     cases hv with
     | str b =>
      refine ⟨b.data.toList :: ss, rfl, ?_⟩
      show [Value.string b] ++ ss.map encStr = _
      rw [List.map_cons]
      rfl
  · cases h
theorem sort_sim {f : FuncId} (h : SortOk P f) {b off n cap : Nat} {cb sh sz : Nat} {s' : St} {e : En} (hR : Rel E w0 ρ s w) (hρ : ρ b = some (cb, sh, sz)) {a : Addr} (ha : cap ≠ 0 → a = ⟨cb, sh + off, none⟩) (hcap : n ≤ cap) (hg : qib b off n s = some (e, s')) :
 Calls P f #[.slice (some a) n cap] w (qm2 E w0 ρ s' e) := by
 unfold qib at hg
 cases hn : Nat.beq n 0 with
 | true =>
  rw [hn] at hg
  simp only [cond_true, oS, pM] at hg
  obtain ⟨rfl, rfl⟩ := hg
  rw [beq_true] at hn
  subst hn
  refine (h.none _ _ w).mono fun e w' hw => ?_
  obtain ⟨rfl, rfl⟩ := hw
  exact ⟨ρ, _, rfl, Rho.le_refl ρ, .tuple .nil, hR⟩
 | false =>
  rw [hn] at hg
  simp only [cond_false, oI, Prod.exists] at hg
  obtain ⟨l, s1, hl, q, hq, hg⟩ := hg
  rw [beq_false] at hn
  cases hc : (Nat.blt n 1000000 && qny (sortT q)) with
  | false => rw [hc] at hg; cases hg
  | true =>
  rw [hc] at hg
  simp only [cond_true, oI, oS, pM, Bool.and_eq_true, blt_true] at hg hc
  obtain ⟨s2, hst, rfl, rfl⟩ := hg
  obtain ⟨hn6, hris⟩ := hc
  obtain ⟨c, hcell, hER, hln, hsame⟩ := qn6 hρ n off s s1 l hR hl
  have hR1 := hR.same hsame
  obtain ⟨ss, rfl, rfl⟩ := texts_rel hER hq
  obtain ⟨ls, hls, hperm⟩ := sortT_kp ss
  rw [hls] at hst hris
  have hpw := rising_pw hris
  have hms : (ss.mergeSort fun x y => decide (x ≤ y)) = ls := mergeSort_kp hperm hpw
  have hlen : ss.length = n := by
   have h1 := hER.length
   rw [List.length_map] at h1
   omega
  have hll : ls.length = n := by rw [hperm.length_eq]; exact hlen
  have haa := ha (by omega)
  have hne : ∃ e' esz m c', s1.heap.get b = some (.cells e' esz m false c') := by
   cases ls with
   | nil => simp at hll; omega
   | cons x ls =>
    simp only [List.map_cons, qkj, stN, oI] at hst
    obtain ⟨s3, h3, _⟩ := hst
    obtain ⟨e', esz, m, c1, _, hb, _⟩ := stK_inv h3
    exact ⟨e', esz, m, c1, hb⟩
  obtain ⟨e', esz, m, c', hb⟩ := hne
  obtain ⟨cs, fr, hcr⟩ := qbb hR1 hb hρ
  obtain ⟨_, hfree⟩ := hcr.own rfl
  have hinb : ∀ j, j < n → sh + off + j < cs.size := fun j hj => by
   obtain ⟨v, hv⟩ : ∃ v, (ss.map encStr)[j]? = some v := ⟨_, List.getElem?_eq_getElem (by rw [List.length_map, hlen]; exact hj)⟩
   have h2 := hcell j v hv
   unfold World.cell? at h2
   simp only at h2
   rw [hcr.heap] at h2
   exact (Array.getElem?_eq_some_iff.1 h2).1
  have hsz := hcr.size
  have hroom := hcr.room
  have hHold : Sort.Holds encStr w cb (sh + off) ss.toArray := fun j hj => by
   have hj' : j < ss.length := by simpa using hj
   have h1 : (ss.map encStr)[j]? = some (encStr ss[j]) := by rw [List.getElem?_map, List.getElem?_eq_getElem hj']; rfl
   refine ⟨?_, ?_⟩
   · rw [hcell j _ h1, getElem!_pos _ j hj]
     simp
   · unfold World.frozen?
     simp only
     rw [hcr.heap]
     obtain ⟨lo, hi⟩ := fr
     have h2 := hfree.not (i := sh + off + j) (by have := hinb j (by omega); omega)
     simp only
     rw [Bool.and_eq_false_iff]
     rcases Nat.lt_or_ge (sh + off + j) lo with h3 | h3
     · exact .inl (decide_eq_false (by omega))
     · exact .inr (decide_eq_false (fun h4 => h2 ⟨h3, h4⟩))
  have hinH : cb < w.heap.size := by
   have := hcr.heap
   exact (Array.getElem?_eq_some_iff.1 this).1
  obtain ⟨w1, hr1, hRel⟩ := qoa (P := P) hρ (sh + off) (qkj (ls.map kp)) (ls.map encStr) off 0 s1 s2 w hR1 (erels_keys ls) hst (by omega)
  have hle : sh + off + 0 + (ls.map encStr).length ≤ cs.size := by
   rw [List.length_map, hll]
   have := hinb (n - 1) (by omega)
   omega
  obtain ⟨cs', w2, hr2, hu, hsz2, hget⟩ := qfc (P := P) cb (sh + off) e' fr (ls.map encStr) 0 cs w hcr.heap hle (fun j h1 h2 => hfree.not (by omega)) (fun x hx => by
   obtain ⟨y, _, rfl⟩ := List.mem_map.1 hx
   rfl)
  have e12 : w1 = w2 := by
   have := hr1.symm.trans hr2
   cases this; rfl
  subst e12
  rw [← hlen] at hcap ⊢
  rw [haa]
  refine (h.some cb (sh + off) cap ss w hHold hinH (by omega)).mono fun e w' hw => ?_
  obtain ⟨rfl, n', os, rfl⟩ := hw
  rw [hms]
  refine ⟨ρ, _, rfl, Rho.le_refl ρ, .tuple .nil, hRel.grown ⟨hu.os.symm, hu.tape.symm, hu.output.symm, ?_, fun k hk => ?_⟩⟩
  · rw [hu.size]
    show w.heap.size ≤ ((w.heap.modify cb _) ++ os).size
    simp
  · rw [hu.size] at hk
    show ((w.heap.modify cb (onCells (putCells encStr (sh + off) ls.toArray))) ++ os)[k]? = _
    rw [Array.getElem?_append_left (by simpa using hk), Array.getElem?_modify]
    by_cases hkc : cb = k
    · subst hkc
      rw [if_pos rfl, hcr.heap, hu.hit]
      show some (Obj.cells (putCells encStr (sh + off) ls.toArray cs) e' fr) = some (Obj.cells cs' e' fr)
      congr 2
      refine Array.ext_getElem? fun j => ?_
      rw [hget j]
      unfold putCells
      rw [Array.getElem?_mapIdx]
      simp only [Nat.add_zero, List.length_map, List.size_toArray]
      cases hcj : cs[j]? with
      | none =>
       have : cs.size ≤ j := Array.getElem?_eq_none_iff.1 hcj
       rw [if_neg (by rw [List.length_map] at hle; omega)]
       rfl
      | some x =>
       simp only [Option.map_some]
       by_cases hin : sh + off ≤ j ∧ j < sh + off + ls.length
       · rw [if_pos hin, if_pos hin]
         have hj : j - (sh + off) < ls.length := by omega
         rw [List.getElem?_map, List.getElem?_eq_getElem hj, getElem!_pos _ _ (by simpa using hj)]
         simp
       · rw [if_neg hin, if_neg hin]
    · rw [if_neg hkc, hu.other k (fun e => hkc e.symm)]
theorem sort_well {f : FuncId} (h : SortOk P f) : KnWell P E f kfSort := by
 refine ⟨kfSort_locp, fun w0 ρ s w args cargs e s' hR hv hg => ?_⟩
 unfold kfSort at hg
 dsimp only at hg
 split at hg
 · rename_i v
   obtain ⟨l'⟩ := cargs
   cases hv with
   | cons hs ht =>
   cases ht
   unfold sortK at hg
   split at hg
   · simp only [oS, pM] at hg
     obtain ⟨rfl, rfl⟩ := hg
     cases hs
     refine (h.none _ _ w).mono fun e w' hw => ?_
     obtain ⟨rfl, rfl⟩ := hw
     exact ⟨ρ, _, rfl, Rho.le_refl ρ, .tuple .nil, hR⟩
   · rename_i b off n c
     cases hs with
     | slice hρ hl ha => exact sort_sim h hR hρ ha hl hg
   · rename_i b off n z
     cases hz : Nat.beq z 1 with
     | false => rw [hz] at hg; cases hg
     | true =>
      rw [hz] at hg
      rw [beq_true] at hz
      subst hz
      cases hs with
      | oslice hρ hl hz hc ha => exact sort_sim h hR hρ ha hl hg
   · cases hg
 · cases hg
end
end Go.Proofs.Ytmeohejdafbodaa.Ev
