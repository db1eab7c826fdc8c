/-
  THE EVALUATOR AND ITS SOUNDNESS, part 3 of 3 (no condition): what it says of a call holds of the call in the model, in whatever world, on whatever tape.
-/
import Derived.Test.YtjaibhpfhdmikacGreatDoorEv2
import Derived.Orders
import Derived.OrdersIn
import Derived.RangeFuncRecord
import Derived.LoopNIn
import Derived.Recover
import Derived.RangeFuncLeaves
import Derived.RangeFuncNested
import Derived.Below
import Derived.ChangeSame
import Derived.WideShapes
import Derived.Lib.Repeat
import Derived.KernelRfl
/-
  LOCALITY of the evaluator: the operations.
-/
namespace Go.Proofs.YtjaibhpfhdmikacGreatDoor.Ev

theorem loc_ldK (b off k : Nat) : LocP fun s => ldK s b off k :=
  Loc.of_eq (fun s => by
    unfold ldK
    split
    · rename_i e esz n ro c h
      cases hc : (Nat.ble (off + k) (esz * n) && Nat.blt (esz * n) big)
      · rw [h]; simp only [hc]; rfl
      · rw [h]; simp only [hc, cond_true]
    · rename_i h
      cases ho : s.heap.get b with
      | none => rfl
      | some o => cases o <;> first | rfl | exact absurd ho (h _ _ _ _ _))
    (LocP.read (b := b) (lo := off) (hi := off + k) fun o => match o with
      | some (.cells _ esz n _ c) => bif Nat.ble (off + k) (esz * n) && Nat.blt (esz * n) big then elemIn c esz off k else none
      | _ => none)

theorem loc_ld (b off : Nat) : LocP fun s => ld s b off :=
  Loc.of_eq (fun s => by
    unfold ld
    split
    · rename_i e esz n ro c h
      cases hc : (Nat.blt off (esz * n) && Nat.blt (esz * n) big)
      · rw [h]; simp only [hc]; rfl
      · rw [h]; simp only [hc, cond_true]
        cases c.get (off / esz) with
        | none => rfl
        | some t => simp only [Option.bind_some]
    · rename_i h
      cases ho : s.heap.get b with
      | none => rfl
      | some o => cases o <;> first | rfl | exact absurd ho (h _ _ _ _ _))
    (LocP.read (b := b) (lo := off) (hi := off + 1) fun o => match o with
      | some (.cells _ esz n _ c) => bif Nat.blt off (esz * n) && Nat.blt (esz * n) big then (c.get (off / esz)).bind fun t => t.get (off % esz) else none
      | _ => none)

theorem loc_getO (b : Nat) : LocP fun s => getO s b := LocP.read (b := b) (lo := 0) (hi := big) fun o => o

theorem loc_sizeB (b : Nat) : LocP fun s => sizeB s b :=
  Loc.of_eq (fun s => by
    unfold sizeB
    split
    · rename_i e esz n ro c h
      cases hc : (Nat.blt (esz * n) big)
      · rw [h]; simp only [hc]; rfl
      · rw [h]; simp only [hc, cond_true, Option.bind_some]
    · rename_i h
      cases ho : s.heap.get b with
      | none => rfl
      | some o => cases o <;> first | rfl | exact absurd ho (h _ _ _ _ _))
    (LocP.read (b := b) (lo := big - 1) (hi := big) fun o => match o with
      | some (.cells _ esz n _ _) => bif Nat.blt (esz * n) big then some (esz * n) else none
      | _ => none)

theorem loc_stK (b off k : Nat) (t : Tr V) : LocS fun s => stK s b off k t :=
  Loc.of_eq (fun s => by
    unfold stK
    split
    · rename_i e esz n ro c h
      cases hc : (Nat.ble (off + k) (esz * n) && Nat.blt (esz * n) big && !ro)
      · rw [h]; simp only [hc]; rfl
      · rw [h]; simp only [hc, cond_true]
        cases elemTo c esz off k t <;> rfl
    · rename_i h
      cases ho : s.heap.get b with
      | none => rfl
      | some o => cases o <;> first | rfl | exact absurd ho (h _ _ _ _ _))
    (LocS.write (b := b) (lo := off) (hi := off + k) fun o => match o with
      | some (.cells e esz n ro c) => bif Nat.ble (off + k) (esz * n) && Nat.blt (esz * n) big && !ro then (elemTo c esz off k t).bind fun c => some (.cells e esz n false c) else none
      | _ => none)

theorem loc_ldN (b k : Nat) : ∀ (n off : Nat), LocP fun s => ldN b k n off s
  | 0, _ => LocP.ret []
  | n + 1, off => by
    unfold ldN
    exact Loc.bind (loc_ldK b off k) fun a => by
      dsimp only
      exact Loc.bind (loc_ldN b k n (off + k)) fun _ => by dsimp only; exact LocP.ret _
theorem loc_stN (b k : Nat) : ∀ (l : List (Tr V)) (off : Nat), LocS fun s => stN b k l off s
  | [], _ => LocS.ret
  | t :: l, off => Loc.bindS (g := fun s => stN b k l (off + k) s) (loc_stK b off k t) (loc_stN b k l (off + k))

theorem loc_loadV (E : Env) (t : TypeId) (b off : Nat) : LocP fun s => loadV E t b off s := by
  unfold loadV
  refine Loc.opt fun g => Loc.cond ?_ (loc_ld b off)
  refine Loc.opt fun n => Loc.bind (loc_ldK b off n) fun _ => by dsimp only; exact LocP.ret _
theorem loc_storeV (E : Env) (t : TypeId) (b off : Nat) (v : V) : LocS fun s => storeV E t b off v s := by
  unfold storeV
  exact Loc.opt fun n => Loc.cond (loc_stK b off n _) Loc.none

theorem loc_sliceV (E : Env) (t : TypeId) (x : V) (lo hi mx : Option V) : LocP fun s => sliceV E t x lo hi mx s := by
  unfold sliceV
  refine Loc.opt fun d => ?_
  cases d <;> try exact Loc.none
  case string => cases x <;> cases mx <;> first | exact Loc.none | exact Loc.opt fun _ => LocP.ret _
  case array =>
    cases x <;> try exact Loc.none
    exact Loc.opt fun _ => Loc.opt fun _ => LocP.ret _
  case slice =>
    cases x <;> try exact Loc.none
    case slice => exact Loc.opt fun _ => Loc.opt fun _ => LocP.ret _
    case oslice b off len z =>
      refine Loc.opt fun z' => Loc.cond ?_ Loc.none
      refine Loc.bind (loc_sizeB b) fun k => ?_
      dsimp only
      refine Loc.opt fun p => ?_
      cases mx with
      | some _ => exact LocP.ret _
      | none => exact Loc.cond (LocP.ret _) (Loc.cond (LocP.ret _) Loc.none)
    case eslice => exact Loc.opt fun _ => Loc.opt fun _ => LocP.ret _
    case nilslice => exact Loc.opt fun _ => Loc.opt fun _ => LocP.ret _

theorem loc_firstV (size n : Nat) (x : V) : LocP fun s => firstV size n x s := by
  cases x <;> try exact Loc.none
  case str => exact Loc.cond (LocP.ret _) Loc.none
  case slice => exact loc_ldN _ _ _ _
  case oslice => exact loc_ldN _ _ _ _
  case eslice => exact Loc.cond (LocP.ret _) Loc.none
  case nilslice => exact Loc.cond (LocP.ret _) Loc.none

theorem loc_growV (elem : TypeId) (size n b off len : Nat) (l : List (Tr V)) : LocP fun s => growV elem size n b off len l s := by
  intro s r hon h
  unfold growV at h
  simp only [addLC_eq] at h
  split at h
  · rename_i e esz m ro c hb
    cases h1 : (ro || !Nat.beq e elem) with
    | true => rw [h1] at h; cases h
    | false =>
    rw [h1] at h
    simp only [cond_false] at h
    cases h2 : (Nat.beq esz size && Nat.beq off 0 && Nat.beq m len && Nat.blt (esz * m) big) with
    | true =>
      rw [h2] at h
      simp only [cond_true] at h
      have hon' : (setO s b .dead).on = true := (put_grows hon b 0 big .dead).on
      have hl : LocP fun s => some (V.oslice s.next 0 (len + n) size, nw (setO s b .dead) (.cells elem size (len + n) false (addL c l len))) := by
        refine Loc.of_eq (g := fun s => ((fun s => some (setO s b .dead)) s).bind fun s => some (V.oslice s.next 0 (len + n) size, nw s (.cells elem size (len + n) false (addL c l len)))) (fun s => ?_) (Loc.bindS (LocS.setO b .dead) (LocP.nw (fun k => V.oslice k 0 (len + n) size) fun _ => _))
        simp only [Option.bind_some]
        have : (setO s b .dead).next = s.next := by show (s.note b 0 big true).next = _; unfold St.note; cases s.on <;> rfl
        rw [this]
      obtain ⟨g1, l1⟩ := hl s r hon h
      refine ⟨g1, fun F t hA hW => ?_⟩
      obtain ⟨t', e1, A1⟩ := l1 F t hA hW
      refine ⟨t', ?_, A1⟩
      have hF : F b := by
        simp only [Option.some.injEq] at h
        subst h
        obtain ⟨nn, hn, _⟩ := (nw_grows hon' (.cells elem size (len + n) false (addL c l len))).log
        refine hW ⟨b, 0, big, true⟩ ?_
        show _ ∈ (nw (setO s b .dead) _).log
        rw [hn]
        refine List.mem_append_right _ ?_
        show _ ∈ (s.note b 0 big true).log
        rw [note_log hon]; exact List.mem_cons_self ..
      unfold growV
      simp only [addLC_eq]
      rw [hA.heap b hF, hb]
      simp only [h1, h2, cond_true, cond_false]
      exact e1
    | false =>
      rw [h2] at h
      simp only [cond_false] at h
      cases h3 : (Nat.beq esz size && Nat.beq (off % size) 0) with
      | false => rw [h3] at h; cases h
      | true =>
      rw [h3] at h
      simp only [cond_true] at h
      have hl : LocP fun s => (ldN b size len off s).bind fun q => some (V.oslice q.2.next 0 (len + n) size, newCells (setO q.2 b .dead) elem size (q.1 ++ l)) := by
        refine Loc.bind (loc_ldN b size len off) fun a => ?_
        refine Loc.of_eq (g := fun s => ((fun s => some (setO s b .dead)) s).bind fun s => some (V.oslice s.next 0 (len + n) size, newCells s elem size (a ++ l))) (fun s => ?_) (Loc.bindS (LocS.setO b .dead) (LocP.nw (fun k => V.oslice k 0 (len + n) size) fun _ => _))
        simp only [Option.bind_some]
        have : (setO s b .dead).next = s.next := by show (s.note b 0 big true).next = _; unfold St.note; cases s.on <;> rfl
        rw [this]
      obtain ⟨g1, l1⟩ := hl s r hon h
      refine ⟨g1, fun F t hA hW => ?_⟩
      obtain ⟨t', e1, A1⟩ := l1 F t hA hW
      refine ⟨t', ?_, A1⟩
      have hF : F b := by
        simp only [Option.bind_eq_some_iff, Prod.exists, Option.some.injEq] at h
        obtain ⟨ll, s1, hl1, rfl⟩ := h
        have hg1 := (loc_ldN b size len off s _ hon hl1).1
        have hon' : (setO s1 b .dead).on = true := (put_grows hg1.on b 0 big .dead).on
        obtain ⟨nn, hn, _⟩ := (nw_grows hon' (.cells elem size (ll ++ l).length false (Tr.ofListFrom .nil (ll ++ l) 0))).log
        refine hW ⟨b, 0, big, true⟩ ?_
        show _ ∈ (nw (setO s1 b .dead) _).log
        rw [hn]
        refine List.mem_append_right _ ?_
        show _ ∈ (s1.note b 0 big true).log
        rw [note_log hg1.on]; exact List.mem_cons_self ..
      unfold growV
      simp only [addLC_eq]
      rw [hA.heap b hF, hb]
      simp only [h1, h2, h3, cond_false, cond_true]
      exact e1
  · cases h

theorem loc_appendV (elem : TypeId) (size n : Nat) (x y : V) : LocP fun s => appendV elem size n x y s := by
  unfold appendV
  refine Loc.bind (loc_firstV size n y) fun l => ?_
  dsimp only
  cases x <;> try exact Loc.none
  case slice b off len cap =>
    refine Loc.cond ?_ ?_
    · exact Loc.bindS (loc_stN b size l _) (LocP.ret _)
    · exact Loc.bind (loc_firstV size len _) fun a => by dsimp only; exact LocP.nw (fun k => V.oslice k 0 (len + n) size) fun _ => _
  case oslice b off len z =>
    refine Loc.cond ?_ Loc.none
    refine Loc.bind (loc_sizeB b) fun a => ?_
    dsimp only
    refine Loc.cond ?_ (loc_growV _ _ _ _ _ _ _)
    exact Loc.bindS (loc_stN b size l _) (LocP.ret _)
  case eslice => exact Loc.cond (LocP.ret _) Loc.none
  case nilslice => exact Loc.cond (LocP.ret _) (LocP.nw (fun k => V.oslice k 0 n size) fun _ => _)

/-! ### maps -/

theorem loc_lookupV (E : Env) (t : TypeId) (x k : V) (ok : Bool) : LocP fun s => lookupV E t x k ok s := by
  unfold lookupV
  refine Loc.opt fun d => ?_
  cases d <;> try exact Loc.none
  rename_i kt et
  refine Loc.opt fun d => Loc.cond ?_ Loc.none
  refine Loc.bind (f := fun s => match x with
        | .nilmap => some ([], s)
        | .map r => (getO s r).bind fun p => match p.1 with
          | .map es _ => some (es, p.2)
          | _ => none
        | _ => none) ?_ fun es => ?_
  · cases x <;> try exact Loc.none
    · rename_i r
      refine Loc.bind (loc_getO r) fun o => ?_
      dsimp only
      cases o <;> first | exact Loc.none | exact LocP.ret _
    · exact LocP.ret _
  · dsimp only
    refine Loc.opt fun q => ?_
    cases q with
    | none => exact Loc.opt fun z => LocP.ret _
    | some q => exact LocP.ret _

theorem loc_updateV (E : Env) (t : TypeId) (m k v : V) : LocS fun s => updateV E t m k v s := by
  unfold updateV
  refine Loc.opt fun d => ?_
  cases d <;> try exact Loc.none
  rename_i kt et
  refine Loc.opt fun d => Loc.cond ?_ Loc.none
  cases m <;> try exact Loc.none
  rename_i r
  refine Loc.bind (loc_getO r) fun o => ?_
  dsimp only
  cases o <;> try exact Loc.none
  rename_i es clock
  refine Loc.opt fun q => ?_
  cases q with
  | none => exact LocS.setO _ _
  | some q => exact LocS.setO _ _

theorem loc_setRet {α : Type} (r : Nat) (o : O) (a : α) : LocP fun s => some (a, setO s r o) :=
  Loc.of_eq (g := fun s => ((fun s => some (setO s r o)) s).bind fun s => some (a, s)) (fun _ => rfl) (Loc.bindS (LocS.setO r o) (LocP.ret _))

theorem loc_entryV (E : Env) (t : TypeId) (m k : V) : LocP fun s => entryV E t m k s := by
  unfold entryV
  refine Loc.opt fun d => ?_
  cases d <;> try exact Loc.none
  rename_i kt et
  refine Loc.opt fun d => Loc.cond ?_ Loc.none
  cases m <;> try exact Loc.none
  rename_i r
  refine Loc.bind (loc_getO r) fun o => ?_
  dsimp only
  cases o <;> try exact Loc.none
  rename_i es clock
  refine Loc.opt fun q => ?_
  cases q with
  | none => exact Loc.opt fun z => loc_setRet _ _ _
  | some q => exact Loc.opt fun z => loc_setRet _ _ _

theorem loc_entryStoreV (m st v : V) : LocS fun s => entryStoreV m st v s := by
  unfold entryStoreV
  cases m <;> try exact Loc.none
  cases st <;> try exact Loc.none
  rename_i r kk nn
  cases nn <;> try exact Loc.none
  refine Loc.bind (loc_getO r) fun o => ?_
  dsimp only
  cases o <;> try exact Loc.none
  exact Loc.opt fun q => LocS.setO _ _

theorem loc_deleteV (E : Env) (t : TypeId) (m k : V) : LocS fun s => deleteV E t m k s := by
  unfold deleteV
  refine Loc.opt fun d => ?_
  cases d <;> try exact Loc.none
  rename_i kt et
  refine Loc.opt fun d => Loc.cond ?_ Loc.none
  cases m <;> try exact Loc.none
  · rename_i r
    refine Loc.bind (loc_getO r) fun o => ?_
    dsimp only
    cases o <;> try exact Loc.none
    rename_i es clock
    refine Loc.opt fun q => ?_
    cases q with
    | none => exact LocS.setO _ _
    | some q => exact LocS.setO _ _
  · exact LocS.ret

theorem loc_zerosAt (b off n : Nat) : LocP fun s => zerosAt s b off n :=
  Loc.of_eq (fun s => by
    unfold zerosAt
    split
    · rename_i e esz m ro c h
      cases hc : (Nat.beq esz 1 && Nat.ble (off + n) m && Nat.blt m big && Nat.blt 0 n && allZero c)
      · rw [h]; simp only [hc]; rfl
      · rw [h]; simp only [hc, cond_true, Option.bind_some]
    · rename_i h
      cases ho : s.heap.get b with
      | none => rfl
      | some o => cases o <;> first | rfl | exact absurd ho (h _ _ _ _ _))
    (LocP.read (b := b) (lo := off) (hi := off + n) fun o => match o with
      | some (.cells _ esz m _ c) => bif Nat.beq esz 1 && Nat.ble (off + n) m && Nat.blt m big && Nat.blt 0 n && allZero c then some (V.str n 0) else none
      | _ => none)
theorem zerosAt_none {s t : St} {b off n : Nat} (h : zerosAt s b off n = none) (hn : n = 0 ∨ t.heap.get b = s.heap.get b) : zerosAt t b off n = none := by
  rcases hn with rfl | hb
  · unfold zerosAt
    split
    · rw [show Nat.blt 0 0 = false from rfl, Bool.and_false, Bool.false_and]; rfl
    · rfl
  · unfold zerosAt at h ⊢
    rw [hb]
    split
    · rename_i e esz m ro c hc
      rw [hc] at h
      simp only at h
      cases hx : (Nat.beq esz 1 && Nat.ble (off + n) m && Nat.blt m big && Nat.blt 0 n && allZero c)
      · rfl
      · rw [hx] at h; cases h
    · rfl
theorem loc_bytes (b off l c n : Nat) : LocP fun s => orElse (zerosAt s b off n) ((firstV 1 n (.slice b off l c) s).bind fun p => (packV p.1).bind fun q => some (V.str q.1 q.2, p.2)) := by
  have hg : LocP fun s => (firstV 1 n (.slice b off l c) s).bind fun p => (packV p.1).bind fun q => some (V.str q.1 q.2, p.2) := Loc.bind (loc_firstV 1 n _) fun a => by dsimp only; exact Loc.opt fun q => LocP.ret _
  intro s r hon h
  dsimp only at h
  cases hz : zerosAt s b off n with
  | some q =>
    rw [hz] at h
    simp only [orElse, Option.some.injEq] at h
    subst h
    obtain ⟨g1, l1⟩ := loc_zerosAt b off n s _ hon hz
    refine ⟨g1, fun F t hA hW => ?_⟩
    obtain ⟨t', e1, A1⟩ := l1 F t hA hW
    have e1' : zerosAt t b off n = some (upP q t') := e1
    exact ⟨t', by dsimp only; rw [e1']; rfl, A1⟩
  | none =>
    rw [hz] at h
    have h' : ((firstV 1 n (.slice b off l c) s).bind fun p => (packV p.1).bind fun q => some (V.str q.1 q.2, p.2)) = some r := h
    obtain ⟨g1, l1⟩ := hg s r hon h'
    refine ⟨g1, fun F t hA hW => ?_⟩
    obtain ⟨t', e1, A1⟩ := l1 F t hA hW
    refine ⟨t', ?_, A1⟩
    have hno : zerosAt t b off n = none := by
      refine zerosAt_none hz ?_
      cases n with
      | zero => exact .inl rfl
      | succ n =>
        refine .inr (hA.heap b ?_)
        simp only [Option.bind_eq_some_iff, Prod.exists, Option.some.injEq] at h'
        obtain ⟨ll, s1, hl, q1, q2, hq, rfl⟩ := h'
        have hl' : ldN b 1 (n + 1) off s = some (ll, s1) := hl
        simp only [ldN, Option.bind_eq_some_iff, Prod.exists, Option.some.injEq, Prod.mk.injEq] at hl'
        obtain ⟨p1, s2, hk, q3, s3, hrest, _, rfl⟩ := hl'
        have g2 := (loc_ldN b 1 n (off + 1) s2 _ (loc_ldK b off 1 s _ hon hk).1.on hrest).1
        have hin : ∃ lo hi, (⟨b, lo, hi, false⟩ : LE) ∈ s2.log := by
          unfold ldK at hk
          split at hk
          · rename_i e esz m ro cc hb
            cases hcc : (Nat.ble (off + 1) (esz * m) && Nat.blt (esz * m) big) with
            | false => rw [hcc] at hk; cases hk
            | true =>
              rw [hcc] at hk
              simp only [cond_true, Option.bind_eq_some_iff, Option.some.injEq, Prod.mk.injEq] at hk
              obtain ⟨_, _, _, rfl⟩ := hk
              exact ⟨off, off + 1, by rw [note_log hon]; exact List.mem_cons_self ..⟩
          · cases hk
        obtain ⟨lo, hi, hin⟩ := hin
        exact hW _ (g2.sub hin)
    dsimp only
    rw [hno]
    exact e1

theorem loc_sameV (b : Nat) : LocS fun s => sameV s b :=
  Loc.of_eq (fun s => by
    unfold sameV
    split
    · rename_i e esz m c h
      rw [h]; rfl
    · rename_i h
      cases ho : s.heap.get b with
      | none => rfl
      | some o =>
        cases o <;> try rfl
        rename_i e esz m ro c
        cases ro
        · exact absurd ho (h _ _ _ _)
        · rfl)
    (LocS.write (b := b) (lo := 0) (hi := big) fun o => match o with
      | some (.cells e esz m false c) => some (.cells e esz m false c)
      | _ => none)
theorem loc_liesV (E : Env) (u : TypeId) (b off : Nat) : LocS fun s => liesV E u b off s :=
  Loc.of_eq (g := fun s => (((match s.heap.get b with
      | some (.cells e esz m _ _) => (sizeT E e).bind fun z => bif Nat.beq z esz && Nat.blt off (esz * m) && Nat.blt (esz * m) big && lieIn e (off % esz) u E.lie then some () else none
      | _ => none : Option Unit)).bind fun a => some (a, s.note b off (off + 1) false)).bind fun p => some p.2) (fun s => by
    unfold liesV
    cases s.heap.get b with
    | none => rfl
    | some o =>
      cases o <;> try rfl
      rename_i e esz m ro c
      show (sizeT E e).bind _ = (((sizeT E e).bind _).bind _).bind _
      cases sizeT E e with
      | none => rfl
      | some z =>
        simp only [Option.bind_some]
        cases (Nat.beq z esz && Nat.blt off (esz * m) && Nat.blt (esz * m) big && lieIn e (off % esz) u E.lie) <;> rfl)
    (Loc.bind (LocP.read (b := b) (lo := off) (hi := off + 1) fun o => match o with
      | some (.cells e esz m _ _) => (sizeT E e).bind fun z => bif Nat.beq z esz && Nat.blt off (esz * m) && Nat.blt (esz * m) big && lieIn e (off % esz) u E.lie then some () else none
      | _ => none) fun _ => LocS.ret)
theorem loc_liesB (E : Env) (u : TypeId) (b off n : Nat) : LocS fun s => liesB E u b off n s :=
  Loc.of_eq (g := fun s => (((match s.heap.get b with
      | some (.cells e esz m false _) => (sizeT E e).bind fun z => bif Nat.beq e u && Nat.beq z 1 && Nat.beq esz 1 && Nat.ble (off + n) m && Nat.blt m big then some () else none
      | _ => none : Option Unit)).bind fun a => some (a, s.note b off (off + 1) false)).bind fun p => some p.2) (fun s => by
    unfold liesB
    cases s.heap.get b with
    | none => rfl
    | some o =>
      cases o <;> try rfl
      rename_i e esz m ro c
      cases ro <;> try rfl
      show (sizeT E e).bind _ = (((sizeT E e).bind _).bind _).bind _
      cases sizeT E e with
      | none => rfl
      | some z =>
        simp only [Option.bind_some]
        cases (Nat.beq e u && Nat.beq z 1 && Nat.beq esz 1 && Nat.ble (off + n) m && Nat.blt m big) <;> rfl)
    (Loc.bind (LocP.read (b := b) (lo := off) (hi := off + 1) fun o => match o with
      | some (.cells e esz m false _) => (sizeT E e).bind fun z => bif Nat.beq e u && Nat.beq z 1 && Nat.beq esz 1 && Nat.ble (off + n) m && Nat.blt m big then some () else none
      | _ => none) fun _ => LocS.ret)
theorem loc_unsafeV (E : Env) (ds dd : TypeDesc) (x : V) : LocP fun s => unsafeV E ds dd x s := by
  unfold unsafeV
  cases x <;> try exact Loc.none
  refine Loc.cond ?_ (Loc.cond ?_ Loc.none)
  · refine Loc.opt fun t => Loc.opt fun z => Loc.cond Loc.none ?_
    exact Loc.bindS (loc_liesV _ _ _ _) (LocP.ret _)
  · refine Loc.opt fun t => Loc.opt fun z => ?_
    exact Loc.bindS (loc_liesV _ _ _ _) (LocP.ret _)

theorem loc_convertV (E : Env) (src dst : TypeId) (x : V) : LocP fun s => convertV E src dst x s := by
  unfold convertV
  refine Loc.opt fun ds => Loc.opt fun dd => Loc.cond (loc_unsafeV _ _ _ _) ?_
  have bytes : ∀ (x : V), LocP fun s => (match ds with
    | .slice e => (und E e).bind fun
      | .int .u8 => (lenV x).bind fun n => match x with
        | .str _ _ => none
        | .slice b off l c => orElse (zerosAt s b off n) ((firstV 1 n (.slice b off l c) s).bind fun p => (packV p.1).bind fun q => some (.str q.1 q.2, p.2))
        | x => (firstV 1 n x s).bind fun p => (packV p.1).bind fun q => some (V.str q.1 q.2, p.2)
      | _ => none
    | _ => none) := by
    intro x
    cases ds <;> try exact Loc.none
    rename_i e
    refine Loc.opt fun d => ?_
    cases d <;> try exact Loc.none
    rename_i k
    cases k <;> try exact Loc.none
    refine Loc.opt fun n => ?_
    cases x <;> first
      | exact Loc.none
      | exact loc_bytes _ _ _ _ _
      | exact Loc.bind (loc_firstV 1 n _) fun a => by dsimp only; exact Loc.opt fun q => LocP.ret _
  cases dd <;> try (cases x <;> exact Loc.none)
  · cases x <;> first | exact Loc.none | exact LocP.ret _
  · cases x <;> first | exact LocP.ret _ | exact bytes _
  · cases x <;> try exact Loc.none
    · refine Loc.opt fun d => ?_
      cases d <;> try exact Loc.none
      rename_i k
      cases k <;> try exact Loc.none
      exact LocP.nw (fun k => V.oslice k 0 _ 1) fun _ => _
    · refine Loc.cond ?_ Loc.none
      refine Loc.opt fun d => ?_
      cases d <;> try exact Loc.none
      rename_i k
      cases k <;> try exact Loc.none
      exact Loc.bindS (loc_sameV _) (LocP.ret _)
end Go.Proofs.YtjaibhpfhdmikacGreatDoor.Ev

/-
  LOCALITY of the evaluator: all operations, and what hangs on an activation.
-/
namespace Go.Proofs.YtjaibhpfhdmikacGreatDoor.Ev

theorem loc_lenAny (d : TypeDesc) (E : Env) (x : V) : LocN fun s => lenAny d E x s := by
  cases d <;> try exact Loc.none
  case array => exact LocN.ret _
  case pointer e =>
    refine Loc.opt fun d => ?_
    cases d <;> first | exact Loc.none | exact LocN.ret _
  case string => cases x <;> first | exact Loc.none | exact LocN.ret _
  case slice => cases x <;> first | exact Loc.none | exact LocN.ret _
  case map =>
    cases x <;> try exact Loc.none
    case nilmap => exact LocN.ret _
    case map r =>
      refine Loc.bind (loc_getO r) fun o => ?_
      dsimp only
      cases o <;> first | exact Loc.none | exact LocN.ret _

theorem loc_copyInto (size : Nat) (x : V) (n : Nat) (l : List (Tr V)) : LocN fun s => copyInto size x n l s := by
  cases x <;> try exact Loc.none
  case slice => exact Loc.bindS (loc_stN _ size l _) (LocN.ret _)
  case oslice => exact Loc.bindS (loc_stN _ size l _) (LocN.ret _)
  case eslice => exact LocN.ret _
  case nilslice => exact LocN.ret _

theorem loc_extV (k : Nat) (args : List V) : LocN fun s => extV k args s := by
  unfold extV
  split
  · split
    · refine Loc.cond ?_ Loc.none
      split <;> exact LocN.ret _
    · exact Loc.none
  · split
    · rename_i t r
      refine Loc.bind (loc_getO r) fun o => ?_
      dsimp only
      cases o <;> first | exact Loc.none | exact LocN.nw (fun k => V.iface t (V.map k)) fun _ => _
    · exact Loc.none
  · split
    · exact Loc.cond (LocN.ret _) Loc.none
    · exact Loc.none
  · split
    · exact LocN.ret _
    · exact Loc.none
  · refine Loc.cond ?_ Loc.none
    split
    · exact Loc.cond (LocN.nw (fun k => V.oslice k 0 _ 1) fun _ => _) Loc.none
    · exact Loc.none

theorem LocN.enter (f : FuncId) (args : List V) : LocN fun s => some (.enter f args s) := fun s r hon h => by
  simp only [Option.some.injEq] at h
  subst h
  exact ⟨Grows.refl hon, fun F t hA _ => ⟨t, rfl, hA⟩⟩
theorem LocN.round (f : Nat) (args : List V) : LocN fun s => some (.round f args s) := fun s r hon h => by
  simp only [Option.some.injEq] at h
  subst h
  exact ⟨Grows.refl hon, fun F t hA _ => ⟨t, rfl, hA⟩⟩
theorem LocN.defer (d : AD) : LocN fun s => some (.defer d s) := fun s r hon h => by
  simp only [Option.some.injEq] at h
  subst h
  exact ⟨Grows.refl hon, fun F t hA _ => ⟨t, rfl, hA⟩⟩
theorem LocN.recover : LocN fun s => some (.recover s) := fun s r hon h => by
  simp only [Option.some.injEq] at h
  subst h
  exact ⟨Grows.refl hon, fun F t hA _ => ⟨t, rfl, hA⟩⟩
theorem LocN.pan (v : V) : LocN fun s => some (.pan v s) := fun s r hon h => by
  simp only [Option.some.injEq] at h
  subst h
  exact ⟨Grows.refl hon, fun F t hA _ => ⟨t, rfl, hA⟩⟩

theorem loc_callV (E : Env) (f : V) (args : List V) : LocN fun s => callV E f args s := by
  unfold callV
  cases f <;> try exact Loc.none
  case yield l => exact LocN.round _ _
  rename_i fn x y
  cases fn <;> try exact Loc.none
  rename_i g
  dsimp only
  cases E.ext.get g with
  | some k => exact loc_extV _ _
  | none => exact Loc.cond (LocN.enter _ _) Loc.none

theorem loc_builtinF (E : Env) (b : Builtin) (ts : List TypeId) (args : List Operand) (a : Ac) : LocN fun s => (builtinF E b ts args).run a s := by
  cases b <;> try exact Loc.none
  case append =>
    unfold builtinF
    dsimp only
    split
    · refine Loc.opt fun q => Loc.opt fun d2 => Loc.cond ?_ Loc.none
      refine Loc.opt fun vx => Loc.opt fun vy => Loc.opt fun n => Loc.opt fun m => Loc.cond ?_ Loc.none
      exact LocN.vS (loc_appendV _ _ _ _ _)
    · exact Loc.none
  case cap =>
    unfold builtinF
    dsimp only
    split
    · refine Loc.opt fun d => ?_
      cases d <;> try exact Loc.none
      refine Loc.opt fun v => ?_
      cases v <;> first | exact Loc.none | exact LocN.ret _
    · exact Loc.none
  case copy =>
    unfold builtinF
    dsimp only
    split
    · refine Loc.opt fun q => Loc.opt fun vx => Loc.opt fun vy => Loc.opt fun m => Loc.opt fun k => ?_
      exact Loc.bind (loc_firstV _ _ _) fun l => by dsimp only; exact loc_copyInto _ _ _ _
    · exact Loc.none
  case delete =>
    unfold builtinF
    dsimp only
    split
    · exact Loc.opt fun m => Loc.opt fun k => LocN.uS (loc_deleteV _ _ _ _)
    · exact Loc.none
  case len =>
    unfold builtinF
    dsimp only
    split
    · exact Loc.opt fun d => Loc.opt fun v => loc_lenAny _ _ _
    · exact Loc.none
  case unsafeSliceData =>
    unfold builtinF
    dsimp only
    split
    · refine Loc.opt fun v => ?_
      cases v <;> first | exact Loc.none | exact LocN.ret _ | exact Loc.cond (LocN.ret _) Loc.none
    · exact Loc.none
  case unsafeString =>
    unfold builtinF
    dsimp only
    split
    · refine Loc.opt fun d => Loc.opt fun u => Loc.opt fun p => Loc.opt fun vn => Loc.opt fun n => ?_
      cases p <;> first | exact Loc.none | exact Loc.cond (LocN.ret _) Loc.none | skip
      refine Loc.cond (LocN.ret _) (Loc.cond ?_ Loc.none)
      refine Loc.bindS (loc_liesB _ _ _ _ _) ?_
      refine Loc.bind (loc_ldN _ 1 _ _) fun l => ?_
      dsimp only
      refine Loc.opt fun k => ?_
      exact Loc.of_eq (g := fun s => ((fun s => some (setO s _ .dead)) s).bind fun s => some (Nx.val (.str k.1 k.2) s)) (fun _ => rfl) (Loc.bindS (LocS.setO _ _) (LocN.ret _))
    · exact Loc.none
  case max =>
    unfold builtinF
    dsimp only
    split
    · exact Loc.opt fun v => Loc.opt fun vs => LocN.pS _
    · exact Loc.none
  case min =>
    unfold builtinF
    dsimp only
    split
    · exact Loc.opt fun v => Loc.opt fun vs => LocN.pS _
    · exact Loc.none
  case panic =>
    unfold builtinF
    dsimp only
    split
    · refine Loc.opt fun v => ?_
      cases v <;> first | exact Loc.none | exact LocN.pan _
    · exact Loc.none
  case recover => exact LocN.recover

theorem loc_opF (E : Env) (op : Op) (a : Ac) : LocN fun s => (opF E op).run a s := by
  cases op <;> try exact Loc.none
  case move => exact LocN.pS _
  case assign => exact LocN.pS _
  case pick =>
    refine Loc.opt fun v => ?_
    cases v <;> try exact Loc.none
    exact Loc.cond (LocN.pS _) (LocN.pS _)
  case alloc t => exact Loc.opt fun z => LocN.nw (fun k => V.ptr k 0) fun _ => _
  case box t x => exact Loc.opt fun v => Loc.cond Loc.none (LocN.nw (fun k => V.ptr k 0) fun _ => _)
  case build => exact Loc.opt fun v => LocN.pS _
  case buildSlice t len parts =>
    refine Loc.opt fun q => Loc.cond ?_ Loc.none
    refine Loc.opt fun z => Loc.opt fun ps => Loc.cond ?_ Loc.none
    exact Loc.opt fun l => LocN.nw (fun k => V.slice k 0 len len) fun _ => _
  case load =>
    refine Loc.opt fun v => ?_
    cases v <;> try exact Loc.none
    exact LocN.vS (loc_loadV _ _ _ _)
  case store =>
    refine Loc.opt fun v => ?_
    cases v <;> try exact Loc.none
    exact Loc.opt fun v => LocN.uS (loc_storeV _ _ _ _ _)
  case nilCheck => exact Loc.opt fun v => Loc.cond (LocN.ret _) Loc.none
  case binOp => exact Loc.opt fun v => Loc.opt fun u => LocN.pS _
  case unOp => exact Loc.opt fun v => LocN.pS _
  case convert => exact Loc.opt fun v => LocN.vS (loc_convertV _ _ _ _)
  case makeInterface => exact Loc.opt fun d => Loc.cond (Loc.opt fun v => LocN.ret _) Loc.none
  case makeFunc => exact Loc.opt fun d => Loc.opt fun v => LocN.ret _
  case makeMap t r =>
    cases r with
    | none => exact LocN.nw (fun k => V.map k) fun _ => _
    | some x => exact Loc.opt fun d => Loc.opt fun v => Loc.cond (LocN.nw (fun k => V.map k) fun _ => _) Loc.none
  case makeSlice =>
    refine Loc.opt fun q => Loc.opt fun vl => Loc.opt fun n => Loc.opt fun vc => Loc.opt fun m => Loc.cond ?_ Loc.none
    exact Loc.opt fun z => Loc.cond (LocN.nw (fun k => V.slice k 0 n m) fun _ => _) Loc.none
  case slice => exact Loc.opt fun v => Loc.opt fun l => Loc.opt fun h => Loc.opt fun m => LocN.vS (loc_sliceV _ _ _ _ _ _)
  case fieldAddr =>
    refine Loc.opt fun p => Loc.cond Loc.none (Loc.opt fun v => ?_)
    cases v <;> first | exact Loc.none | exact LocN.ret _
  case field =>
    refine Loc.opt fun p => Loc.opt fun v => ?_
    cases v <;> first | exact Loc.none | exact LocN.pS _
  case indexAddr =>
    refine Loc.opt fun d => Loc.opt fun vi => Loc.opt fun n => Loc.opt fun v => ?_
    cases d <;> try exact Loc.none
    · refine Loc.opt fun z => ?_
      cases v <;> first | exact Loc.none | exact Loc.cond (LocN.ret _) Loc.none
    · refine Loc.opt fun z => ?_
      cases v <;> first | exact Loc.none | exact Loc.cond (LocN.ret _) Loc.none
  case index =>
    refine Loc.opt fun d => Loc.opt fun vi => Loc.opt fun n => Loc.opt fun v => ?_
    cases d <;> try exact Loc.none
    · cases v <;> first | exact Loc.none | exact Loc.cond (LocN.ret _) Loc.none
    · cases v <;> first | exact Loc.none | exact Loc.opt fun z => Loc.cond (LocN.pS _) Loc.none
  case lookup => exact Loc.opt fun m => Loc.opt fun k => LocN.vS (loc_lookupV _ _ _ _ _)
  case mapUpdate => exact Loc.opt fun m => Loc.opt fun k => Loc.opt fun v => LocN.uS (loc_updateV _ _ _ _ _)
  case insert => exact Loc.opt fun m => Loc.opt fun k => Loc.opt fun v => LocN.uS (loc_updateV _ _ _ _ _)
  case mapEntry => exact Loc.opt fun m => Loc.opt fun k => LocN.vS (loc_entryV _ _ _ _)
  case entryStore => exact Loc.opt fun m => Loc.opt fun k => Loc.opt fun v => LocN.uS (loc_entryStoreV _ _ _)
  case typeAssert x xt asserted ok =>
    refine Loc.opt fun d => Loc.cond (Loc.opt fun v => ?_) Loc.none
    have no : LocN fun s => assertNo E asserted ok s := Loc.cond (Loc.opt fun z => LocN.ret _) Loc.none
    cases v <;> try exact Loc.none
    · exact Loc.cond (LocN.ret _) no
    · exact no
  case range =>
    refine Loc.opt fun d => ?_
    cases d <;> try exact Loc.none
    refine Loc.opt fun v => ?_
    cases v <;> first | exact Loc.none | exact LocN.nw (fun k => V.ptr k 0) fun _ => _
  case next =>
    refine Loc.cond (Loc.opt fun v => ?_) Loc.none
    cases v <;> try exact Loc.none
    rename_i b off
    refine Loc.cond ?_ Loc.none
    refine Loc.bind (loc_getO b) fun o => ?_
    dsimp only
    cases o <;> try exact Loc.none
    refine Loc.cond ?_ (LocN.ret _)
    exact Loc.of_eq (fun _ => rfl) (LocN.vS (loc_setRet b _ _))
  case extract =>
    refine Loc.opt fun v => ?_
    cases v <;> first | exact Loc.none | exact LocN.pS _
  case panic =>
    refine Loc.opt fun v => ?_
    cases v <;> first | exact Loc.none | exact LocN.pan _
  case call c =>
    unfold opF
    dsimp only
    cases c.callee with
    | builtin b => exact loc_builtinF _ _ _ _ _
    | value f => exact Loc.opt fun fv => Loc.opt fun vs => loc_callV _ _ _
    | invoke x n => exact Loc.none
  case defer c =>
    unfold opF
    dsimp only
    cases c.callee with
    | builtin b => exact Loc.none
    | value f =>
      refine Loc.opt fun fv => ?_
      cases fv <;> first | exact Loc.none | exact Loc.opt fun vs => LocN.defer _
    | invoke x n => exact Loc.none
end Go.Proofs.YtjaibhpfhdmikacGreatDoor.Ev

/-
  LOCALITY of the evaluator: code, regions that draw their order, deferred calls, functions.
-/
namespace Go.Proofs.YtjaibhpfhdmikacGreatDoor.Ev

abbrev upX (r : X × Ac × St) (s : St) : X × Ac × St := (r.1, r.2.1, s)
abbrev LocX (f : St → Option (X × Ac × St)) : Prop := Loc (fun r => r.2.2) upX f
abbrev upM (r : X × Ac × Md × St) (s : St) : X × Ac × Md × St := (r.1, r.2.1, r.2.2.1, s)
abbrev LocM (f : St → Option (X × Ac × Md × St)) : Prop := Loc (fun r => r.2.2.2) upM f

section
variable {β γ : Type} {st : β → St} {up : β → St → β} {st1 : γ → St} {up1 : γ → St → γ}
theorem Loc.bindG (hup : ∀ r, up1 r (st1 r) = r) {f : St → Option γ} {g : γ → Option β} (hf : Loc st1 up1 f) (hg : ∀ r, Loc st up fun s => g (up1 r s)) : Loc st up fun s => (f s).bind g := by
  intro s r hon h
  simp only [Option.bind_eq_some_iff] at h
  obtain ⟨q, h1, h2⟩ := h
  obtain ⟨g1, l1⟩ := hf s _ hon h1
  obtain ⟨g2, l2⟩ := hg q (st1 q) r g1.on (by simp only [hup]; exact h2)
  refine ⟨g1.trans g2, fun F t hA hW => ?_⟩
  obtain ⟨t1, e1, A1⟩ := l1 F t hA fun e he => hW e (g2.sub he)
  obtain ⟨t2, e2, A2⟩ := l2 F t1 A1 hW
  exact ⟨t2, by simp only [e1, Option.bind_some]; exact e2, A2⟩
theorem nx_up (r : Nx) : r.up r.st = r := by cases r <;> rfl
theorem Loc.bindN {f : St → Option Nx} {g : Nx → Option β} (hf : LocN f) (hg : ∀ r : Nx, Loc st up fun s => g (r.up s)) : Loc st up fun s => (f s).bind g := Loc.bindG nx_up hf hg
theorem Loc.bindX {f : St → Option (X × Ac × St)} {g : X × Ac × St → Option β} (hf : LocX f) (hg : ∀ x a, Loc st up fun s => g (x, a, s)) : Loc st up fun s => (f s).bind g :=
  Loc.bindG (up1 := upX) (fun _ => rfl) hf fun r => hg r.1 r.2.1
theorem Loc.bindM {f : St → Option (X × Ac × Md × St)} {g : X × Ac × Md × St → Option β} (hf : LocM f) (hg : ∀ x a m, Loc st up fun s => g (x, a, m, s)) : Loc st up fun s => (f s).bind g :=
  Loc.bindG (up1 := upM) (fun _ => rfl) hf fun r => hg r.1 r.2.1 r.2.2.1
end
theorem LocX.ret (x : X) (a : Ac) : LocX fun s => some (x, a, s) := fun s r hon h => by
  simp only [Option.some.injEq] at h
  subst h
  exact ⟨Grows.refl hon, fun F t hA _ => ⟨t, rfl, hA⟩⟩
theorem LocM.ret (x : X) (a : Ac) (m : Md) : LocM fun s => some (x, a, m, s) := fun s r hon h => by
  simp only [Option.some.injEq] at h
  subst h
  exact ⟨Grows.refl hon, fun F t hA _ => ⟨t, rfl, hA⟩⟩

def EVLoc (self : EV) : Prop := (∀ f args, LocP fun s => self.f f args s) ∧ ∀ l args, LocP fun s => self.r l args s
def CFLoc (c : CF) : Prop := ∀ self, EVLoc self → ∀ a, LocX fun s => c.run self a s

/-! ### one operation -/

theorem loc_afterOp {self : EV} (hs : EVLoc self) (p : PF) (a : Ac) (nx : Nx) : LocX fun s => afterOp p self a (nx.up s) := by
  cases nx with
  | val v s0 =>
    simp only [Nx.up, afterOp, forceV_eq, forceS_eq]
    exact Loc.opt fun a' => LocX.ret _ _
  | enter f args s0 =>
    simp only [Nx.up, afterOp, forceS_eq]
    refine Loc.bind (hs.1 f args) fun e => ?_
    cases e with
    | ret v =>
      simp only [afterCall, forceV_eq, forceS_eq]
      exact Loc.opt fun a' => LocX.ret _ _
    | pan v => exact LocX.ret _ _
  | round f args s0 =>
    simp only [Nx.up, afterOp, forceS_eq]
    refine Loc.bind (hs.2 f args) fun e => ?_
    cases e with
    | ret v =>
      simp only [afterCall, forceV_eq, forceS_eq]
      exact Loc.opt fun a' => LocX.ret _ _
    | pan v => exact LocX.ret _ _
  | defer d s0 =>
    simp only [Nx.up, afterOp]
    cases a.round with
    | none => exact Loc.opt fun a' => LocX.ret _ _
    | some l => exact Loc.none
  | recover s0 => exact Loc.none
  | pan v s0 => exact LocX.ret _ _
theorem loc_op1 (E : Env) (ops : Array Oper) (o : Oper) : CFLoc (op1 E ops o) := fun self hs a => by
  refine Loc.opt fun b => Loc.cond ?_ (Loc.opt fun a' => LocX.ret _ _)
  exact Loc.bindN (loc_opF E o.op a) fun nx => loc_afterOp hs _ _ nx

theorem loc_skip : CFLoc ⟨skipC⟩ := fun _ _ _ => LocX.ret _ _
theorem loc_seqC {x y : CF} (hx : CFLoc x) (hy : CFLoc y) : CFLoc ⟨seqC x y⟩ := fun self hs a => by
  refine Loc.bindX (hx self hs a) fun e a' => ?_
  cases e with
  | norm => exact hy self hs a'
  | _ => exact LocX.ret _ _
theorem loc_opsL (E : Env) (ops : Array Oper) : ∀ l, CFLoc (opsL E ops l)
  | [] => loc_skip
  | o :: l => loc_seqC (loc_op1 E ops o) (loc_opsL E ops l)

/-! ### regions that draw -/

/-- alike at the blocks of a set, whatever the logs -/
structure AgreeH (F : Nat → Prop) (s t : St) : Prop where
  next : t.next = s.next
  heap : ∀ b, F b → t.heap.get b = s.heap.get b

structure DLoc (run : St → Option (X × Ac × St × List (List LE))) : Prop where
  grows : ∀ s r, run s = some r → s.next ≤ r.2.2.1.next ∧ ∀ b, (∀ l ∈ r.2.2.2, ∀ e ∈ l, e.b = b → e.w = false) → r.2.2.1.heap.get b = s.heap.get b
  loc : ∀ s r, run s = some r → ∀ F t, AgreeH F s t → (∀ l ∈ r.2.2.2, ∀ e ∈ l, F e.b) → ∃ t', run t = some (r.1, r.2.1, t', r.2.2.2) ∧ AgreeH F r.2.2.1 t'
def DFLoc (d : DF) : Prop := ∀ self, EVLoc self → ∀ a, DLoc fun s => d.run self a s

theorem loc_drawNil : DFLoc ⟨drawNil⟩ := fun _ _ a => ⟨fun s r h => by
    have h' : some (X.norm, a, s, []) = some r := h
    simp only [Option.some.injEq] at h'
    subst h'
    exact ⟨Nat.le_refl _, fun _ _ => rfl⟩, fun s r h F t hA _ => by
    have h' : some (X.norm, a, s, []) = some r := h
    simp only [Option.some.injEq] at h'
    subst h'
    exact ⟨t, rfl, hA⟩⟩

theorem loc_drawC {x : CF} {k : DF} (hx : CFLoc x) (hk : DFLoc k) : DFLoc ⟨drawC x k⟩ := fun self hs a => by
  have inv : ∀ s r, drawC x k self a s = some r → ∃ e a1 s1, x.run self a { s with on := true, log := [] } = some (e, a1, s1) ∧
      ((e = .norm ∧ ∃ q, k.run self a1 s1 = some q ∧ r = (q.1, q.2.1, q.2.2.1, s1.log :: q.2.2.2)) ∨ (e ≠ .norm ∧ r = (e, a1, s1, [s1.log]))) := fun s r h => by
    unfold drawC at h
    simp only [Option.bind_eq_some_iff, Prod.exists] at h
    obtain ⟨e, a1, s1, h1, h2⟩ := h
    refine ⟨e, a1, s1, h1, ?_⟩
    cases e with
    | norm =>
      simp only [drawOn, Option.bind_eq_some_iff, Option.some.injEq] at h2
      obtain ⟨q, hq, rfl⟩ := h2
      exact .inl ⟨rfl, q, hq, rfl⟩
    | _ => simp only [drawOn, Option.some.injEq] at h2; exact .inr ⟨by simp, h2.symm⟩
  have lx := hx self hs a
  refine ⟨fun s r h => ?_, fun s r h F t hA hF => ?_⟩
  · obtain ⟨e, a1, s1, h1, h2⟩ := inv s r h
    obtain ⟨g1, _⟩ := lx _ _ rfl h1
    obtain ⟨new, hn, hheap⟩ := g1.log
    simp only [List.append_nil] at hn
    rcases h2 with ⟨_, q, hq, rfl⟩ | ⟨_, rfl⟩
    · obtain ⟨g2, g3⟩ := (hk self hs a1).grows _ _ hq
      refine ⟨Nat.le_trans g1.next g2, fun b hb => ?_⟩
      rw [g3 b fun l hl => hb l (List.mem_cons_of_mem _ hl)]
      exact hheap b fun e he => hb s1.log (List.mem_cons_self ..) e (by rw [hn]; exact he)
    · exact ⟨g1.next, fun b hb => hheap b fun e he => hb s1.log (List.mem_cons_self ..) e (by rw [hn]; exact he)⟩
  · obtain ⟨e, a1, s1, h1, h2⟩ := inv s r h
    obtain ⟨g1, l1⟩ := lx _ _ rfl h1
    have hA0 : Agree F { s with on := true, log := [] } { t with on := true, log := [] } := ⟨hA.next, rfl, rfl, hA.heap⟩
    rcases h2 with ⟨rfl, q, hq, rfl⟩ | ⟨he, rfl⟩
    · obtain ⟨t1, e1, A1⟩ := l1 F _ hA0 fun e he => hF s1.log (List.mem_cons_self ..) e he
      obtain ⟨t2, e2, A2⟩ := (hk self hs a1).loc _ _ hq F t1 ⟨A1.next, A1.heap⟩ fun l hl => hF l (List.mem_cons_of_mem _ hl)
      refine ⟨t2, ?_, A2⟩
      show drawC x k self a t = _
      unfold drawC
      simp only [e1, Option.bind_some, drawOn]
      simp only [e2, Option.bind_some]
      have hl : t1.log = s1.log := A1.log
      rw [hl]
    · obtain ⟨t1, e1, A1⟩ := l1 F _ hA0 fun e he => hF s1.log (List.mem_cons_self ..) e he
      refine ⟨t1, ?_, A1.next, A1.heap⟩
      show drawC x k self a t = _
      unfold drawC
      simp only [e1, Option.bind_some]
      have hl : t1.log = s1.log := A1.log
      cases e with
      | norm => exact absurd rfl he
      | _ => simp only [drawOn, hl]

theorem loc_opsD (E : Env) (ops : Array Oper) : ∀ l, DFLoc (opsD E ops l)
  | [] => loc_drawNil
  | o :: l => loc_drawC (loc_op1 E ops o) (loc_opsD E ops l)

theorem joinL_eq : ∀ (ls : List (List LE)) (l : List LE), ∃ new, joinL ls l = new ++ l ∧ ∀ e, e ∈ new ↔ ∃ x ∈ ls, e ∈ x
  | [], l => ⟨[], rfl, by simp⟩
  | x :: xs, l => by
    obtain ⟨new, h1, h2⟩ := joinL_eq xs (x ++ l)
    refine ⟨new ++ x, by simp only [joinL, h1, List.append_assoc], fun e => ?_⟩
    simp only [List.mem_append, h2, List.mem_cons, exists_eq_or_imp]
    exact Or.comm

theorem relog_on {s s' : St} (h : s.on = true) (ls : List (List LE)) : relog s s' ls = { s' with on := true, log := joinL ls s.log } := by unfold relog; rw [h]; rfl

theorem loc_drawnC (pl : Plan) {f : DF} (hf : DFLoc f) : CFLoc ⟨drawnC pl f⟩ := fun self hs a => by
  refine Loc.cond ?_ Loc.none
  intro s r hon h
  simp only [Option.bind_eq_some_iff] at h
  obtain ⟨q, hq, h⟩ := h
  have hq' : f.run self a s = some q := hq
  -- what the end says
  have key : ∃ e a', r = (e, a', relog s q.2.2.1 q.2.2.2) ∧ ∀ t t', drawnEnd pl a t (q.1, q.2.1, t', q.2.2.2) = some (e, a', relog t t' q.2.2.2) := by
    obtain ⟨e, a1, s1, ls⟩ := q
    cases e with
    | norm =>
      simp only [drawnEnd] at h ⊢
      cases hc : (pairsOk ls pl.prs && Nat.beq a1.defers.length a.defers.length) with
      | false => rw [hc] at h; cases h
      | true =>
        rw [hc] at h
        simp only [cond_true, Option.some.injEq] at h
        exact ⟨.norm, _, h.symm, fun _ _ => rfl⟩
    | pan v =>
      simp only [drawnEnd] at h ⊢
      cases hc : (pairsOk ls pl.prs && Nat.beq a1.defers.length a.defers.length) with
      | false => rw [hc] at h; cases h
      | true =>
        rw [hc] at h
        simp only [cond_true, Option.bind_eq_some_iff, Option.some.injEq] at h
        obtain ⟨a2, hp, h⟩ := h
        exact ⟨.pan v, a2, h.symm, fun _ _ => by rw [hp]; rfl⟩
    | exit id => simp [drawnEnd] at h
    | ret => simp [drawnEnd] at h
  obtain ⟨e, a', rfl, hend⟩ := key
  obtain ⟨g1, g2⟩ := (hf self hs a).grows s q hq'
  obtain ⟨new, hj, hmem⟩ := joinL_eq q.2.2.2 s.log
  refine ⟨?_, fun F t hA hW => ?_⟩
  · show Grows s (relog s q.2.2.1 q.2.2.2)
    rw [relog_on hon]
    exact ⟨rfl, g1, new, hj, fun b hb => g2 b fun l hl e he => hb e ((hmem e).2 ⟨l, hl, he⟩)⟩
  · have hW' : Within F (relog s q.2.2.1 q.2.2.2) := hW
    rw [relog_on hon] at hW'
    obtain ⟨t1, e1, A1⟩ := (hf self hs a).loc s q hq' F t ⟨hA.next, hA.heap⟩ fun l hl e he => hW' e (by
      show e ∈ joinL q.2.2.2 s.log
      rw [hj]; exact List.mem_append_left _ ((hmem e).2 ⟨l, hl, he⟩))
    have hont : t.on = true := hA.on.trans hon
    refine ⟨relog t t1 q.2.2.2, ?_, ?_⟩
    · have e1' : f.run self a t = some (q.1, q.2.1, t1, q.2.2.2) := e1
      simp only [e1', Option.bind_some]
      exact hend t t1
    · show Agree F (relog s q.2.2.1 q.2.2.2) _
      rw [relog_on hon, relog_on hont]
      exact ⟨A1.next, rfl, by show joinL _ t.log = joinL _ s.log; rw [hA.log], A1.heap⟩

/-! ### ranges over functions -/

theorem loc_setX (x : X) (a : Ac) (l : Nat) (o : O) : LocX fun s => some (x, a, setO s l o) := Loc.of_eq (g := fun s => ((fun s => some (setO s l o)) s).bind fun s => some (x, a, s)) (fun _ => rfl) (Loc.bindS (LocS.setO l o) (LocX.ret _ _))
theorem loc_endLoop (l : Nat) (a : Ac) : LocX fun s => endLoop l a s := by
  unfold endLoop
  refine Loc.bind (loc_getO l) fun o => ?_
  dsimp only
  cases o <;> try exact Loc.none
  rename_i st pend tmps n params assign body
  refine Loc.cond Loc.none ?_
  cases pend with
  | none => exact loc_setX _ _ _ _
  | some c => cases c <;> first | exact Loc.none | exact loc_setX _ _ _ _
theorem loc_rangeCall {self : EV} (hs : EVLoc self) (l : Nat) (a : Ac) (nx : Nx) : LocX fun s => rangeCall self l a (nx.up s) := by
  cases nx <;> try exact Loc.none
  case enter f args s0 =>
    refine Loc.bind (hs.1 f args) fun e => ?_
    cases e with
    | ret v => exact loc_endLoop l a
    | pan v => exact LocX.ret _ _
theorem loc_rangeC (E : Env) (f : Operand) (params : List Nat) (assign body : Code) : CFLoc ⟨rangeC E f params assign body⟩ := fun self hs a => by
  show LocX fun s => rangeC E f params assign body self a s
  obtain ⟨tm, nn, df, rd⟩ := a
  unfold rangeC
  cases rd with
  | none =>
    dsimp only
    refine Loc.opt fun fv => ?_
    -- two new blocks, then the call
    have h2 : LocP fun s => some (s.next, nw (nw s .defb) (.loop 0 none tm nn params assign body)) :=
      Loc.of_eq (g := fun s => ((fun s => some (s.next, nw s .defb)) s).bind fun p => ((fun s => some (s.next, nw s (.loop 0 none tm nn params assign body))) p.2).bind fun q => some (p.1, q.2)) (fun _ => rfl)
        (Loc.bind (LocP.nw (fun k => k) fun _ => .defb) fun k => by
          dsimp only
          exact Loc.bind (LocP.nw (fun k => k) fun _ => .loop 0 none tm nn params assign body) fun _ => by dsimp only; exact LocP.ret k)
    refine Loc.of_eq (g := fun s => ((fun s => some (s.next, nw (nw s .defb) (.loop 0 none tm nn params assign body))) s).bind fun p => (callV E fv [.yield (p.1 + 1)] p.2).bind
        (rangeCall self (p.1 + 1) { tmps := tm, n := nn, defers := { mark := some p.1, f := .func 0, captured := [], args := [] } :: df, round := none })) (fun _ => rfl) ?_
    exact Loc.bind h2 fun k => by dsimp only; exact Loc.bindN (loc_callV E fv _) fun nx => loc_rangeCall hs _ _ nx
  | some l0 =>
    dsimp only
    refine Loc.bind (loc_getO l0) fun o => ?_
    dsimp only
    cases o <;> try exact Loc.none
    refine Loc.opt fun fv => ?_
    refine Loc.of_eq (g := fun s => ((fun s => some (s.next, nw s (.loop 0 none tm nn params assign body))) s).bind fun p => (callV E fv [.yield p.1] p.2).bind (rangeCall self p.1 { tmps := tm, n := nn, defers := df, round := some l0 })) (fun _ => rfl) ?_
    exact Loc.bind (LocP.nw (fun k => k) fun _ => .loop 0 none tm nn params assign body) fun k => by dsimp only; exact Loc.bindN (loc_callV E fv _) fun nx => loc_rangeCall hs _ _ nx

/-! ### code -/

theorem loc_loopC {x : CF} (hx : CFLoc x) : ∀ n, CFLoc ⟨loopC x n⟩
  | 0 => fun _ _ _ => Loc.none
  | n + 1 => fun self hs a => by
    refine Loc.bindX (hx self hs a) fun e a' => ?_
    cases e with
    | norm => exact loc_loopC hx n self hs a'
    | _ => exact LocX.ret _ _

theorem loc_comp (E : Env) : ∀ c, CFLoc (comp E c)
  | .skip => loc_skip
  | .region _ ops false => loc_opsL E ops _
  | .region _ ops true => loc_drawnC _ (loc_opsD E ops _)
  | .seq x y => loc_seqC (loc_comp E x) (loc_comp E y)
  | .cond c x y => fun self hs a => by
    refine Loc.opt fun v => ?_
    cases v <;> try exact Loc.none
    exact Loc.cond (loc_comp E x self hs a) (loc_comp E y self hs a)
  | .block id x => fun self hs a => by
    refine Loc.bindX (loc_comp E x self hs a) fun e a' => ?_
    cases e <;> exact LocX.ret _ _
  | .loop x => loc_loopC (loc_comp E x) rounds
  | .rangeFunc f ps x y => loc_rangeC E f ps.toList x y
  | .exit id => fun _ _ _ => LocX.ret _ _
  | .scope _ => fun _ _ _ => Loc.none
  | .label _ => loc_skip
  | .goto _ => fun _ _ _ => Loc.none
  | .ret => fun _ _ _ => LocX.ret _ _
  | .refuse _ => fun _ _ _ => Loc.none

/-! ### deferred calls -/

theorem loc_opsS (E : Env) {self : EV} (hs : EVLoc self) (ops : Array Oper) : ∀ (l : List Oper) (a : Ac) (m : Md), LocM fun s => opsS E self ops l a m s
  | [], a, m => LocM.ret _ _ _
  | o :: l, a, m => by
    unfold opsS
    refine Loc.cond (Loc.opt fun a' => loc_opsS E hs ops l _ _) ?_
    refine Loc.bindX (loc_op1 E ops o { self with r := fun _ _ _ => none } ⟨hs.1, fun _ _ => Loc.none⟩ a) fun e a' => ?_
    cases e with
    | norm => exact loc_opsS E hs ops l a' m
    | _ => exact LocM.ret _ _ _

theorem loc_evS (E : Env) {self : EV} (hs : EVLoc self) : ∀ (d : Nat) (c : Code) (a : Ac) (m : Md), LocM fun s => evS E self d c a m s
  | 0, _, _, _ => Loc.none
  | d + 1, c, a, m => by
    have other : LocM fun s => ((comp E c).run self a s).bind fun (x, a, s) => some (x, a, m, s) :=
      Loc.bindX (loc_comp E c self hs a) fun e a' => LocM.ret _ _ _
    cases c <;> try exact other
    case seq x y =>
      refine Loc.bindM (loc_evS E hs d x a m) fun e a' m' => ?_
      cases e with
      | norm => exact loc_evS E hs d y a' m'
      | _ => exact LocM.ret _ _ _
    case cond c x y =>
      refine Loc.opt fun v => ?_
      cases v <;> try exact Loc.none
      exact loc_evS E hs d _ a m
    case region id ops draw =>
      cases draw with
      | false => exact loc_opsS E hs ops _ a m
      | true => exact other

theorem loc_resultsV (E : Env) (a : Ac) : ∀ l, LocP fun s => resultsV E a l s
  | [] => LocP.ret _
  | .tmp t :: l => by
    unfold resultsV
    exact Loc.opt fun v => Loc.bind (loc_resultsV E a l) fun vs => by dsimp only; exact LocP.ret _
  | .cell t ty :: l => by
    unfold resultsV
    refine Loc.opt fun v => ?_
    cases v <;> try exact Loc.none
    refine Loc.bind (loc_loadV E ty _ _) fun u => ?_
    dsimp only
    exact Loc.bind (loc_resultsV E a l) fun vs => by dsimp only; exact LocP.ret _

theorem loc_leaves (E : Env) {self : EV} (hs : EVLoc self) (fn : Func) (a : Ac) : ∀ (ds : List AD) (m : Md), LocP fun s => leaves E self fn a ds m s
  | [], m => by
    cases m with
    | ret => exact Loc.bind (loc_resultsV E a _) fun vs => by dsimp only; exact LocP.ret _
    | pan v => exact LocP.ret _
    | got v => exact Loc.none
  | d :: ds, m => by
    unfold leaves
    cases d.mark with
    | some r =>
      dsimp only
      refine Loc.bind (loc_getO r) fun o => ?_
      dsimp only
      cases o <;> try exact Loc.none
      exact Loc.of_eq (g := fun s => ((fun s => some (setO s r .dead)) s).bind fun s => leaves E self fn a ds m s) (fun _ => rfl) (Loc.bindS (LocS.setO r .dead) (loc_leaves E hs fn a ds m))
    | none =>
    dsimp only
    cases d.f <;> try exact Loc.none
    refine Loc.opt fun g => Loc.opt fun c => Loc.cond ?_ Loc.none
    refine Loc.bindM (loc_evS E hs 50 c _ m) fun e a' m' => ?_
    dsimp only
    refine Loc.cond ?_ Loc.none
    exact Loc.bind (loc_resultsV E a' _) fun vs => by dsimp only; exact loc_leaves E hs fn a ds _

/-- what is known hangs on what it reads -/
def KnLoc (E : Env) : Prop := ∀ f g, E.kn.get f = some g → ∀ args, LocP fun s => g.run args s

theorem loc_stepF (E : Env) (hK : KnLoc E) {self : EV} (hs : EVLoc self) (f : FuncId) (args : List V) : LocP fun s => stepF E self f args s := by
  unfold stepF fnOf
  cases hg : E.kn.get f with
  | some g => exact Loc.bind (hK f g hg args) fun v => LocP.ret (En.ret v)
  | none =>
  cases hf : E.fns.get f with
  | none => exact Loc.none
  | some fn =>
  cases hb : fn.body with
  | none => simp only [Option.bind_some, hb]; exact Loc.none
  | some c =>
  simp only [Option.bind_some, hb]
  refine Loc.cond ?_ Loc.none
  refine Loc.bindX (loc_comp E c self hs _) fun e a' => ?_
  cases e with
  | norm => exact loc_leaves E hs fn a' a'.defers .ret
  | ret => exact loc_leaves E hs fn a' a'.defers .ret
  | pan v => exact loc_leaves E hs fn a' a'.defers (.pan v)
  | exit id => exact Loc.none

theorem loc_endRound (l st : Nat) (pend : Option Code) (back : Bool) : LocP fun s => endRound l st pend back s := by
  unfold endRound
  refine Loc.bind (loc_getO l) fun o => ?_
  dsimp only
  cases o <;> try exact Loc.none
  exact loc_setRet _ _ _
theorem loc_roundEnd (l : Nat) (x : X) (a : Ac) : LocP fun s => roundEnd l (x, a, s) := by
  unfold roundEnd
  dsimp only
  refine Loc.cond ?_ Loc.none
  cases x with
  | norm => exact loc_endRound _ _ _ _
  | ret => exact loc_endRound _ _ _ _
  | exit id => exact loc_endRound _ _ _ _
  | pan v => exact Loc.none
theorem loc_roundBody (E : Env) {self : EV} (hs : EVLoc self) (l : Nat) (body : Code) (x : X) (a : Ac) : LocP fun s => roundBody E self l body (x, a, s) := by
  unfold roundBody
  cases x <;> try exact Loc.none
  dsimp only
  refine Loc.bind (loc_getO l) fun o => ?_
  dsimp only
  cases o <;> try exact Loc.none
  rename_i st pend tmps n params assign body'
  refine Loc.cond ?_ Loc.none
  refine Loc.of_eq (g := fun s => ((fun s => some (setO s l (.loop 2 pend tmps n params assign body'))) s).bind fun s => ((comp E body).run self a s).bind (roundEnd l)) (fun _ => rfl) ?_
  exact Loc.bindS (LocS.setO _ _) (Loc.bindX (loc_comp E body self hs a) fun e a' => loc_roundEnd l e a')
theorem loc_stepR (E : Env) {self : EV} (hs : EVLoc self) (l : Nat) (args : List V) : LocP fun s => stepR E self l args s := by
  unfold stepR
  refine Loc.bind (loc_getO l) fun o => ?_
  dsimp only
  cases o <;> try exact Loc.none
  refine Loc.opt fun t => ?_
  exact Loc.bindX (loc_comp E _ self hs _) fun e a' => loc_roundBody E hs l _ e a'

theorem loc_ev (E : Env) (hK : KnLoc E) : ∀ n, EVLoc (ev E n)
  | 0 => ⟨fun _ _ => Loc.none, fun _ _ => Loc.none⟩
  | n + 1 => ⟨fun f args => loc_stepF E hK (loc_ev E hK n) f args, fun l args => loc_stepR E (loc_ev E hK n) l args⟩
end Go.Proofs.YtjaibhpfhdmikacGreatDoor.Ev

/-
  One operation with its guard, its call and its place, held against the model's; and operations one behind the other.
-/
namespace Go.Proofs.YtjaibhpfhdmikacGreatDoor.Ev
open Go.RowKit

section
variable {P : Program} {E : Env} {w0 : Base} {ρ : Rho} {s : St} {w : World} {a : Ac} {ca : Act}

/-- what a call comes to -/
def EnSim (E : Env) (w0 : Base) (ρ : Rho) (s' : St) : En → Ending → World → Prop
  | .ret v, ce, w' => ∃ ρ' cv, ce = .returned cv ∧ ρ.le ρ' ∧ VRel ρ' v cv ∧ Rel E w0 ρ' s' w'
  | .pan v, ce, w' => ∃ ρ' cv, ce = .panicked [{ v := cv, recovered := false }] ∧ ρ.le ρ' ∧ VRel ρ' v cv ∧ Rel E w0 ρ' s' w'

/-- no fence at all, but for the round that a frame is of -/
def fenceAt (r : Option Nat) : Fence := { Fence.wide with round := r }
theorem noDepth (r : Option Nat) : (fenceAt r).depth.isSome = true → 1 ≤ 0 := fun h => by cases h
theorem callsAt {P : Program} {f : FuncId} {args : Array Value} {w : World} {R : Ending → World → Prop} (r : Option Nat) (n : Nat) (h : Calls P f args w R) : CallsIn (fenceAt r) n P f args w R := callsIn_wide.2 h
theorem roundAt {P : Program} {l : Nat} {f : FuncId} {tmps : Array Value} {assign body : Code} {w : World} {R : Ending → World → Prop} {n : Nat} (r : Option Nat) (h : RoundIn Fence.wide n P l f tmps assign body w R) : RoundIn (fenceAt r) n P l f tmps assign body w R := h

/-- a round's temporaries -/
def roundTmps (r : Loop) (args : Array Value) : Array Value := (r.params.zip args).foldl (fun tmps (t, a) => tmps.setIfInBounds t a) r.tmps

structure EVSim (P : Program) (E : Env) (sf : EV) : Prop where
  call : ∀ (w0 : Base) (ρ : Rho) (s : St) (w : World) (f : FuncId) (args : List V) (cargs : Array Value) (e : En) (s' : St),
    Rel E w0 ρ s w → VRels ρ args cargs.toList → sf.f f args s = some (e, s') → Calls P f cargs w (EnSim E w0 ρ s' e)
  round : ∀ (w0 : Base) (ρ : Rho) (s : St) (w : World) (l : Nat) (args : List V) (cargs : Array Value) (e : En) (s' : St) (cl sh sz : Nat),
    Rel E w0 ρ s w → ρ l = some (cl, sh, sz) → VRels ρ args cargs.toList → sf.r l args s = some (e, s') →
    ∃ r, w.heap[cl]? = some (.loop r) ∧ cargs.size = r.params.size ∧ RoundIn Fence.wide 0 P cl r.fn (roundTmps r cargs) r.assign r.body w (EnSim E w0 ρ s' e)

theorem opF_defer {c : Call} {nx : Nx} (h : (opF E (.defer c)).run a s = some nx) : ∃ d s', nx = .defer d s' := by
  simp only [opF] at h
  cases hc : c.callee with
  | builtin b => rw [hc] at h; cases h
  | invoke x n => rw [hc] at h; cases h
  | value f =>
    rw [hc] at h
    have h' : oDefer E f c.args.toList a s = some nx := h
    unfold oDefer at h'
    simp only [Option.bind_eq_some_iff] at h'
    obtain ⟨v, hv, h'⟩ := h'
    cases v <;> simp only [reduceCtorEq] at h'
    simp only [Option.bind_eq_some_iff, Option.some.injEq] at h'
    obtain ⟨vs, _, rfl⟩ := h'
    exact ⟨_, _, rfl⟩
theorem semAt_of {o : Oper} {nx : Nx} (h : (opF E o.op).run a s = some nx) (hd : ∀ d s', nx ≠ .defer d s') (r : Option Nat) (ev : Operand → Value) : o.semAt r ev = execOp ev o :=
  Oper.semAt_eq r ev o fun c hc => by
    rw [hc] at h
    obtain ⟨d, s', e⟩ := opF_defer h
    exact hd d s' e

theorem getP_eq (t : Nat) (m : Tr V) : (getP (bits t t)).run m = m.get t := getP_bits t t m (Nat.le_refl _)

theorem wantF_sim (hA : ARel ρ a ca) {ops : Array Oper} {o : Oper} {b : Bool} (h : (wantF ops o).run a = some b) : Region.wanted o (yielded ops ca.tmps) = b := by
  unfold wantF at h
  unfold Region.wanted
  cases hg : o.guard with
  | none =>
    rw [hg] at h
    have h' : some true = some b := h
    simpa using h'
  | some gw =>
    obtain ⟨j, want⟩ := gw
    rw [hg] at h
    simp only at h ⊢
    unfold yielded
    cases hd : (ops[j]?).bind (·.dst) with
    | none =>
      rw [hd] at h
      have h' : some false = some b := h
      simp only [Option.some.injEq] at h'
      subst h'
      simp
    | some t =>
      rw [hd] at h
      have h' : wantAt t (getP (bits t t)) want a = some b := h
      unfold wantAt at h'
      rw [getP_eq] at h'
      cases hlt : Nat.blt t a.n with
      | false =>
        rw [hlt] at h'
        simp only [cond_false, Option.some.injEq] at h'
        subst h'
        have : ca.tmps[t]? = none := Array.getElem?_eq_none (by
          rw [hA.n]
          rcases Nat.lt_or_ge t a.n with h1 | h1
          · rw [← blt_true] at h1; rw [h1] at hlt; cases hlt
          · exact h1)
        simp [this]
      | true =>
        rw [hlt] at h'
        simp only [cond_true, Option.bind_eq_some_iff] at h'
        obtain ⟨v, hv, h'⟩ := h'
        have hr := hA.tmp t v hv
        rw [blt_true] at hlt
        have hsz : t < ca.tmps.size := by rw [hA.n]; exact hlt
        have hget : ca.tmps[t]? = some (ca.tmps.getD t undef) := by
          rw [Array.getElem?_eq_getElem hsz]
          simp [Array.getD, hsz]
        simp only [Option.bind_some, hget]
        generalize ca.tmps.getD t undef = cv at hr ⊢
        cases hr <;> simp only [Option.some.injEq] at h' <;> subst h' <;> simp
        rename_i b
        cases b <;> cases want <;> rfl

/-! ### what an operation makes -/

inductive Made (E : Env) (ops : Array Oper) (o : Oper) (self : EV) (a : Ac) (s : St) : V → St → Prop where
  | no (hw : (wantF ops o).run a = some false) : Made E ops o self a s (.tuple []) s
  | val {v : V} {s' : St} (hw : (wantF ops o).run a = some true) (h : (opF E o.op).run a s = some (.val v s')) : Made E ops o self a s v s'
  | call {f : FuncId} {args : List V} {s1 : St} {v : V} {s' : St} (hw : (wantF ops o).run a = some true) (h : (opF E o.op).run a s = some (.enter f args s1)) (h2 : self.f f args s1 = some (.ret v, s')) :
      Made E ops o self a s v s'
  | round {l : Nat} {args : List V} {s1 : St} {v : V} {s' : St} (hw : (wantF ops o).run a = some true) (h : (opF E o.op).run a s = some (.round l args s1)) (h2 : self.r l args s1 = some (.ret v, s')) :
      Made E ops o self a s v s'

theorem made_sim (hE : EnvOk P E) {self : EV} (hs : EVSim P E self) {ops : Array Oper} {i : Nat} {o : Oper} (hi : ops[i]? = some o) (hR : Rel E w0 ρ s w) (hA : ARel ρ a ca) {v : V} {s' : St} (h : Made E ops o self a s v s') (rd : Option Nat)
    {K : Act → World → Prop} {Q : Exit → Act → World → Prop} (hK : ∀ ρ' cv w', ρ.le ρ' → VRel ρ' v cv → Rel E w0 ρ' s' w' → K (ca.put o.dst cv) w') : wpOpIn (fenceAt rd) 0 P ops Q i K ca w := by
  unfold wpOpIn
  simp only [hi]
  cases h with
  | no hw =>
    rw [wantF_sim hA hw]
    simp only [Bool.false_eq_true, if_false]
    exact ⟨fun _ _ => trivial, hK ρ undef w (Rho.le_refl ρ) undef_rel hR⟩
  | val hw h =>
    rw [wantF_sim hA hw]
    simp only [if_true]
    refine ⟨fun _ _ => trivial, ?_⟩
    rw [semAt_of h (fun _ _ e => by cases e)]
    obtain ⟨ρ', cv, w', hrun, hle, hv, hR'⟩ := opF_sim (P := P) hE hR hA o h
    rcases hrun with hrun | ⟨hrun, rfl⟩
    · rw [hrun]; exact hK ρ' cv w' hle hv hR'
    · rw [hrun]; exact hK ρ' undef w' hle hv hR'
  | call hw h h2 =>
    rw [wantF_sim hA hw]
    simp only [if_true]
    refine ⟨fun _ _ => trivial, ?_⟩
    rw [semAt_of h (fun _ _ e => by cases e)]
    obtain ⟨cargs, hrun, hv, hR'⟩ := opF_sim (P := P) hE hR hA o h
    rw [hrun]
    refine ⟨noDepth rd, callsAt rd _ ((hs.call w0 ρ _ w _ _ cargs _ _ hR' hv h2).mono fun ce w' hce => ?_)⟩
    obtain ⟨ρ', cv, rfl, hle, hcv, hR2⟩ := hce
    exact hK ρ' cv w' hle hcv hR2
  | round hw h h2 =>
    rw [wantF_sim hA hw]
    simp only [if_true]
    refine ⟨fun _ _ => trivial, ?_⟩
    rw [semAt_of h (fun _ _ e => by cases e)]
    obtain ⟨cargs, cl, sh, sz, hρ, hrun, hv, hR'⟩ := opF_sim (P := P) hE hR hA o h
    obtain ⟨r, hloop, hsz, hround⟩ := hs.round w0 ρ _ w _ _ cargs _ _ cl sh sz hR' hρ hv h2
    rw [hrun, run_yield hloop hsz]
    refine ⟨noDepth rd, roundAt rd (hround.mono fun ce w' hce => ?_)⟩
    obtain ⟨ρ', cv, rfl, hle, hcv, hR2⟩ := hce
    exact hK ρ' cv w' hle hcv hR2

/-- an operation ends in a panic: by itself, or by its call, or by a round -/
def PanBy (E : Env) (o : Oper) (self : EV) (a : Ac) (s : St) (v : V) (s' : St) : Prop :=
  (opF E o.op).run a s = some (.pan v s') ∨ (∃ f args s1, (opF E o.op).run a s = some (.enter f args s1) ∧ self.f f args s1 = some (.pan v, s')) ∨
    ∃ l args s1, (opF E o.op).run a s = some (.round l args s1) ∧ self.r l args s1 = some (.pan v, s')
/-- what an operation does, taken apart -/
theorem op1_inv {ops : Array Oper} {o : Oper} {self : EV} {x : X} {a' : Ac} {s' : St} (h : (op1 E ops o).run self a s = some (x, a', s')) :
    (x = .norm ∧ ∃ v, Made E ops o self a s v s' ∧ (putF o.dst).run a v = some a') ∨
    (x = .norm ∧ a.round = none ∧ (wantF ops o).run a = some true ∧ ∃ d, (opF E o.op).run a s = some (.defer d s') ∧ (putF o.dst).run { a with defers := d :: a.defers } (.tuple []) = some a') ∨
    (∃ v, x = .pan v ∧ a' = a ∧ (wantF ops o).run a = some true ∧ PanBy E o self a s v s') := by
  have h' : runOp (wantF ops o) (opF E o.op) (putF o.dst) self a s = some (x, a', s') := h
  unfold runOp at h'
  simp only [Option.bind_eq_some_iff] at h'
  obtain ⟨b, hb, h'⟩ := h'
  cases b with
  | false =>
    simp only [cond_false, Option.bind_eq_some_iff, Option.some.injEq, Prod.mk.injEq] at h'
    obtain ⟨a1, ha1, rfl, rfl, rfl⟩ := h'
    exact .inl ⟨rfl, _, .no hb, ha1⟩
  | true =>
    simp only [cond_true, Option.bind_eq_some_iff] at h'
    obtain ⟨nx, hnx, h'⟩ := h'
    cases nx with
    | val v s1 =>
      simp only [afterOp, forceV_eq, forceS_eq, Option.bind_eq_some_iff, Option.some.injEq, Prod.mk.injEq] at h'
      obtain ⟨a1, ha1, rfl, rfl, rfl⟩ := h'
      exact .inl ⟨rfl, v, .val hb hnx, ha1⟩
    | enter f args s1 =>
      simp only [afterOp, forceS_eq, Option.bind_eq_some_iff, Prod.exists] at h'
      obtain ⟨e, s2, he, h'⟩ := h'
      cases e with
      | ret v =>
        simp only [afterCall, forceV_eq, forceS_eq, Option.bind_eq_some_iff, Option.some.injEq, Prod.mk.injEq] at h'
        obtain ⟨a1, ha1, rfl, rfl, rfl⟩ := h'
        exact .inl ⟨rfl, v, .call hb hnx he, ha1⟩
      | pan v =>
        simp only [afterCall, Option.some.injEq, Prod.mk.injEq] at h'
        obtain ⟨rfl, rfl, rfl⟩ := h'
        exact .inr (.inr ⟨v, rfl, rfl, hb, .inr (.inl ⟨f, args, s1, hnx, he⟩)⟩)
    | round f args s1 =>
      simp only [afterOp, forceS_eq, Option.bind_eq_some_iff, Prod.exists] at h'
      obtain ⟨e, s2, he, h'⟩ := h'
      cases e with
      | ret v =>
        simp only [afterCall, forceV_eq, forceS_eq, Option.bind_eq_some_iff, Option.some.injEq, Prod.mk.injEq] at h'
        obtain ⟨a1, ha1, rfl, rfl, rfl⟩ := h'
        exact .inl ⟨rfl, v, .round hb hnx he, ha1⟩
      | pan v =>
        simp only [afterCall, Option.some.injEq, Prod.mk.injEq] at h'
        obtain ⟨rfl, rfl, rfl⟩ := h'
        exact .inr (.inr ⟨v, rfl, rfl, hb, .inr (.inr ⟨f, args, s1, hnx, he⟩)⟩)
    | defer d s1 =>
      simp only [afterOp] at h'
      cases hr : a.round with
      | some l => rw [hr] at h'; cases h'
      | none =>
      rw [hr] at h'
      simp only [Option.bind_eq_some_iff, Option.some.injEq, Prod.mk.injEq] at h'
      obtain ⟨a1, ha1, rfl, rfl, rfl⟩ := h'
      exact .inr (.inl ⟨rfl, rfl, hb, d, hnx, ha1⟩)
    | recover s1 => simp [afterOp] at h'
    | pan v s1 =>
      simp only [afterOp, Option.some.injEq, Prod.mk.injEq] at h'
      obtain ⟨rfl, rfl, rfl⟩ := h'
      exact .inr (.inr ⟨v, rfl, rfl, hb, .inl hnx⟩)

/-- an operation that ends in a panic -/
theorem pan_sim (hE : EnvOk P E) {self : EV} (hs : EVSim P E self) {ops : Array Oper} {i : Nat} {o : Oper} (hi : ops[i]? = some o) (hR : Rel E w0 ρ s w) (hA : ARel ρ a ca) {v : V} {s' : St} (hw : (wantF ops o).run a = some true)
    (h : PanBy E o self a s v s') (rd : Option Nat)
    {K : Act → World → Prop} {Q : Exit → Act → World → Prop} (hQ : ∀ ρ' cv w', ρ.le ρ' → VRel ρ' v cv → Rel E w0 ρ' s' w' → Q (.panic [{ v := cv, recovered := false }]) ca w') : wpOpIn (fenceAt rd) 0 P ops Q i K ca w := by
  unfold wpOpIn
  simp only [hi]
  rw [wantF_sim hA hw]
  simp only [if_true]
  refine ⟨fun _ _ => trivial, ?_⟩
  rcases h with h | ⟨f, args, s1, h, h2⟩ | ⟨l, args, s1, h, h2⟩
  · rw [semAt_of h (fun _ _ e => by cases e)]
    obtain ⟨cv, hrun, hv, hR'⟩ := opF_sim (P := P) hE hR hA o h
    rw [hrun]; exact hQ ρ cv w (Rho.le_refl ρ) hv hR'
  · rw [semAt_of h (fun _ _ e => by cases e)]
    obtain ⟨cargs, hrun, hv, hR'⟩ := opF_sim (P := P) hE hR hA o h
    rw [hrun]
    refine ⟨noDepth rd, callsAt rd _ ((hs.call w0 ρ _ w _ _ cargs _ _ hR' hv h2).mono fun ce w' hce => ?_)⟩
    obtain ⟨ρ', cv, rfl, hle, hcv, hR2⟩ := hce
    exact hQ ρ' cv w' hle hcv hR2
  · rw [semAt_of h (fun _ _ e => by cases e)]
    obtain ⟨cargs, cl, sh, sz, hρ, hrun, hv, hR'⟩ := opF_sim (P := P) hE hR hA o h
    obtain ⟨r, hloop, hsz, hround⟩ := hs.round w0 ρ _ w _ _ cargs _ _ cl sh sz hR' hρ hv h2
    rw [hrun, run_yield hloop hsz]
    refine ⟨noDepth rd, roundAt rd (hround.mono fun ce w' hce => ?_)⟩
    obtain ⟨ρ', cv, rfl, hle, hcv, hR2⟩ := hce
    exact hQ ρ' cv w' hle hcv hR2

/-- what code comes to -/
def XSim (E : Env) (w0 : Base) (ρ : Rho) (a' : Ac) (s' : St) : X → Exit → Act → World → Prop
  | .norm, e, ca', w' => e = .normal ∧ ∃ ρ', ρ.le ρ' ∧ ARel ρ' a' ca' ∧ Rel E w0 ρ' s' w'
  | .exit id, e, ca', w' => e = .exit id ∧ ∃ ρ', ρ.le ρ' ∧ ARel ρ' a' ca' ∧ Rel E w0 ρ' s' w'
  | .ret, e, ca', w' => e = .ret ∧ ∃ ρ', ρ.le ρ' ∧ ARel ρ' a' ca' ∧ Rel E w0 ρ' s' w'
  | .pan v, e, ca', w' => ∃ ρ' cv, e = .panic [{ v := cv, recovered := false }] ∧ ρ.le ρ' ∧ VRel ρ' v cv ∧ ARel ρ' a' ca' ∧ Rel E w0 ρ' s' w'

theorem op1_sim (hE : EnvOk P E) {self : EV} (hs : EVSim P E self) {ops : Array Oper} {i : Nat} {o : Oper} (hi : ops[i]? = some o) (hR : Rel E w0 ρ s w) (hA : ARel ρ a ca) {x : X} {a' : Ac} {s' : St} (h : (op1 E ops o).run self a s = some (x, a', s')) {rd : Option Nat} (hrd : a.round = none → rd = none)
    {K : Act → World → Prop} {Q : Exit → Act → World → Prop} (hK : x = .norm → ∀ ρ' ca' w', ρ.le ρ' → ARel ρ' a' ca' → Rel E w0 ρ' s' w' → K ca' w')
    (hQ : x ≠ .norm → ∀ e ca' w', XSim E w0 ρ a' s' x e ca' w' → Q e ca' w') : wpOpIn (fenceAt rd) 0 P ops Q i K ca w := by
  rcases op1_inv h with ⟨rfl, v, hm, hp⟩ | ⟨rfl, hr, hw, d, hd, hp⟩ | ⟨v, rfl, rfl, hw, hp⟩
  · refine made_sim hE hs hi hR hA hm rd fun ρ' cv w' hle hv hR' => ?_
    exact hK rfl ρ' _ w' hle (put_sim (hA.mono hle) hp hv).1 hR'
  · obtain rfl := hrd hr
    unfold wpOpIn
    simp only [hi]
    rw [wantF_sim hA hw]
    simp only [if_true]
    refine ⟨fun _ _ => trivial, ?_⟩
    rw [show o.semAt (fenceAt none).round ca.eval = execOp ca.eval o from rfl]
    obtain ⟨hmk, cd, hrun, hdr, hR'⟩ := opF_sim (P := P) hE hR hA o hd
    rw [hrun]
    have hA2 : ARel ρ { a with defers := d :: a.defers } { ca with defers := cd :: ca.defers } := ⟨hA.n, hA.tmp, .cons hdr hA.defers⟩
    exact hK rfl ρ _ w (Rho.le_refl ρ) (put_sim hA2 hp undef_rel).1 hR'
  · refine pan_sim hE hs hi hR hA hw hp rd fun ρ' cv w' hle hv hR' => ?_
    exact hQ (by simp) _ ca w' ⟨ρ', cv, rfl, hle, hv, hA.mono hle, hR'⟩

theorem putF_round {dst : Option Tmp} {a a' : Ac} {v : V} (h : (putF dst).run a v = some a') : a'.round = a.round := by
  cases dst with
  | none =>
    have h' : some a = some a' := h
    simp only [Option.some.injEq] at h'; subst h'; rfl
  | some d =>
    have h' : putAt (setPC (bits d d)) d a v = some a' := h
    rw [putAt_eq] at h'
    cases hd : Nat.blt d a.n with
    | false => rw [hd] at h'; cases h'
    | true =>
      rw [hd] at h'
      simp only [cond_true, Option.some.injEq] at h'
      subst h'; rfl
theorem op1_round {ops : Array Oper} {o : Oper} {self : EV} {x : X} {a' : Ac} {s' : St} (h : (op1 E ops o).run self a s = some (x, a', s')) : a'.round = a.round := by
  rcases op1_inv h with ⟨_, v, _, hp⟩ | ⟨_, _, _, d, _, hp⟩ | ⟨v, _, rfl, _⟩
  · exact putF_round hp
  · have := putF_round hp; exact this
  · rfl

theorem XSim.mono {ρ ρ1 : Rho} (hle : ρ.le ρ1) {a' : Ac} {s' : St} {x : X} {e : Exit} {ca' : Act} {w' : World} (h : XSim E w0 ρ1 a' s' x e ca' w') : XSim E w0 ρ a' s' x e ca' w' := by
  cases x with
  | norm => obtain ⟨h1, ρ', h2, h3⟩ := h; exact ⟨h1, ρ', Rho.le_trans hle h2, h3⟩
  | exit id => obtain ⟨h1, ρ', h2, h3⟩ := h; exact ⟨h1, ρ', Rho.le_trans hle h2, h3⟩
  | ret => obtain ⟨h1, ρ', h2, h3⟩ := h; exact ⟨h1, ρ', Rho.le_trans hle h2, h3⟩
  | pan v => obtain ⟨ρ', cv, h1, h2, h3⟩ := h; exact ⟨ρ', cv, h1, Rho.le_trans hle h2, h3⟩

/-- operations one behind the other -/
theorem opsL_sim (hE : EnvOk P E) {self : EV} (hs : EVSim P E self) {ops : Array Oper} : ∀ (l : List Oper) (k : Nat), (∀ j o, l[j]? = some o → ops[k + j]? = some o) → ∀ {ρ0 ρ : Rho} {s : St} {w : World} {a : Ac} {ca : Act} {x : X} {a' : Ac} {s' : St}, ρ0.le ρ →
    Rel E w0 ρ s w → ARel ρ a ca → ∀ {rd : Option Nat}, (a.round = none → rd = none) → (opsL E ops l).run self a s = some (x, a', s') → wpOpsIn (fenceAt rd) 0 P ops (XSim E w0 ρ0 a' s' x) (List.range' k l.length) ca w := by
  intro l
  induction l with
  | nil =>
    intro k _ ρ0 ρ s w a ca x a' s' hle0 hR hA rd hrd h
    have h' : some (X.norm, a, s) = some (x, a', s') := h
    simp only [Option.some.injEq, Prod.mk.injEq] at h'
    obtain ⟨rfl, rfl, rfl⟩ := h'
    exact ⟨rfl, ρ, hle0, hA, hR⟩
  | cons o l ih =>
    intro k hops ρ0 ρ s w a ca x a' s' hle0 hR hA rd hrd h
    have h' : ((op1 E ops o).run self a s).bind (seqOn (opsL E ops l) self) = some (x, a', s') := h
    simp only [Option.bind_eq_some_iff, Prod.exists] at h'
    obtain ⟨x1, a1, s1, h1, h2⟩ := h'
    simp only [List.length_cons, List.range'_succ]
    rw [wpOpsIn_cons]
    have hk : ops[k]? = some o := by simpa using hops 0 o (by simp)
    refine op1_sim hE hs hk hR hA h1 hrd (fun hx ρ' ca' w' hle hA' hR' => ?_) (fun hx e ca' w' hxs => ?_)
    · subst hx
      have h2' : (opsL E ops l).run self a1 s1 = some (x, a', s') := h2
      exact ih (k + 1) (fun j o' hj => by have := hops (j + 1) o' (by simpa using hj); rw [show k + 1 + j = k + (j + 1) by omega]; exact this) (Rho.le_trans hle0 hle) hR' hA' (fun e => hrd ((op1_round h1).symm.trans e)) h2'
    · have h2' : some (x1, a1, s1) = some (x, a', s') := by cases x1 <;> first | exact absurd rfl hx | exact h2
      simp only [Option.some.injEq, Prod.mk.injEq] at h2'
      obtain ⟨rfl, rfl, rfl⟩ := h2'
      exact hxs.mono hle0
end
end Go.Proofs.YtjaibhpfhdmikacGreatDoor.Ev

/-
  REGIONS THAT DRAW THEIR ORDER, what their plan says; and that an operation hangs on the temporaries that it looks at alone.
-/
namespace Go.Proofs.YtjaibhpfhdmikacGreatDoor.Ev

/-! ### who must come ahead -/

theorem nthN_eq : ∀ (l : List Nat) (i : Nat), nthN l i = l.getD i 0
  | [], i => by simp [nthN]
  | x :: l, 0 => by simp [nthN]
  | x :: l, i + 1 => by simp only [nthN]; rw [show Nat.beq (i + 1) 0 = false from rfl]; simp [nthN_eq l i]

theorem befs_spec : ∀ (l : List Oper) (acc : List Nat), ∃ R, befs l acc = acc ++ R ∧ R.length = l.length ∧
    ∀ (k : Nat) (o : Oper), l[k]? = some o → nthN (acc ++ R) (acc.length + k) = befOf ((acc ++ R).take (acc.length + k)) o.after.toList
  | [], acc => ⟨[], by simp [befs], rfl, by simp⟩
  | o :: l, acc => by
    obtain ⟨R, h1, h2, h3⟩ := befs_spec l (acc ++ [befOf acc o.after.toList])
    refine ⟨befOf acc o.after.toList :: R, by simp only [befs, h1]; simp, by simp [h2], fun k o' hk => ?_⟩
    cases k with
    | zero =>
      simp at hk
      subst hk
      rw [nthN_eq]
      simp
    | succ k =>
      have := h3 k o' (by simpa using hk)
      simp only [List.append_assoc, List.length_append, List.length_cons, List.length_nil, List.singleton_append] at this
      rw [show acc.length + (k + 1) = acc.length + (0 + 1) + k by omega]
      exact this

theorem befOf_bit {acc : List Nat} {i : Nat} : ∀ {es : List Edge}, (befOf acc es).testBit i = true → ∃ e ∈ es, Region.binds .any e = true ∧ (e.on = i ∨ (nthN acc e.on).testBit i = true)
  | [], h => by simp [befOf] at h
  | e :: es, h => by
    simp only [befOf] at h
    cases hb : Region.binds .any e with
    | false =>
      rw [hb] at h
      obtain ⟨e', h1, h2⟩ := befOf_bit (es := es) h
      exact ⟨e', List.mem_cons_of_mem _ h1, h2⟩
    | true =>
      rw [hb] at h
      have h' : ((2 ^ e.on ||| nthN acc e.on) ||| befOf acc es).testBit i = true := h
      rw [Nat.testBit_or, Nat.testBit_or, Nat.testBit_two_pow] at h'
      simp only [Bool.or_eq_true, decide_eq_true_eq] at h'
      rcases h' with (h' | h') | h'
      · exact ⟨e, List.mem_cons_self .., hb, .inl h'⟩
      · exact ⟨e, List.mem_cons_self .., hb, .inr h'⟩
      · obtain ⟨e', h1, h2⟩ := befOf_bit (es := es) h'
        exact ⟨e', List.mem_cons_of_mem _ h1, h2⟩

def bef (ops : Array Oper) (j : Nat) : Nat := nthN (befs ops.toList []) j
def EdgesBack (ops : Array Oper) : Prop := ∀ (k : Nat) (o : Oper), ops[k]? = some o → ∀ e ∈ o.after, Region.binds .any e = true → e.on < k

theorem bef_bit {ops : Array Oper} (hb : EdgesBack ops) {j i : Nat} {o : Oper} (ho : ops[j]? = some o) (h : (bef ops j).testBit i = true) :
    ∃ e ∈ o.after, Region.binds .any e = true ∧ e.on < j ∧ (e.on = i ∨ (bef ops e.on).testBit i = true) := by
  obtain ⟨R, h1, h2, h3⟩ := befs_spec ops.toList []
  simp only [List.nil_append, List.length_nil, Nat.zero_add] at h1 h3
  have hj := h3 j o (by simpa using ho)
  unfold bef at h
  rw [h1, hj] at h
  obtain ⟨e, he, hbi, h4⟩ := befOf_bit h
  have he' : e ∈ o.after := by simpa using he
  have hlt := hb j o ho e he' hbi
  refine ⟨e, he', hbi, hlt, h4.imp id fun h5 => ?_⟩
  unfold bef
  rw [h1]
  rw [nthN_eq] at h5 ⊢
  rw [List.getD_eq_getElem?_getD, List.getElem?_take, if_pos hlt] at h5
  rw [List.getD_eq_getElem?_getD]
  exact h5

/-- a set of operations that holds, with each, all that must come ahead of it -/
def Closed (ops : Array Oper) (D : Nat → Prop) : Prop := ∀ k, D k → ∀ o, ops[k]? = some o → ∀ e ∈ o.after, Region.binds .any e = true → D e.on

theorem closed_bef {ops : Array Oper} (hb : EdgesBack ops) {D : Nat → Prop} (hD : Closed ops D) {i : Nat} : ∀ (j : Nat) (o : Oper), ops[j]? = some o → (∀ e ∈ o.after, Region.binds .any e = true → D e.on) → (bef ops j).testBit i = true → D i := by
  intro j
  induction j using Nat.strongRecOn with
  | _ j ih =>
    intro o ho hr h
    obtain ⟨e, he, hbi, hlt, h4⟩ := bef_bit hb ho h
    have hDe := hr e he hbi
    rcases h4 with h4 | h4
    · exact h4 ▸ hDe
    · have hlt' : e.on < ops.size := by
        have := (Array.getElem?_eq_some_iff.1 ho).1
        omega
      have hoe : ops[e.on]? = some ops[e.on] := Array.getElem?_eq_getElem hlt'
      exact ih e.on hlt ops[e.on] hoe (hD e.on hDe ops[e.on] hoe) h4

/-- what must come ahead stands ahead in the text -/
theorem bef_lt {ops : Array Oper} (hb : EdgesBack ops) {i : Nat} : ∀ (j : Nat) (o : Oper), ops[j]? = some o → (bef ops j).testBit i = true → i < j := by
  intro j
  induction j using Nat.strongRecOn with
  | _ j ih =>
    intro o ho h
    obtain ⟨e, he, hbi, hlt, h4⟩ := bef_bit hb ho h
    rcases h4 with h4 | h4
    · omega
    · have hlt' : e.on < ops.size := by
        have := (Array.getElem?_eq_some_iff.1 ho).1
        omega
      have := ih e.on hlt ops[e.on] (Array.getElem?_eq_getElem hlt') h4
      omega

/-! ### the plan -/

theorem edgesOk_spec : ∀ (l : List Oper) (i : Nat), edgesOk l i = true → ∀ (k : Nat) (o : Oper), l[k]? = some o → ∀ e ∈ o.after, Region.binds .any e = true → e.on < i + k
  | [], _, _, k, o, h => by simp at h
  | o :: l, i, hok, k, o', h => by
    simp only [edgesOk, Bool.and_eq_true, List.all_eq_true] at hok
    cases k with
    | zero =>
      simp at h
      subst h
      intro e he hb
      have := hok.1 e (by simpa using he)
      rw [hb] at this
      simp only [Bool.not_true, Bool.false_or] at this
      rw [blt_true] at this
      omega
    | succ k =>
      intro e he hb
      have := edgesOk_spec l (i + 1) hok.2 k o' (by simpa using h) e he hb
      omega

noncomputable def plAt (E : Env) (ops : Array Oper) (i : Nat) (o : Oper) (b : Nat) : Pl := { i := i, bef := b, dst := o.dst, lk := looks ops o, sil := silent o.op, al := allocOk E o }
theorem plOf_get (E : Env) (ops : Array Oper) : ∀ (l : List Oper) (i : Nat) (bl : List Nat) (k : Nat) (o : Oper), l[k]? = some o → (plOf E ops l i bl)[k]? = some (plAt E ops (i + k) o (bl.getD k 0))
  | [], _, _, k, o, h => by simp at h
  | o :: l, i, bl, 0, o', h => by
    simp at h
    subst h
    simp only [plOf, plAt, List.getElem?_cons_zero]
    cases bl <;> simp
  | o :: l, i, bl, k + 1, o', h => by
    simp only [plOf, List.getElem?_cons_succ]
    rw [plOf_get E ops l (i + 1) bl.tail k o' (by simpa using h)]
    rw [show i + 1 + k = i + (k + 1) by omega]
    cases bl <;> simp

theorem tmpsOkWith_spec {p : Pl} : ∀ {l : List Pl}, tmpsOkWith p l = true → ∀ q ∈ l, unord p q = true → apartN p.dst p.lk q.dst q.lk = true
  | [], _, q, h => by cases h
  | x :: l, hok, q, h => by
    simp only [tmpsOkWith, Bool.and_eq_true] at hok
    intro hu
    cases h with
    | head => rw [hu] at hok; exact hok.1
    | tail _ hm => exact tmpsOkWith_spec hok.2 q hm hu
theorem tmpsOk_spec : ∀ {l : List Pl}, tmpsOk l = true → ∀ (i j : Nat) (p q : Pl), i < j → l[i]? = some p → l[j]? = some q → unord p q = true → apartN p.dst p.lk q.dst q.lk = true
  | [], _, i, j, p, q, _, h, _ => by simp at h
  | x :: l, hok, i, j, p, q, hij, hi, hj => by
    simp only [tmpsOk, Bool.and_eq_true] at hok
    intro hu
    cases j with
    | zero => omega
    | succ j =>
      have hj' : l[j]? = some q := by simpa using hj
      cases i with
      | zero =>
        simp at hi
        subst hi
        exact tmpsOkWith_spec hok.1 q (List.mem_of_getElem? hj') hu
      | succ i => exact tmpsOk_spec hok.2 i j p q (by omega) (by simpa using hi) hj' hu

theorem pairsWith_spec {p : Pl} : ∀ {l : List Pl} (q : Pl), q ∈ l → unord p q = true → q.sil = false → q.i ∈ pairsWith p l
  | [], q, h => by cases h
  | x :: l, q, h => by
    intro hu hs
    simp only [pairsWith]
    cases h with
    | head => rw [hu, hs]; exact List.mem_cons_self ..
    | tail _ hm =>
      have := pairsWith_spec q hm hu hs
      cases (unord p x && !x.sil)
      · exact this
      · exact List.mem_cons_of_mem _ this
theorem pairs_spec : ∀ {l : List Pl} (i j : Nat) (p q : Pl), i < j → l[i]? = some p → l[j]? = some q → unord p q = true → p.sil = false → q.sil = false → ∃ js, (p.i, js) ∈ pairs l ∧ q.i ∈ js
  | [], i, j, p, q, _, h, _ => by simp at h
  | x :: l, i, j, p, q, hij, hi, hj => by
    intro hu hp hq
    cases j with
    | zero => omega
    | succ j =>
      have hj' : l[j]? = some q := by simpa using hj
      cases i with
      | zero =>
        simp at hi
        subst hi
        have hm := pairsWith_spec (p := x) q (List.mem_of_getElem? hj') hu hq
        refine ⟨pairsWith x l, ?_, hm⟩
        simp only [pairs, hp, cond_false]
        split
        · rename_i h; rw [h] at hm; cases hm
        · exact List.mem_cons_self ..
      | succ i =>
        obtain ⟨js, h1, h2⟩ := pairs_spec i j p q (by omega) (by simpa using hi) hj' hu hp hq
        refine ⟨js, ?_, h2⟩
        simp only [pairs]
        cases x.sil
        · simp only [cond_false]
          split
          · exact h1
          · exact List.mem_cons_of_mem _ h1
        · exact h1

theorem clash1_spec {e : LE} : ∀ {l : List LE}, clash1 e l = false → ∀ x ∈ l, meet e x = false
  | [], _, x, h => by cases h
  | y :: l, hc, x, h => by
    simp only [clash1] at hc
    cases hm : meet e y with
    | true => rw [hm] at hc; cases hc
    | false =>
      rw [hm] at hc
      cases h with
      | head => exact hm
      | tail _ h => exact clash1_spec hc x h
theorem clash_spec {b : List LE} : ∀ {a : List LE}, clash a b = false → ∀ x ∈ a, ∀ y ∈ b, meet x y = false
  | [], _, x, h => by cases h
  | z :: a, hc, x, h => by
    simp only [clash] at hc
    cases hm : clash1 z b with
    | true => rw [hm] at hc; cases hc
    | false =>
      rw [hm] at hc
      cases h with
      | head => exact clash1_spec hm
      | tail _ h => exact clash_spec hc x h
theorem meet_spec {e f : LE} (h : meet e f = false) (hb : e.b = f.b) : e.w = false ∧ f.w = false := by
  unfold meet at h
  rw [hb, Nat.beq_refl] at h
  simp only [cond_true] at h
  cases he : e.w <;> rw [he] at h
  · exact ⟨rfl, h⟩
  · cases h

theorem clashAny_spec {x : List LE} {logs : List (List LE)} : ∀ {js : List Nat}, clashAny x logs js = false → ∀ j ∈ js, clash x (logOf j logs) = false
  | [], _, j, h => by cases h
  | k :: js, hc, j, h => by
    simp only [clashAny] at hc
    cases hm : clash x (logOf k logs) with
    | true => rw [hm] at hc; cases hc
    | false =>
      rw [hm] at hc
      cases h with
      | head => exact hm
      | tail _ h => exact clashAny_spec hc j h
theorem pairsOk_spec {logs : List (List LE)} : ∀ {prs : List (Nat × List Nat)}, pairsOk logs prs = true → ∀ i js, (i, js) ∈ prs → ∀ j ∈ js, clash (logOf i logs) (logOf j logs) = false
  | [], _, i, js, h => by cases h
  | (k, ks) :: prs, hc, i, js, h => by
    simp only [pairsOk] at hc
    cases hm : clashAny (logOf k logs) logs ks with
    | true => rw [hm] at hc; cases hc
    | false =>
      rw [hm] at hc
      cases h with
      | head => exact clashAny_spec hm
      | tail _ h => exact pairsOk_spec hc i js h
theorem logOf_eq : ∀ (logs : List (List LE)) (i : Nat), logOf i logs = logs.getD i []
  | [], i => by simp [logOf]
  | x :: l, 0 => by simp [logOf]
  | x :: l, i + 1 => by simp only [logOf]; rw [show Nat.beq (i + 1) 0 = false from rfl]; simp [logOf_eq l i]

theorem memN_false {k : Nat} : ∀ {l : List Nat}, memN k l = false → k ∉ l
  | [], _ => by simp
  | x :: l, h => by
    simp only [memN] at h
    cases hb : Nat.beq x k with
    | true => rw [hb] at h; cases h
    | false =>
      rw [hb] at h
      have hne := Nat.ne_of_beq_eq_false hb
      simp only [List.mem_cons, not_or]
      exact ⟨fun e => hne e.symm, memN_false h⟩
theorem apartN_spec {dx dy : Option Tmp} {lx ly : List Tmp} (h : apartN dx lx dy ly = true) : (∀ d, dx = some d → d ∉ ly ∧ dy ≠ some d) ∧ (∀ d, dy = some d → d ∉ lx) := by
  unfold apartN at h
  simp only [Bool.and_eq_true] at h
  refine ⟨fun d hd => ?_, fun d hd => ?_⟩
  · subst hd
    simp only [Bool.and_eq_true, Bool.not_eq_true'] at h
    refine ⟨memN_false h.1.1, fun he => ?_⟩
    subst he
    have : (!Nat.beq d d) = true := h.1.2
    rw [Nat.beq_refl] at this
    cases this
  · subst hd
    simp only [Bool.not_eq_true'] at h
    exact memN_false h.2

/-- what a plan that is well says of two operations that no edge orders -/
structure PlanOk (ops : Array Oper) : Prop where
  back : EdgesBack ops
  tmps : ∀ (i j : Nat) (x y : Oper), i < j → ops[i]? = some x → ops[j]? = some y → (bef ops j).testBit i = false → apartN x.dst (looks ops x) y.dst (looks ops y) = true

theorem plan_get {E : Env} {ops : Array Oper} {k : Nat} {o : Oper} (h : ops[k]? = some o) : (planOf E ops).pls[k]? = some (plAt E ops k o (bef ops k)) := by
  have := plOf_get E ops ops.toList 0 (befs ops.toList []) k o (by simpa using h)
  rw [Nat.zero_add] at this
  unfold bef
  rw [nthN_eq]
  exact this
theorem plan_ok {E : Env} {ops : Array Oper} (h : (planOf E ops).ok = true) : PlanOk ops := by
  have h' : (edgesOk ops.toList 0 && tmpsOk (planOf E ops).pls) = true := h
  simp only [Bool.and_eq_true] at h'
  refine ⟨fun k o ho e he hb => ?_, fun i j x y hij hi hj hbit => ?_⟩
  · have := edgesOk_spec ops.toList 0 h'.1 k o (by simpa using ho) e he hb
    omega
  · exact tmpsOk_spec h'.2 i j _ _ hij (plan_get hi) (plan_get hj) (by show (!Nat.testBit (bef ops j) i) = true; rw [hbit]; rfl)
theorem plan_pairs {E : Env} {ops : Array Oper} {logs : List (List LE)} (h : pairsOk logs (planOf E ops).prs = true) {i j : Nat} {x y : Oper} (hij : i < j) (hi : ops[i]? = some x) (hj : ops[j]? = some y)
    (hbit : (bef ops j).testBit i = false) (hx : silent x.op = false) (hy : silent y.op = false) : ∀ e ∈ logs.getD i [], ∀ f ∈ logs.getD j [], e.b = f.b → e.w = false ∧ f.w = false := by
  obtain ⟨js, h1, h2⟩ := pairs_spec (l := (planOf E ops).pls) i j _ _ hij (plan_get hi) (plan_get hj) (by show (!Nat.testBit (bef ops j) i) = true; rw [hbit]; rfl) hx hy
  have hc := pairsOk_spec (prs := (planOf E ops).prs) h _ _ h1 _ h2
  have hc' : clash (logOf i logs) (logOf j logs) = false := hc
  rw [logOf_eq, logOf_eq] at hc'
  intro e he f hf hb
  exact meet_spec (clash_spec hc' e he f hf) hb

theorem noW_spec : ∀ {l : List LE}, noW l = true → ∀ e ∈ l, e.w = false
  | [], _, e, h => by cases h
  | x :: l, hok, e, h => by
    unfold noW at hok
    cases hw : x.w with
    | true => rw [hw] at hok; cases hok
    | false =>
      rw [hw] at hok
      cases h with
      | head => exact hw
      | tail _ h => exact noW_spec hok e h
theorem pinnedAt_spec {i b : Nat} {logs : List (List LE)} : ∀ {l : List Pl}, pinnedAt i b logs l = true → ∀ q ∈ l, q.i = i ∨ b.testBit q.i = true ∨ q.bef.testBit i = true ∨ (q.i < i ∧ noW (logOf q.i logs) = true) ∨ (¬ q.i < i ∧ q.al = true)
  | [], _, q, h => by cases h
  | x :: l, hok, q, h => by
    simp only [pinnedAt, Bool.and_eq_true, Bool.or_eq_true] at hok
    cases h with
    | head =>
      rcases hok.1 with ((h1 | h1) | h1) | h1
      · exact .inl (Nat.eq_of_beq_eq_true h1)
      · exact .inr (.inl h1)
      · exact .inr (.inr (.inl h1))
      · cases hb : Nat.blt x.i i with
        | true => rw [hb] at h1; exact .inr (.inr (.inr (.inl ⟨blt_true.1 hb, h1⟩)))
        | false => rw [hb] at h1; exact .inr (.inr (.inr (.inr ⟨fun h => (by rw [blt_true.2 h] at hb; cases hb), h1⟩)))
    | tail _ h => exact pinnedAt_spec hok.2 q h
theorem dropT_spec {i b : Nat} {t : Nat} {v : V} : ∀ {l : List Pl} {m : Tr V}, (dropT i b l m).get t = some v → m.get t = some v ∧ ∀ q ∈ l, q.i ≠ i → b.testBit q.i = false → q.bef.testBit i = false → q.dst ≠ some t
  | [], m, h => ⟨h, fun q hq => by cases hq⟩
  | x :: l, m, h => by
    obtain ⟨h1, h2⟩ := dropT_spec (l := l) h
    cases hc : (Nat.beq x.i i || Nat.testBit b x.i || Nat.testBit x.bef i) with
    | true =>
      rw [hc] at h1
      simp only [Bool.or_eq_true] at hc
      refine ⟨h1, fun q hq hne hb hbi => ?_⟩
      cases hq with
      | head =>
        exfalso
        rcases hc with (hc | hc) | hc
        · exact hne (Nat.eq_of_beq_eq_true hc)
        · rw [hb] at hc; cases hc
        · rw [hbi] at hc; cases hc
      | tail _ hq => exact h2 q hq hne hb hbi
    | false =>
      rw [hc] at h1
      simp only [cond_false] at h1
      cases hd : x.dst with
      | none =>
        rw [hd] at h1
        refine ⟨h1, fun q hq hne hb hbi => ?_⟩
        cases hq with
        | head => rw [hd]; exact fun h => by cases h
        | tail _ hq => exact h2 q hq hne hb hbi
      | some d =>
        rw [hd] at h1
        obtain ⟨h3, h4⟩ := Tr.get_del _ _ _ h1
        refine ⟨h4, fun q hq hne hb hbi => ?_⟩
        cases hq with
        | head => rw [hd]; exact fun h => h3 (by simpa using h.symm)
        | tail _ hq => exact h2 q hq hne hb hbi

theorem pinned_round {i : Nat} {logs : List (List LE)} {pls : List Pl} {a a' : Ac} (h : pinned i logs pls a = some a') : a'.round = a.round := by
  unfold pinned at h
  split at h
  · rename_i p _
    cases hat : pinnedAt i p.bef logs pls with
    | false => rw [hat] at h; cases h
    | true =>
      rw [hat] at h
      simp only [cond_true, Option.some.injEq] at h
      subst h; rfl
  · cases h
/-- what is known where an operation ends in a panic -/
theorem plan_pinned {E : Env} {ops : Array Oper} {i : Nat} {o : Oper} {logs : List (List LE)} {a a' : Ac} (ho : ops[i]? = some o) (h : pinned i logs (planOf E ops).pls a = some a') :
    (∀ j x, ops[j]? = some x → j ≠ i → (bef ops i).testBit j = true ∨ (bef ops j).testBit i = true ∨ (j < i ∧ noW (logs.getD j []) = true) ∨ (i < j ∧ allocOk E x = true)) ∧
    a'.n = a.n ∧ a'.defers = a.defers ∧ a'.round = a.round ∧
    ∀ t v, a'.tmps.get t = some v → a.tmps.get t = some v ∧ ∀ j x, ops[j]? = some x → j ≠ i → (bef ops i).testBit j = false → (bef ops j).testBit i = false → x.dst ≠ some t := by
  unfold pinned at h
  cases hf : (planOf E ops).pls.find? fun p => Nat.beq p.i i with
  | none => rw [hf] at h; cases h
  | some p =>
    rw [hf] at h
    have hp := List.find?_some hf
    have hpi : p.i = i := Nat.eq_of_beq_eq_true hp
    obtain ⟨k, hk⟩ := List.mem_iff_getElem?.1 (List.mem_of_find?_eq_some hf)
    -- the one of that place is the one
    have hkk : p = plAt E ops i o (bef ops i) := by
      have hlt : k < ops.size := by
        rcases Nat.lt_or_ge k ops.size with h1 | h1
        · exact h1
        · have hlen : (planOf E ops).pls.length = ops.size := by
            have : ∀ (l : List Oper) (i : Nat) (bl : List Nat), (plOf E ops l i bl).length = l.length := by
              intro l
              induction l with
              | nil => intro i bl; rfl
              | cons o l ih => intro i bl; simp [plOf, ih]
            have := this ops.toList 0 (befs ops.toList [])
            rw [Array.length_toList] at this
            exact this
          rw [List.getElem?_eq_none (by omega)] at hk
          cases hk
      have hg := plan_get (E := E) (ops := ops) (k := k) (o := ops[k]) (Array.getElem?_eq_getElem hlt)
      rw [hk] at hg
      simp only [Option.some.injEq] at hg
      have hki : k = i := by rw [hg] at hpi; exact hpi
      subst hki
      have : ops[k] = o := by rw [Array.getElem?_eq_getElem hlt] at ho; simpa using ho
      rw [hg, this]
    cases hat : pinnedAt i p.bef logs (planOf E ops).pls with
    | false => simp only [hat, cond_false, reduceCtorEq] at h
    | true =>
    simp only [hat, cond_true, Option.some.injEq] at h
    subst h
    refine ⟨fun j x hj hne => ?_, rfl, rfl, rfl, fun t v ht => ?_⟩
    · have hs := pinnedAt_spec hat (plAt E ops j x (bef ops j)) (List.mem_of_getElem? (plan_get hj))
      rcases hs with h1 | h1 | h1 | ⟨h1, h2⟩ | ⟨h1, h2⟩
      · exact absurd h1 hne
      · rw [hkk] at h1; exact .inl h1
      · exact .inr (.inl h1)
      · refine .inr (.inr (.inl ⟨h1, ?_⟩))
        rw [← logOf_eq]; exact h2
      · refine .inr (.inr (.inr ⟨?_, h2⟩))
        have h1' : ¬ j < i := h1
        omega
    · obtain ⟨h1, h2⟩ := dropT_spec ht
      refine ⟨h1, fun j x hj hne hb hbi => ?_⟩
      exact h2 (plAt E ops j x (bef ops j)) (List.mem_of_getElem? (plan_get hj)) hne (by rw [hkk]; exact hb) hbi
end Go.Proofs.YtjaibhpfhdmikacGreatDoor.Ev

/-
  REGIONS THAT DRAW THEIR ORDER: an operation hangs on the temporaries that it looks at alone; silent operations touch no memory; parts of tries; what is made, made elsewhere.
-/
namespace Go.Proofs.YtjaibhpfhdmikacGreatDoor.Ev

/-! ### what an operation looks at -/

section
variable {E : Env} {a a2 : Ac} {s : St}

theorem evO_congr {x : Operand} (h : ∀ t, x = .tmp t → a2.tmps.get t = a.tmps.get t) : evO E a2 x = evO E a x := by
  cases x with
  | tmp t => show (getP (bits t t)).run a2.tmps = (getP (bits t t)).run a.tmps; rw [getP_eq, getP_eq]; exact h t rfl
  | const c => rfl
  | global g => rfl
  | func f => rfl
theorem evArgs_congr : ∀ {l : List Operand}, (∀ x ∈ l, evO E a2 x = evO E a x) → evArgs E a2 l = evArgs E a l
  | [], _ => rfl
  | x :: l, h => by simp only [evArgs, h x (List.mem_cons_self ..), evArgs_congr (l := l) fun y hy => h y (List.mem_cons_of_mem _ hy)]
theorem partsV_congr : ∀ {l : List (Nat × Operand)}, (∀ x ∈ l.map (·.2), evO E a2 x = evO E a x) → partsV E a2 l = partsV E a l
  | [], _ => rfl
  | (i, x) :: l, h => by simp only [partsV, h x (List.mem_cons_self ..), partsV_congr (l := l) fun y hy => h y (List.mem_cons_of_mem _ hy)]
theorem evOpt_congr : ∀ {o : Option Operand}, (∀ x ∈ o.toArray, evO E a2 x = evO E a x) → evOpt E a2 o = evOpt E a o
  | none, _ => rfl
  | some x, h => by simp only [evOpt, h x (by simp)]

theorem builtinF_congr {b : Builtin} {ts : List TypeId} {args : List Operand} (h : ∀ x ∈ args, evO E a2 x = evO E a x) : (builtinF E b ts args).run a2 s = (builtinF E b ts args).run a s := by
  cases b <;> try rfl
  case append =>
    simp only [builtinF]
    split
    · show bAppend E _ _ _ _ a2 s = bAppend E _ _ _ _ a s
      unfold bAppend
      simp only [h _ (List.mem_cons_self ..), h _ (List.mem_cons_of_mem _ (List.mem_cons_self ..))]
    · rfl
  case cap =>
    simp only [builtinF]
    split
    · show bCap E _ _ a2 s = bCap E _ _ a s
      unfold bCap
      simp only [h _ (List.mem_cons_self ..)]
    · rfl
  case copy =>
    simp only [builtinF]
    split
    · show bCopy E _ _ _ a2 s = bCopy E _ _ _ a s
      unfold bCopy
      simp only [h _ (List.mem_cons_self ..), h _ (List.mem_cons_of_mem _ (List.mem_cons_self ..))]
    · rfl
  case delete =>
    simp only [builtinF]
    split
    · show bDelete E _ _ _ a2 s = bDelete E _ _ _ a s
      unfold bDelete
      simp only [h _ (List.mem_cons_self ..), h _ (List.mem_cons_of_mem _ (List.mem_cons_self ..))]
    · rfl
  case len =>
    simp only [builtinF]
    split
    · show bLen E _ _ a2 s = bLen E _ _ a s
      unfold bLen
      simp only [h _ (List.mem_cons_self ..)]
    · rfl
  case max =>
    simp only [builtinF]
    split
    · show bFold E _ _ _ a2 s = bFold E _ _ _ a s
      unfold bFold
      simp only [h _ (List.mem_cons_self ..), evArgs_congr fun x hx => h x (List.mem_cons_of_mem _ hx)]
    · rfl
  case min =>
    simp only [builtinF]
    split
    · show bFold E _ _ _ a2 s = bFold E _ _ _ a s
      unfold bFold
      simp only [h _ (List.mem_cons_self ..), evArgs_congr fun x hx => h x (List.mem_cons_of_mem _ hx)]
    · rfl
  case unsafeSliceData =>
    simp only [builtinF]
    split
    · show bSliceData E _ a2 s = bSliceData E _ a s
      unfold bSliceData
      simp only [h _ (List.mem_cons_self ..)]
    · rfl
  case unsafeString =>
    simp only [builtinF]
    split
    · show bUnsafeString E _ _ _ a2 s = bUnsafeString E _ _ _ a s
      unfold bUnsafeString
      simp only [h _ (List.mem_cons_self ..), h _ (List.mem_cons_of_mem _ (List.mem_cons_self ..))]
    · rfl
  case panic =>
    simp only [builtinF]
    split
    · show oPanic E _ a2 s = oPanic E _ a s
      unfold oPanic
      simp only [h _ (List.mem_cons_self ..)]
    · rfl

theorem opF_congr {op : Op} (h : ∀ x ∈ op.operands, evO E a2 x = evO E a x) : (opF E op).run a2 s = (opF E op).run a s := by
  cases op <;> simp only [Op.operands] at h <;> try rfl
  case move x => show oMove E x a2 s = oMove E x a s; unfold oMove; rw [h x (by simp)]
  case assign x => show oMove E x a2 s = oMove E x a s; unfold oMove; rw [h x (by simp)]
  case pick c x y => show oPick E c x y a2 s = oPick E c x y a s; unfold oPick; rw [h c (by simp), h x (by simp), h y (by simp)]
  case box t x => show oBox E t x a2 s = oBox E t x a s; unfold oBox; rw [h x (by simp)]
  case build t ps => show oBuild E t ps.toList a2 s = oBuild E t ps.toList a s; unfold oBuild; rw [partsV_congr fun x hx => h x (by simpa using hx)]
  case buildSlice t n ps => show oBuildSlice E t n ps.toList a2 s = oBuildSlice E t n ps.toList a s; unfold oBuildSlice; rw [partsV_congr fun x hx => h x (by simpa using hx)]
  case load t x => show oLoad E t x a2 s = oLoad E t x a s; unfold oLoad; rw [h x (by simp)]
  case store t x y => show oStore E t x y a2 s = oStore E t x y a s; unfold oStore; rw [h x (by simp), h y (by simp)]
  case nilCheck x => show oNilCheck E x a2 s = oNilCheck E x a s; unfold oNilCheck; rw [h x (by simp)]
  case binOp op t x y t2 => show oBin E op t x y a2 s = oBin E op t x y a s; unfold oBin; rw [h x (by simp), h y (by simp)]
  case unOp op t x => show oUn E op x a2 s = oUn E op x a s; unfold oUn; rw [h x (by simp)]
  case convert t u x => show oConvert E t u x a2 s = oConvert E t u x a s; unfold oConvert; rw [h x (by simp)]
  case makeInterface t x => show oMakeIface E t x a2 s = oMakeIface E t x a s; unfold oMakeIface; rw [h x (by simp)]
  case makeFunc fn x y =>
    show oMakeFunc E fn x.toList y.toList a2 s = oMakeFunc E fn x.toList y.toList a s
    unfold oMakeFunc
    rw [evArgs_congr (l := x.toList) fun z hz => h z (by simp at hz; simp [hz]), evArgs_congr (l := y.toList) fun z hz => h z (by simp at hz; simp [hz])]
  case makeMap t r =>
    cases r with
    | none => rfl
    | some x => show oMakeMap E t (some x) a2 s = oMakeMap E t (some x) a s; unfold oMakeMap; simp only; rw [h x (by simp)]
  case makeSlice t x y => show oMakeSlice E t x y a2 s = oMakeSlice E t x y a s; unfold oMakeSlice; rw [h x (by simp), h y (by simp)]
  case slice t x lo hi mx =>
    show oSlice E t x lo hi mx a2 s = oSlice E t x lo hi mx a s
    unfold oSlice
    rw [h x (by simp), evOpt_congr (o := lo) fun z hz => h z (by simp at hz; simp [hz]), evOpt_congr (o := hi) fun z hz => h z (by simp at hz; simp [hz]), evOpt_congr (o := mx) fun z hz => h z (by simp at hz; simp [hz])]
  case fieldAddr t x f => show oFieldAddr E t x f a2 s = oFieldAddr E t x f a s; unfold oFieldAddr; rw [h x (by simp)]
  case field t x f => show oField E t x f a2 s = oField E t x f a s; unfold oField; rw [h x (by simp)]
  case indexAddr t x y => show oIndexAddr E t x y a2 s = oIndexAddr E t x y a s; unfold oIndexAddr; rw [h x (by simp), h y (by simp)]
  case index t x y => show oIndex E t x y a2 s = oIndex E t x y a s; unfold oIndex; rw [h x (by simp), h y (by simp)]
  case lookup t x y ok => show oLookup E t x y ok a2 s = oLookup E t x y ok a s; unfold oLookup; rw [h x (by simp), h y (by simp)]
  case mapUpdate t x y z => show oUpdate E t x y z a2 s = oUpdate E t x y z a s; unfold oUpdate; rw [h x (by simp), h y (by simp), h z (by simp)]
  case insert t x y z => show oUpdate E t x y z a2 s = oUpdate E t x y z a s; unfold oUpdate; rw [h x (by simp), h y (by simp), h z (by simp)]
  case mapEntry t x y => show oEntry E t x y a2 s = oEntry E t x y a s; unfold oEntry; rw [h x (by simp), h y (by simp)]
  case entryStore t x y z => show oEntryStore E x y z a2 s = oEntryStore E x y z a s; unfold oEntryStore; rw [h x (by simp), h y (by simp), h z (by simp)]
  case typeAssert x xt t ok => show oAssert E x t ok a2 s = oAssert E x t ok a s; unfold oAssert; rw [h x (by simp)]
  case range t x => show oRange E t x a2 s = oRange E t x a s; unfold oRange; rw [h x (by simp)]
  case next x b => show oNext E x b a2 s = oNext E x b a s; unfold oNext; rw [h x (by simp)]
  case extract x i => show oExtract E x i a2 s = oExtract E x i a s; unfold oExtract; rw [h x (by simp)]
  case panic x => show oPanic E x a2 s = oPanic E x a s; unfold oPanic; rw [h x (by simp)]
  case call c =>
    simp only [opF]
    cases hc : c.callee with
    | builtin b => exact builtinF_congr fun x hx => h x (by simp at hx; simp [Call.operands, hx])
    | value f =>
      show oCall E f c.args.toList a2 s = oCall E f c.args.toList a s
      unfold oCall
      rw [h f (by simp [Call.operands, hc]), evArgs_congr fun x hx => h x (by simp at hx; simp [Call.operands, hx])]
    | invoke x n => rfl
  case defer c =>
    simp only [opF]
    cases hc : c.callee with
    | builtin b => rfl
    | value f =>
      show oDefer E f c.args.toList a2 s = oDefer E f c.args.toList a s
      unfold oDefer
      rw [h f (by simp [Call.operands, hc]), evArgs_congr fun x hx => h x (by simp at hx; simp [Call.operands, hx])]
    | invoke x n => rfl

theorem wantF_congr {ops : Array Oper} {o : Oper} (hn : a2.n = a.n) (h : ∀ t ∈ looks ops o, a2.tmps.get t = a.tmps.get t) : (wantF ops o).run a2 = (wantF ops o).run a := by
  unfold wantF
  cases hg : o.guard with
  | none => rfl
  | some gw =>
    obtain ⟨j, want⟩ := gw
    simp only
    cases hd : (ops[j]?).bind (·.dst) with
    | none => rfl
    | some t =>
      show wantAt t (getP (bits t t)) want a2 = wantAt t (getP (bits t t)) want a
      unfold wantAt
      rw [getP_eq, getP_eq, hn, h t (by unfold looks; simp [hg, hd])]

theorem looks_op {ops : Array Oper} {o : Oper} {t : Nat} (h : Operand.tmp t ∈ o.op.operands) : t ∈ looks ops o := by
  unfold looks
  exact List.mem_append_left _ (List.mem_filterMap.2 ⟨.tmp t, by simpa using h, rfl⟩)

theorem made_congr {ops : Array Oper} {o : Oper} {self : EV} {v : V} {s' : St} (hn : a2.n = a.n) (h : ∀ t ∈ looks ops o, a2.tmps.get t = a.tmps.get t) (hm : Made E ops o self a s v s') : Made E ops o self a2 s v s' := by
  have hw := wantF_congr (ops := ops) (o := o) hn h
  have ho : (opF E o.op).run a2 s = (opF E o.op).run a s := opF_congr fun x hx => evO_congr fun t ht => h t (looks_op (ht ▸ hx))
  cases hm with
  | no h1 => exact .no (hw.trans h1)
  | val h1 h2 => exact .val (hw.trans h1) (ho.trans h2)
  | call h1 h2 h3 => exact .call (hw.trans h1) (ho.trans h2) h3
  | round h1 h2 h3 => exact .round (hw.trans h1) (ho.trans h2) h3

/-! ### silent operations -/

theorem silent_same {op : Op} (h : silent op = true) {nx : Nx} (hr : (opF E op).run a s = some nx) : ∃ v, nx = .val v s := by
  have hp : ∀ {o : Option V}, pS o s = some nx → ∃ v, nx = .val v s := fun hh => by
    unfold pS at hh; simp only [Option.bind_eq_some_iff, Option.some.injEq] at hh; obtain ⟨v, _, rfl⟩ := hh; exact ⟨v, rfl⟩
  cases op <;> simp only [silent, Bool.false_eq_true] at h
  case move x => exact hp hr
  case assign x => exact hp hr
  case pick c x y =>
    have hr' : oPick E c x y a s = some nx := hr
    unfold oPick at hr'
    simp only [Option.bind_eq_some_iff] at hr'
    obtain ⟨v, hv, hr'⟩ := hr'
    cases v <;> simp only [reduceCtorEq] at hr'
    rename_i b
    cases b <;> exact hp hr'
  case build t ps =>
    have hr' : oBuild E t ps.toList a s = some nx := hr
    unfold oBuild at hr'
    simp only [Option.bind_eq_some_iff] at hr'
    obtain ⟨v, hv, hr'⟩ := hr'
    exact hp hr'
  case nilCheck x =>
    have hr' : oNilCheck E x a s = some nx := hr
    unfold oNilCheck at hr'
    simp only [Option.bind_eq_some_iff] at hr'
    obtain ⟨v, hv, hr'⟩ := hr'
    cases hn : notNil v <;> rw [hn] at hr'
    · cases hr'
    · simp only [cond_true, Option.some.injEq] at hr'; exact ⟨v, hr'.symm⟩
  case binOp op t x y t2 =>
    have hr' : oBin E op t x y a s = some nx := hr
    unfold oBin at hr'
    simp only [Option.bind_eq_some_iff] at hr'
    obtain ⟨v, hv, u, hu, hr'⟩ := hr'
    exact hp hr'
  case unOp op t x =>
    have hr' : oUn E op x a s = some nx := hr
    unfold oUn at hr'
    simp only [Option.bind_eq_some_iff] at hr'
    obtain ⟨v, hv, hr'⟩ := hr'
    exact hp hr'
  case makeInterface t x =>
    have hr' : oMakeIface E t x a s = some nx := hr
    unfold oMakeIface at hr'
    simp only [Option.bind_eq_some_iff] at hr'
    obtain ⟨d, hd, hr'⟩ := hr'
    cases hn : notIface d <;> rw [hn] at hr'
    · cases hr'
    · simp only [cond_true, Option.bind_eq_some_iff, Option.some.injEq] at hr'
      obtain ⟨v, _, rfl⟩ := hr'
      exact ⟨_, rfl⟩
  case makeFunc fn x y =>
    have hr' : oMakeFunc E fn x.toList y.toList a s = some nx := hr
    unfold oMakeFunc at hr'
    simp only [Option.bind_eq_some_iff, Option.some.injEq] at hr'
    obtain ⟨v, hv, u, hu, rfl⟩ := hr'
    exact ⟨_, rfl⟩
  case fieldAddr t x f =>
    have hr' : oFieldAddr E t x f a s = some nx := hr
    unfold oFieldAddr at hr'
    simp only [Option.bind_eq_some_iff] at hr'
    obtain ⟨p, hp', hr'⟩ := hr'
    cases hb : Nat.beq p.2.2 0 <;> rw [hb] at hr'
    · simp only [cond_false, Option.bind_eq_some_iff] at hr'
      obtain ⟨v, hv, hr'⟩ := hr'
      cases v <;> simp only [reduceCtorEq, Option.some.injEq] at hr'
      exact ⟨_, hr'.symm⟩
    · cases hr'
  case field t x f =>
    have hr' : oField E t x f a s = some nx := hr
    unfold oField at hr'
    simp only [Option.bind_eq_some_iff] at hr'
    obtain ⟨p, hp', v, hv, hr'⟩ := hr'
    cases v <;> simp only [reduceCtorEq] at hr'
    exact hp hr'
  case indexAddr t x y =>
    have hr' : oIndexAddr E t x y a s = some nx := hr
    unfold oIndexAddr at hr'
    simp only [Option.bind_eq_some_iff] at hr'
    obtain ⟨d, hd, vi, hvi, n, hn, v, hv, hr'⟩ := hr'
    have hat : ∀ {n z len b off : Nat}, atElem n z len b off s = some nx → ∃ v, nx = .val v s := fun {n z len b off} hh => by
      unfold atElem at hh
      cases hb : Nat.blt n len <;> rw [hb] at hh
      · cases hh
      · simp only [cond_true, Option.some.injEq] at hh; exact ⟨_, hh.symm⟩
    unfold indexAddrV at hr'
    cases d <;> simp only [reduceCtorEq] at hr'
    all_goals
      simp only [Option.bind_eq_some_iff] at hr'
      obtain ⟨z, hz, hr'⟩ := hr'
      cases v <;> simp only [reduceCtorEq] at hr'
      all_goals exact hat hr'
  case index t x y =>
    have hr' : oIndex E t x y a s = some nx := hr
    unfold oIndex at hr'
    simp only [Option.bind_eq_some_iff] at hr'
    obtain ⟨d, hd, vi, hvi, n, hn, v, hv, hr'⟩ := hr'
    unfold indexV at hr'
    cases d <;> simp only [reduceCtorEq] at hr'
    · cases v <;> simp only [reduceCtorEq] at hr'
      rename_i len k
      cases hb : Nat.blt n len <;> rw [hb] at hr'
      · cases hr'
      · simp only [cond_true, Option.some.injEq] at hr'; exact ⟨_, hr'.symm⟩
    · cases v <;> simp only [reduceCtorEq] at hr'
      rename_i len e m cs
      simp only [Option.bind_eq_some_iff] at hr'
      obtain ⟨z, hz, hr'⟩ := hr'
      cases hb : Nat.blt n len <;> rw [hb] at hr'
      · cases hr'
      · exact hp hr'
  case typeAssert x xt t ok =>
    have hr' : oAssert E x t ok a s = some nx := hr
    unfold oAssert at hr'
    simp only [Option.bind_eq_some_iff] at hr'
    obtain ⟨d, hd, hr'⟩ := hr'
    have hno : assertNo E t ok s = some nx → ∃ v, nx = .val v s := fun hh => by
      unfold assertNo at hh
      cases ok
      · cases hh
      · simp only [cond_true, Option.bind_eq_some_iff, Option.some.injEq] at hh
        obtain ⟨z, _, rfl⟩ := hh
        exact ⟨_, rfl⟩
    cases hn : notIface d <;> rw [hn] at hr'
    · cases hr'
    · simp only [cond_true, Option.bind_eq_some_iff] at hr'
      obtain ⟨v, hv, hr'⟩ := hr'
      unfold assertV at hr'
      cases v <;> simp only [reduceCtorEq] at hr'
      · rename_i t' v
        cases hb : Nat.beq t' t <;> rw [hb] at hr'
        · exact hno hr'
        · simp only [cond_true, Option.some.injEq] at hr'; exact ⟨_, hr'.symm⟩
      · exact hno hr'
  case extract x i =>
    have hr' : oExtract E x i a s = some nx := hr
    unfold oExtract at hr'
    simp only [Option.bind_eq_some_iff] at hr'
    obtain ⟨v, hv, hr'⟩ := hr'
    cases v <;> simp only [reduceCtorEq] at hr'
    exact hp hr'

theorem made_silent {ops : Array Oper} {o : Oper} {self : EV} {v : V} {s' : St} (h : silent o.op = true) (hm : Made E ops o self a s v s') : s' = s := by
  cases hm with
  | no h1 => rfl
  | val h1 h2 => obtain ⟨u, hu⟩ := silent_same h h2; simp only [Nx.val.injEq] at hu; exact hu.2
  | call h1 h2 h3 => obtain ⟨u, hu⟩ := silent_same h h2; cases hu
  | round h1 h2 h3 => obtain ⟨u, hu⟩ := silent_same h h2; cases hu

/-! ### what is made, made elsewhere -/

theorem made_loc {ops : Array Oper} {o : Oper} {self : EV} (hs : EVLoc self) {v : V} {s' : St} (hon : s.on = true) (hm : Made E ops o self a s v s') :
    Grows s s' ∧ ∀ F t, Agree F s t → Within F s' → ∃ t', Made E ops o self a t v t' ∧ Agree F s' t' ∧ Grows t t' := by
  cases hm with
  | no h1 => exact ⟨Grows.refl hon, fun F t hA _ => ⟨t, .no h1, hA, Grows.refl (hA.on.trans hon)⟩⟩
  | val h1 h2 =>
    obtain ⟨g1, l1⟩ := loc_opF E o.op a s _ hon h2
    refine ⟨g1, fun F t hA hW => ?_⟩
    obtain ⟨t', e1, A1⟩ := l1 F t hA hW
    exact ⟨t', .val h1 e1, A1, (loc_opF E o.op a t _ (hA.on.trans hon) e1).1⟩
  | @call f args s1 _ _ h1 h2 h3 =>
    obtain ⟨g1, l1⟩ := loc_opF E o.op a s _ hon h2
    obtain ⟨g2, l2⟩ := hs.1 f args s1 _ g1.on h3
    refine ⟨g1.trans g2, fun F t hA hW => ?_⟩
    obtain ⟨t1, e1, A1⟩ := l1 F t hA fun e he => hW e (g2.sub he)
    obtain ⟨t2, e2, A2⟩ := l2 F t1 A1 hW
    have gt1 := (loc_opF E o.op a t _ (hA.on.trans hon) e1).1
    exact ⟨t2, .call h1 e1 e2, A2, gt1.trans (hs.1 f args t1 _ (A1.on.trans g1.on) e2).1⟩
  | @round f args s1 _ _ h1 h2 h3 =>
    obtain ⟨g1, l1⟩ := loc_opF E o.op a s _ hon h2
    obtain ⟨g2, l2⟩ := hs.2 f args s1 _ g1.on h3
    refine ⟨g1.trans g2, fun F t hA hW => ?_⟩
    obtain ⟨t1, e1, A1⟩ := l1 F t hA fun e he => hW e (g2.sub he)
    obtain ⟨t2, e2, A2⟩ := l2 F t1 A1 hW
    have gt1 := (loc_opF E o.op a t _ (hA.on.trans hon) e1).1
    exact ⟨t2, .round h1 e1 e2, A2, gt1.trans (hs.2 f args t1 _ (A1.on.trans g1.on) e2).1⟩
end

/-! ### parts of tries -/

theorem Tr.part {α : Type} (t : Tr α) : ∀ (l : List Nat), ∃ u : Tr α, ∀ k, u.get k = if k ∈ l then t.get k else none
  | [] => ⟨.nil, fun k => by simp [Tr.get_nil]⟩
  | x :: l => by
    obtain ⟨u, hu⟩ := Tr.part t l
    cases hx : t.get x with
    | none =>
      refine ⟨u, fun k => ?_⟩
      rw [hu]
      by_cases hk : k = x
      · subst hk; simp [hx]
      · simp [hk]
    | some v =>
      refine ⟨u.set v x, fun k => ?_⟩
      rw [Tr.get_set, hu]
      by_cases hk : k = x
      · subst hk; simp [hx]
      · simp [hk]

/-! ### a relation of fewer blocks -/

def Rho.upto (ρ : Rho) (N : Nat) : Rho := fun b => if b < N then ρ b else none
theorem Rho.upto_some {ρ : Rho} {N b : Nat} {x : Nat × Nat × Nat} (h : ρ b = some x) (hb : b < N) : ρ.upto N b = some x := by unfold Rho.upto; rw [if_pos hb]; exact h
theorem Rho.upto_le (ρ : Rho) (N : Nat) : (ρ.upto N).le ρ := fun b x h => by
  unfold Rho.upto at h
  by_cases hb : b < N
  · rw [if_pos hb] at h; exact h
  · rw [if_neg hb] at h; cases h

section
variable {ρ ρ2 : Rho} {N : Nat}
mutual
theorem VRel.upto (hN : ∀ b x, ρ2 b = some x → b < N) : ∀ {v : V} {cv cv2 : Value}, VRel ρ v cv → VRel ρ2 v cv2 → VRel (ρ.upto N) v cv
  | _, _, _, .bool b, _ => .bool b
  | _, _, _, .int k n, _ => .int k n
  | _, _, _, .str s, _ => .str s
  | _, _, _, .ptr h, .ptr h2 => .ptr (Rho.upto_some h (hN _ _ h2))
  | _, _, _, .nilptr, _ => .nilptr
  | _, _, _, .slice h hl ha, .slice h2 _ _ => .slice (Rho.upto_some h (hN _ _ h2)) hl ha
  | _, _, _, .oslice h hl hz hc ha, .oslice h2 _ _ _ _ => .oslice (Rho.upto_some h (hN _ _ h2)) hl hz hc ha
  | _, _, _, .eslice a c, _ => .eslice a c
  | _, _, _, .nilslice, _ => .nilslice
  | _, _, _, .map h, .map h2 => .map (Rho.upto_some h (hN _ _ h2))
  | _, _, _, .nilmap, _ => .nilmap
  | _, _, _, .fn hx hy, .fn hx2 hy2 => .fn (VRels.upto hN hx hx2) (VRels.upto hN hy hy2)
  | _, _, _, .yield h, .yield h2 => .yield (Rho.upto_some h (hN _ _ h2))
  | _, _, _, .nilfn, _ => .nilfn
  | _, _, _, .iface h, .iface h2 => .iface (VRel.upto hN h h2)
  | _, _, _, .niliface, _ => .niliface
  | _, _, _, .agg hn h1 h, .agg (cs := cs2) hn2 h12 h2 => .agg hn h1 fun i v hi cv hc =>
      VRel.upto hN (h i v hi cv hc) (h2 i v hi (cs2[i]'(by
        have := (Array.getElem?_eq_some_iff.1 hc).1
        omega)) (Array.getElem?_eq_getElem _))
  | _, _, _, .tuple h, .tuple h2 => .tuple (VRels.upto hN h h2)
theorem VRels.upto (hN : ∀ b x, ρ2 b = some x → b < N) : ∀ {l : List V} {cl cl2 : List Value}, VRels ρ l cl → VRels ρ2 l cl2 → VRels (ρ.upto N) l cl
  | _, _, _, .nil, _ => .nil
  | _, _, _, .cons h t, .cons h2 t2 => .cons (VRel.upto hN h h2) (VRels.upto hN t t2)
end
theorem MERels.upto (hN : ∀ b x, ρ2 b = some x → b < N) : ∀ {l : List ME} {cl cl2 : List MapEntry}, MERels ρ l cl → MERels ρ2 l cl2 → MERels (ρ.upto N) l cl
  | _, _, _, .nil, _ => .nil
  | _, _, _, .cons h t, .cons h2 t2 => .cons ⟨VRel.upto hN h.k h2.k, VRel.upto hN h.v h2.v, h.born⟩ (MERels.upto hN t t2)
end
end Go.Proofs.YtjaibhpfhdmikacGreatDoor.Ev

/-
  REGIONS THAT DRAW THEIR ORDER: whatever order they are run in, they come to what the text's order comes to.
-/
namespace Go.Proofs.YtjaibhpfhdmikacGreatDoor.Ev
open Go.RowKit
open Classical

/-! ### the last one that wrote -/

noncomputable def Lw {β : Type} (f : Nat → β) (wrt : Nat → Prop) (D : Nat → Prop) : Nat → β
  | 0 => f 0
  | k + 1 => if D k ∧ wrt k then f (k + 1) else Lw f wrt D k

section
variable {β : Type} {f : Nat → β} {wrt D : Nat → Prop} {m : Nat}
theorem Lw_eq (hf : ∀ k, k < m → ¬ wrt k → f (k + 1) = f k) : ∀ j, j ≤ m → (∀ k, k < j → wrt k → D k) → Lw f wrt D j = f j
  | 0, _, _ => rfl
  | j + 1, hj, h => by
    simp only [Lw]
    by_cases hw : wrt j
    · rw [if_pos ⟨h j (by omega) hw, hw⟩]
    · rw [if_neg (fun hh => hw hh.2), Lw_eq hf j (by omega) fun k hk => h k (by omega), hf j (by omega) hw]
theorem Lw_later {j : Nat} : ∀ n, j ≤ n → (∀ k, j ≤ k → k < n → D k → ¬ wrt k) → Lw f wrt D n = Lw f wrt D j
  | 0, hj, _ => by rw [show j = 0 by omega]
  | n + 1, hj, h => by
    by_cases e : j = n + 1
    · rw [e]
    · simp only [Lw]
      rw [if_neg fun hh => h n (by omega) (by omega) hh.1 hh.2]
      exact Lw_later n (by omega) fun k h1 h2 => h k h1 (by omega)
/-- one more -/
def with1 (D : Nat → Prop) (j : Nat) : Nat → Prop := fun k => k = j ∨ D k
theorem Lw_with_no {j : Nat} (hw : ¬ wrt j) : ∀ n, Lw f wrt (with1 D j) n = Lw f wrt D n
  | 0 => rfl
  | n + 1 => by
    simp only [Lw, Lw_with_no hw n]
    by_cases e : n = j
    · subst e
      rw [if_neg fun hh => hw hh.2, if_neg fun hh => hw hh.2]
    · have : (with1 D j n ∧ wrt n) ↔ (D n ∧ wrt n) := by unfold with1; simp [e]
      simp only [this]
theorem Lw_with_yes {j n : Nat} (hj : j < n) (hw : wrt j) (h : ∀ k, j < k → k < n → D k → ¬ wrt k) : Lw f wrt (with1 D j) n = f (j + 1) := by
  rw [Lw_later (j := j + 1) n (by omega) fun k h1 h2 hd => ?_]
  · simp only [Lw]
    rw [if_pos ⟨.inl rfl, hw⟩]
  · rcases hd with hd | hd
    · omega
    · exact h k (by omega) h2 hd
end

/-! ### objects under another base -/

section
variable {E : Env} {ρ ρ' ρt : Rho} {w wt : World}

theorem OR.restrict {B B' Bt : Prt} {b : Nat} {o : O} {N : Nat} (h : OR B ρ b o w) (ht : OR Bt ρt b o wt) (hN : ∀ b x, ρt b = some x → b < N) (hold : ∀ cb sh sz, ρ b = some (cb, sh, sz) → B.old cb → B'.old cb)
    (hprot : ∀ cb sh sz, ρ b = some (cb, sh, sz) → o.mine = true → ¬ B.prot cb → ¬ B'.prot cb) : OR B' (ρ.upto N) b o w := by
  cases o with
  | dead => trivial
  | cells e esz n ro c =>
    obtain ⟨cb, sh, sz, cs, fr, hρ, hc⟩ := h
    obtain ⟨cb2, sh2, sz2, cs2, fr2, hρ2, hc2⟩ := ht
    refine ⟨cb, sh, sz, cs, fr, Rho.upto_some hρ (hN _ _ hρ2), hc.heap, hc.size, hc.room, hc.al, fun hr => hold _ _ _ hρ (hc.old hr), fun hr => ⟨hprot _ _ _ hρ (by simp [O.mine, hr]) (hc.own hr).1, (hc.own hr).2⟩, hc.one, fun off v cv h1 h2 h3 => ?_⟩
    have hlt : sh2 + off < cs2.size := by have := hc2.room; have := hc2.size; omega
    exact VRel.upto hN (hc.cell off v cv h1 h2 h3) (hc2.cell off v _ h1 h2 (Array.getElem?_eq_getElem hlt))
  | map es cl =>
    obtain ⟨cr, sh, sz, ces, hρ, hB, hw, hm⟩ := h
    obtain ⟨cr2, sh2, sz2, ces2, hρ2, hB2, hw2, hm2⟩ := ht
    exact ⟨cr, sh, sz, ces, Rho.upto_some hρ (hN _ _ hρ2), hprot _ _ _ hρ rfl hB, hw, hm.upto hN hm2⟩
  | siter l n pos =>
    obtain ⟨cr, sz, str, hρ, hB, hw, hm⟩ := h
    obtain ⟨cr2, sz2, str2, hρ2, _⟩ := ht
    exact ⟨cr, sz, str, Rho.upto_some hρ (hN _ _ hρ2), hprot _ _ _ hρ rfl hB, hw, hm⟩
  | loop =>
    obtain ⟨cr, sz, r, hρ, hB, hw, hm⟩ := h
    obtain ⟨cr2, sz2, r2, hρ2, _, _, hm2⟩ := ht
    exact ⟨cr, sz, r, Rho.upto_some hρ (hN _ _ hρ2), hprot _ _ _ hρ rfl hB, hw, hm.st, hm.pend, hm.n, fun t v hv => VRel.upto hN (hm.tmp t v hv) (hm2.tmp t v hv), hm.params, hm.assign, hm.body⟩
  | defb =>
    obtain ⟨cr, sz, hρ, hB, hw⟩ := h
    obtain ⟨cr2, sz2, hρ2, _⟩ := ht
    exact ⟨cr, sz, Rho.upto_some hρ (hN _ _ hρ2), hprot _ _ _ hρ rfl hB, hw⟩

theorem OR.conv {B B' : Prt} {b : Nat} {o : O} (h : OR B ρ b o w) (hle : ρ.le ρ') (hold : ∀ cb, B.old cb → B'.old cb) (hprot : ∀ cb, ¬ B.prot cb → ¬ B'.prot cb) : OR B' ρ' b o w := by
  cases o with
  | dead => trivial
  | cells e esz n ro c =>
    obtain ⟨cb, sh, sz, cs, fr, hρ, hc⟩ := h
    exact ⟨cb, sh, sz, cs, fr, hle _ _ hρ, hc.heap, hc.size, hc.room, hc.al, fun hr => hold _ (hc.old hr), fun hr => ⟨hprot _ (hc.own hr).1, (hc.own hr).2⟩, hc.one, fun off v cv h1 h2 h3 => (hc.cell off v cv h1 h2 h3).mono hle⟩
  | map es cl =>
    obtain ⟨cr, sh, sz, ces, hρ, hB, hw, hm⟩ := h
    exact ⟨cr, sh, sz, ces, hle _ _ hρ, hprot _ hB, hw, hm.mono hle⟩
  | siter l n pos =>
    obtain ⟨cr, sz, str, hρ, hB, hw, hm⟩ := h
    exact ⟨cr, sz, str, hle _ _ hρ, hprot _ hB, hw, hm⟩
  | loop =>
    obtain ⟨cr, sz, r, hρ, hB, hw, hm⟩ := h
    exact ⟨cr, sz, r, hle _ _ hρ, hprot _ hB, hw, hm.mono hle⟩
  | defb =>
    obtain ⟨cr, sz, hρ, hB, hw⟩ := h
    exact ⟨cr, sz, hle _ _ hρ, hprot _ hB, hw⟩

/-- what lives has a place, in the heap -/
theorem OR.place {B : Prt} {b : Nat} {o : O} (h : OR B ρ b o w) (ha : o.alive = true) : ∃ cb sh sz, ρ b = some (cb, sh, sz) ∧ cb < w.heap.size := by
  have key : ∀ {cb : Nat} {x : Obj}, w.heap[cb]? = some x → cb < w.heap.size := fun {cb x} hx => by
    rcases Nat.lt_or_ge cb w.heap.size with h | h
    · exact h
    · rw [Array.getElem?_eq_none h] at hx; cases hx
  cases o with
  | dead => simp [O.alive] at ha
  | cells e esz n ro c => obtain ⟨cb, sh, sz, cs, fr, hρ, hc⟩ := h; exact ⟨cb, sh, sz, hρ, key hc.heap⟩
  | map es cl => obtain ⟨cr, sh, sz, ces, hρ, hB, hw, hm⟩ := h; exact ⟨cr, sh, sz, hρ, key hw⟩
  | siter l n pos => obtain ⟨cr, sz, str, hρ, hB, hw, hm⟩ := h; exact ⟨cr, 0, sz, hρ, key hw⟩
  | loop => obtain ⟨cr, sz, r, hρ, hB, hw, hm⟩ := h; exact ⟨cr, 0, sz, hρ, key hw⟩
  | defb => obtain ⟨cr, sz, hρ, hB, hw⟩ := h; exact ⟨cr, 0, sz, hρ, key hw⟩
theorem OR.mine_not {B : Prt} {b : Nat} {o : O} (h : OR B ρ b o w) (hm : o.mine = true) {cb sh sz : Nat} (hρ : ρ b = some (cb, sh, sz)) : ¬ B.prot cb := by
  cases o with
  | dead => simp [O.mine] at hm
  | cells e esz n ro c =>
    obtain ⟨cb', sh', sz', cs, fr, hρ', hc⟩ := h
    rw [hρ] at hρ'; simp only [Option.some.injEq, Prod.mk.injEq] at hρ'; obtain ⟨rfl, rfl, rfl⟩ := hρ'
    exact (hc.own (by simpa [O.mine] using hm)).1
  | map es cl =>
    obtain ⟨cr, sh', sz', ces, hρ', hB, _⟩ := h
    rw [hρ] at hρ'; simp only [Option.some.injEq, Prod.mk.injEq] at hρ'; obtain ⟨rfl, rfl, rfl⟩ := hρ'
    exact hB
  | siter l n pos =>
    obtain ⟨cr, sz', str, hρ', hB, _⟩ := h
    rw [hρ] at hρ'; simp only [Option.some.injEq, Prod.mk.injEq] at hρ'; obtain ⟨rfl, rfl, rfl⟩ := hρ'
    exact hB
  | loop =>
    obtain ⟨cr, sz', r, hρ', hB, _⟩ := h
    rw [hρ] at hρ'; simp only [Option.some.injEq, Prod.mk.injEq] at hρ'; obtain ⟨rfl, rfl, rfl⟩ := hρ'
    exact hB
  | defb =>
    obtain ⟨cr, sz', hρ', hB, _⟩ := h
    rw [hρ] at hρ'; simp only [Option.some.injEq, Prod.mk.injEq] at hρ'; obtain ⟨rfl, rfl, rfl⟩ := hρ'
    exact hB
theorem OR.other_prot {B : Prt} {b : Nat} {o : O} (h : OR B ρ b o w) (ha : o.alive = true) (hm : o.mine = false) {cb sh sz : Nat} (hρ : ρ b = some (cb, sh, sz)) : B.prot cb := by
  cases o with
  | dead => simp [O.alive] at ha
  | cells e esz n ro c =>
    obtain ⟨cb', sh', sz', cs, fr, hρ', hc⟩ := h
    rw [hρ] at hρ'; simp only [Option.some.injEq, Prod.mk.injEq] at hρ'; obtain ⟨rfl, rfl, rfl⟩ := hρ'
    exact B.sub _ (hc.old (by simpa [O.mine] using hm))
  | map es cl => simp [O.mine] at hm
  | siter l n pos => simp [O.mine] at hm
  | loop => simp [O.mine] at hm
  | defb => simp [O.mine] at hm
theorem mine_alive {o : O} (h : o.mine = true) : o.alive = true := by cases o <;> simp [O.mine, O.alive] at h ⊢
end

/-! ### a run in the text's order -/

def fresh (s : St) : St := { s with on := true, log := [] }
def wr (S : Nat → St) (k b : Nat) : Prop := ∃ e ∈ (S (k + 1)).log, e.b = b ∧ e.w = true
def fp (S : Nat → St) (k b : Nat) : Prop := ∃ e ∈ (S (k + 1)).log, e.b = b
theorem fp_of_wr {S : Nat → St} {k b : Nat} (h : wr S k b) : fp S k b := let ⟨e, h1, h2, _⟩ := h; ⟨e, h1, h2⟩

structure Text (P : Program) (E : Env) (w0 : Base) (ops : Array Oper) (sf : EV) (A : Nat → Ac) (S : Nat → St) (m : Nat) (ρ0 : Rho) : Prop where
  ok : EnvOk P E
  sim : EVSim P E sf
  loc : EVLoc sf
  plan : PlanOk ops
  made : ∀ k, k < m → ∃ o v, ops[k]? = some o ∧ Made E ops o sf (A k) (fresh (S k)) v (S (k + 1)) ∧ (putF o.dst).run (A k) v = some (A (k + 1))
  nc : ∀ i j, i < j → j < m → (bef ops j).testBit i = false → ∀ b, ¬ (wr S i b ∧ fp S j b) ∧ ¬ (fp S i b ∧ wr S j b)
  zero : ∀ b x, ρ0 b = some x → b < (S 0).next
  lo : w0.lo ≤ (S 0).next
  txt : ∀ j, j ≤ m → ∃ ρt wt cat, Rel E w0 ρt (S j) wt ∧ ARel ρt (A j) cat

def dstOf (ops : Array Oper) (k : Nat) : Option Tmp := (ops[k]?).bind (·.dst)
noncomputable def HS (S : Nat → St) (D : Nat → Prop) (m b : Nat) : Option O := Lw (fun k => (S k).heap.get b) (fun k => wr S k b) D m
noncomputable def TS (ops : Array Oper) (A : Nat → Ac) (D : Nat → Prop) (m t : Nat) : Option V := Lw (fun k => (A k).tmps.get t) (fun k => dstOf ops k = some t) D m

/-- Z: temporaries of which nothing is said -/
structure Inv (E : Env) (w0 : Base) (ops : Array Oper) (A : Nat → Ac) (S : Nat → St) (m : Nat) (ρ0 : Rho) (Z D : Nat → Prop) (ρ : Rho) (ca : Act) (w : World) : Prop where
  le : ρ0.le ρ
  keep : Keeps w0.pt.prot w0.w w
  dom : ∀ b, ((S m).next ≤ b ∨ w0.out b ∨ ∃ k, k < m ∧ ¬ D k ∧ (S k).next ≤ b ∧ b < (S (k + 1)).next) → ρ b = none
  obj : ∀ b o, HS S D m b = some o → OR w0.pt ρ b o w
  sep : ∀ b b' o o' cb sh sz sh' sz', HS S D m b = some o → HS S D m b' = some o' → o.mine = true → o'.mine = true → ρ b = some (cb, sh, sz) → ρ b' = some (cb, sh', sz') → b = b'
  glob : ∀ g b, E.glob.get g = some b → ∃ sz, ρ b = some (g, 0, sz)
  n : ca.tmps.size = (A 0).n
  tmp : ∀ t v, ¬ Z t → TS ops A D m t = some v → VRel ρ v (ca.tmps.getD t undef)
  defers : DRels ρ0 (A 0).defers ca.defers

section
variable {P : Program} {E : Env} {w0 : Base} {ops : Array Oper} {self : EV} {A : Nat → Ac} {S : Nat → St} {m : Nat} {ρ0 : Rho}

theorem Text.grows (T : Text P E w0 ops self A S m ρ0) {k : Nat} (hk : k < m) : (S k).next ≤ (S (k + 1)).next ∧ ∀ b, ¬ wr S k b → (S (k + 1)).heap.get b = (S k).heap.get b := by
  obtain ⟨o, v, ho, hm, hp⟩ := T.made k hk
  obtain ⟨g, _⟩ := made_loc T.loc rfl hm
  obtain ⟨new, hn, hh⟩ := g.log
  have hn' : (S (k + 1)).log = new := by rw [hn]; simp [fresh]
  refine ⟨g.next, fun b hb => hh b fun e he heb => ?_⟩
  cases hw : e.w with
  | false => rfl
  | true => exact absurd ⟨e, by rw [hn']; exact he, heb, hw⟩ hb
theorem Text.next_le (T : Text P E w0 ops self A S m ρ0) {i : Nat} : ∀ j, i ≤ j → j ≤ m → (S i).next ≤ (S j).next
  | 0, h, _ => by rw [show i = 0 by omega]; exact Nat.le_refl _
  | j + 1, h, hj => by
    by_cases e : i = j + 1
    · rw [e]; exact Nat.le_refl _
    · exact Nat.le_trans (T.next_le j (by omega) (by omega)) (T.grows (by omega)).1
theorem putF_get {dst : Option Tmp} {a a' : Ac} {v : V} (h : (putF dst).run a v = some a') : a'.n = a.n ∧ a'.defers = a.defers ∧ (∀ t, dst ≠ some t → a'.tmps.get t = a.tmps.get t) ∧ (∀ t, dst = some t → a'.tmps.get t = some v ∧ t < a.n) := by
  cases dst with
  | none =>
    have h' : some a = some a' := h
    simp only [Option.some.injEq] at h'; subst h'
    exact ⟨rfl, rfl, fun _ _ => rfl, fun t ht => by cases ht⟩
  | some d =>
    have h' : putAt (setPC (bits d d)) d a v = some a' := h
    rw [putAt_eq] at h'
    cases hd : Nat.blt d a.n with
    | false => rw [hd] at h'; cases h'
    | true =>
      rw [hd] at h'
      simp only [cond_true, Option.some.injEq] at h'
      subst h'
      rw [blt_true] at hd
      have hg : ∀ t, ((setP (bits d d)).run v a.tmps).get t = if t = d then some v else a.tmps.get t := fun t => setP_bits d d _ _ _ (Nat.le_refl _)
      refine ⟨rfl, rfl, fun t ht => ?_, fun t ht => ?_⟩
      · show ((setP (bits d d)).run v a.tmps).get t = _
        rw [hg, if_neg (fun e => ht (by rw [e]))]
      · simp only [Option.some.injEq] at ht
        subst ht
        exact ⟨by show ((setP (bits d d)).run v a.tmps).get d = _; rw [hg, if_pos rfl], hd⟩
theorem Text.tmps (T : Text P E w0 ops self A S m ρ0) {k : Nat} (hk : k < m) : (A (k + 1)).n = (A k).n ∧ (A (k + 1)).defers = (A k).defers ∧ ∀ t, ¬ dstOf ops k = some t → (A (k + 1)).tmps.get t = (A k).tmps.get t := by
  obtain ⟨o, v, ho, hm, hp⟩ := T.made k hk
  obtain ⟨h1, h2, h3, h4⟩ := putF_get hp
  refine ⟨h1, h2, fun t ht => h3 t fun e => ht ?_⟩
  unfold dstOf
  rw [ho]
  exact e
theorem Text.an (T : Text P E w0 ops self A S m ρ0) : ∀ j, j ≤ m → (A j).n = (A 0).n ∧ (A j).defers = (A 0).defers
  | 0, _ => ⟨rfl, rfl⟩
  | j + 1, hj => by
    obtain ⟨h1, h2, _⟩ := T.tmps (k := j) (by omega)
    obtain ⟨h3, h4⟩ := T.an j (by omega)
    exact ⟨h1.trans h3, h2.trans h4⟩

theorem Text.H_all (T : Text P E w0 ops self A S m ρ0) {D : Nat → Prop} (h : ∀ k, k < m → D k) (b : Nat) : HS S D m b = (S m).heap.get b :=
  Lw_eq (fun _ hk hw => (T.grows hk).2 b hw) m (Nat.le_refl _) fun k hk _ => h k hk
theorem Text.T_all (T : Text P E w0 ops self A S m ρ0) {D : Nat → Prop} (h : ∀ k, k < m → D k) (t : Nat) : TS ops A D m t = (A m).tmps.get t :=
  Lw_eq (fun _ hk hw => (T.tmps hk).2.2 t hw) m (Nat.le_refl _) fun k hk _ => h k hk

/-- an operation that may come next -/
structure Next (ops : Array Oper) (m : Nat) (D : Nat → Prop) (j : Nat) : Prop where
  lt : j < m
  not : ¬ D j
  closed : Closed ops D
  ahead : ∀ o, ops[j]? = some o → ∀ e ∈ o.after, Region.binds .any e = true → D e.on
  below : ∀ k, D k → k < m

theorem Text.before (T : Text P E w0 ops self A S m ρ0) {D : Nat → Prop} {j : Nat} (N : Next ops m D j) {k : Nat} (h : (bef ops j).testBit k = true) : D k := by
  obtain ⟨o, v, ho, _⟩ := T.made j N.lt
  exact closed_bef T.plan.back N.closed j o ho (N.ahead o ho) h
theorem Text.after (T : Text P E w0 ops self A S m ρ0) {D : Nat → Prop} {j : Nat} (N : Next ops m D j) {k : Nat} (hk : D k) : (bef ops k).testBit j = false := by
  cases h : (bef ops k).testBit j with
  | false => rfl
  | true =>
    obtain ⟨o, v, ho, _⟩ := T.made k (N.below k hk)
    exact absurd (closed_bef T.plan.back N.closed k o ho (N.closed k hk o ho) h) N.not

theorem Text.H_at (T : Text P E w0 ops self A S m ρ0) {D : Nat → Prop} {j : Nat} (N : Next ops m D j) {b : Nat} (hb : fp S j b) : HS S D m b = (S j).heap.get b := by
  have h1 : HS S D m b = Lw (fun k => (S k).heap.get b) (fun k => wr S k b) D j :=
    Lw_later m (Nat.le_of_lt N.lt) fun k h1 h2 hd hw => by
      have hne : k ≠ j := fun e => N.not (e ▸ hd)
      exact (T.nc j k (by omega) h2 (T.after N hd) b).2 ⟨hb, hw⟩
  rw [h1]
  refine Lw_eq (m := m) (fun _ hk hw => (T.grows hk).2 b hw) j (Nat.le_of_lt N.lt) fun k hk hw => ?_
  cases hbit : (bef ops j).testBit k with
  | true => exact T.before N hbit
  | false => exact absurd ⟨hw, hb⟩ (T.nc k j hk N.lt hbit b).1
theorem Text.H_add_no (_T : Text P E w0 ops self A S m ρ0) {D : Nat → Prop} {j : Nat} {b : Nat} (hb : ¬ wr S j b) : HS S (with1 D j) m b = HS S D m b := Lw_with_no (wrt := fun k => wr S k b) hb m
theorem Text.H_add_yes (T : Text P E w0 ops self A S m ρ0) {D : Nat → Prop} {j : Nat} (N : Next ops m D j) {b : Nat} (hb : fp S j b) : HS S (with1 D j) m b = (S (j + 1)).heap.get b := by
  by_cases hw : wr S j b
  · refine Lw_with_yes (f := fun k => (S k).heap.get b) N.lt hw fun k h1 h2 hd hw2 => ?_
    exact (T.nc j k h1 h2 (T.after N hd) b).1 ⟨hw, fp_of_wr hw2⟩
  · rw [T.H_add_no hw, T.H_at N hb, (T.grows N.lt).2 b hw]

theorem Text.T_at (T : Text P E w0 ops self A S m ρ0) {D : Nat → Prop} {j : Nat} (N : Next ops m D j) {o : Oper} (ho : ops[j]? = some o) {t : Nat} (ht : t ∈ looks ops o) : TS ops A D m t = (A j).tmps.get t := by
  have h1 : TS ops A D m t = Lw (fun k => (A k).tmps.get t) (fun k => dstOf ops k = some t) D j :=
    Lw_later m (Nat.le_of_lt N.lt) fun k h1 h2 hd hw => by
      have hne : k ≠ j := fun e => N.not (e ▸ hd)
      obtain ⟨o', v', ho', _⟩ := T.made k h2
      have hap := T.plan.tmps j k o o' (by omega) ho ho' (T.after N hd)
      unfold dstOf at hw
      rw [ho'] at hw
      exact (apartN_spec hap).2 t hw ht
  rw [h1]
  refine Lw_eq (m := m) (fun _ hk hw => (T.tmps hk).2.2 t hw) j (Nat.le_of_lt N.lt) fun k hk hw => ?_
  cases hbit : (bef ops j).testBit k with
  | true => exact T.before N hbit
  | false =>
    obtain ⟨o', v', ho', _⟩ := T.made k (by have := N.lt; omega)
    have hap := T.plan.tmps k j o' o hk ho' ho hbit
    unfold dstOf at hw
    rw [ho'] at hw
    exact absurd ht ((apartN_spec hap).1 t hw).1
theorem Text.T_add_yes (T : Text P E w0 ops self A S m ρ0) {D : Nat → Prop} {j : Nat} (N : Next ops m D j) {o : Oper} (ho : ops[j]? = some o) {t : Nat} (ht : o.dst = some t) : TS ops A (with1 D j) m t = (A (j + 1)).tmps.get t := by
  refine Lw_with_yes (f := fun k => (A k).tmps.get t) N.lt (by unfold dstOf; rw [ho]; exact ht) fun k h1 h2 hd hw => ?_
  obtain ⟨o', v', ho', _⟩ := T.made k h2
  have hap := T.plan.tmps j k o o' h1 ho ho' (T.after N hd)
  unfold dstOf at hw
  rw [ho'] at hw
  exact ((apartN_spec hap).1 t ht).2 hw

/-- one more operation -/
theorem Text.step (T : Text P E w0 ops self A S m ρ0) {Z D : Nat → Prop} {j : Nat} (N : Next ops m D j) {ρ : Rho} {ca : Act} {w : World} (I : Inv E w0 ops A S m ρ0 Z D ρ ca w) (hZ : ∀ o, ops[j]? = some o → ∀ t ∈ looks ops o, ¬ Z t)
    (rd : Option Nat) {K : Act → World → Prop} {Q : Exit → Act → World → Prop} (hK : ∀ ρ' ca' w', Inv E w0 ops A S m ρ0 Z (with1 D j) ρ' ca' w' → K ca' w') : wpOpIn (fenceAt rd) 0 P ops Q j K ca w := by
  obtain ⟨o, v, ho, hmade, hput⟩ := T.made j N.lt
  obtain ⟨ρt, wt, cat, Rt, At⟩ := T.txt j (Nat.le_of_lt N.lt)
  have hN : ∀ b x, ρt b = some x → b < (S j).next := fun b x hx => by
    rcases Nat.lt_or_ge b (S j).next with h | h
    · exact h
    · rw [Rt.dom b (.inl h)] at hx; cases hx
  -- the part of memory that the operation touches
  obtain ⟨th, hth⟩ := Tr.part (S j).heap ((S (j + 1)).log.map (·.b))
  have hmem : ∀ b, b ∈ (S (j + 1)).log.map (·.b) ↔ fp S j b := fun b => by
    rw [List.mem_map]; exact ⟨fun ⟨e, h1, h2⟩ => ⟨e, h1, h2⟩, fun ⟨e, h1, h2⟩ => ⟨e, h1, h2⟩⟩
  have hthy : ∀ b, fp S j b → th.get b = (S j).heap.get b := fun b hb => by rw [hth, if_pos ((hmem b).2 hb)]
  have hthn : ∀ b, ¬ fp S j b → th.get b = none := fun b hb => by rw [hth, if_neg (fun h => hb ((hmem b).1 h))]
  let t : St := { heap := th, next := (S j).next, on := true, log := [] }
  obtain ⟨tt, htt⟩ := Tr.part (A j).tmps (looks ops o)
  let a : Ac := { tmps := tt, n := (A j).n, defers := (A 0).defers, round := none }
  have hagree : Agree (fp S j) (fresh (S j)) t := ⟨rfl, rfl, rfl, hthy⟩
  have hmade2 : Made E ops o self a (fresh (S j)) v (S (j + 1)) := made_congr (a := A j) (a2 := a) rfl (fun x hx => by show tt.get x = _; rw [htt, if_pos hx]) hmade
  obtain ⟨t', hmt, hag', hgt⟩ := (made_loc T.loc rfl hmade2).2 (fp S j) t hagree fun e he => ⟨e, he, rfl⟩
  have hmono := (T.grows N.lt).1
  have hnl := T.next_le (i := j + 1) m N.lt (Nat.le_refl _)
  have h0j := T.next_le (i := 0) j (Nat.zero_le _) (Nat.le_of_lt N.lt)
  -- the base of the operation
  let mineAt : Nat → Prop := fun cb => ∃ b ob sh sz, fp S j b ∧ HS S D m b = some ob ∧ ob.mine = true ∧ ρ b = some (cb, sh, sz)
  have mine_prot : ∀ cb, mineAt cb → ¬ w0.pt.prot cb := fun cb ⟨b, ob, sh, sz, hf, hH, hm, hρ⟩ => (I.obj b ob hH).mine_not hm hρ
  have prot_in : ∀ cb, w0.pt.prot cb → cb < w.heap.size := fun cb h => Nat.lt_of_lt_of_le (w0.protLt cb h) I.keep.size
  let B : Base :=
    { w := w
      pt := { prot := fun cb => cb < w.heap.size ∧ ¬ mineAt cb, old := w0.pt.old, sub := fun k hk => ⟨prot_in k (w0.pt.sub k hk), fun hm => mine_prot k hm (w0.pt.sub k hk)⟩ }
      out := fun b => b < (S j).next ∧ ρ b = none
      lo := (S j).next
      protLt := fun cb h => h.1
      outLt := fun b h => h.1 }
  have prot_B : ∀ cb, w0.pt.prot cb → B.pt.prot cb := fun cb h => ⟨prot_in cb h, fun hm => mine_prot cb hm h⟩
  let ρj : Rho := ρ.upto (S j).next
  have hρj : ρj.le ρ := Rho.upto_le ρ _
  have hback : ∀ b x, ρj b = some x → b < (S j).next := fun b x h => by
    rcases Nat.lt_or_ge b (S j).next with h' | h'
    · exact h'
    · have : ρj b = none := by show (if b < (S j).next then ρ b else none) = none; rw [if_neg (by omega)]
      rw [this] at h; cases h
  have hR : Rel E B ρj t w := by
    refine ⟨⟨rfl, rfl, rfl, Nat.le_refl _, fun _ _ => rfl⟩, fun b hb => ?_, Nat.le_refl _, fun b ob hb => ?_, fun b b' ob ob' cb sh sz sh' sz' hb hb' hm hm' r1 r2 => ?_, fun g b hg => ?_⟩
    · rcases hb with hb | hb
      · show (if b < (S j).next then ρ b else none) = none
        rw [if_neg (by have : (S j).next ≤ b := hb; omega)]
      · have hb' : b < (S j).next ∧ ρ b = none := hb
        show (if b < (S j).next then ρ b else none) = none
        rw [if_pos hb'.1, hb'.2]
    · have hf : fp S j b := Classical.byContradiction fun hn => by
        have hb' : th.get b = some ob := hb
        rw [hthn b hn] at hb'; cases hb'
      have hb' : (S j).heap.get b = some ob := by rw [← hthy b hf]; exact hb
      have hH : HS S D m b = some ob := by rw [T.H_at N hf]; exact hb'
      exact (I.obj b ob hH).restrict (Rt.obj b ob hb') hN (fun _ _ _ _ h => h) (fun cb sh sz hρ hm _ hp => hp.2 ⟨b, ob, sh, sz, hf, hH, hm, hρ⟩)
    · have hf : ∀ x ox, t.heap.get x = some ox → HS S D m x = some ox := fun x ox hx => by
        have hf : fp S j x := Classical.byContradiction fun hn => by
          have hx' : th.get x = some ox := hx
          rw [hthn x hn] at hx'; cases hx'
        rw [T.H_at N hf, ← hthy x hf]; exact hx
      exact I.sep b b' ob ob' cb sh sz sh' sz' (hf b ob hb) (hf b' ob' hb') hm hm' (hρj _ _ r1) (hρj _ _ r2)
    · obtain ⟨sz, h1⟩ := I.glob g b hg
      obtain ⟨sz2, h2⟩ := Rt.glob g b hg
      exact ⟨sz, Rho.upto_some h1 (hN _ _ h2)⟩
  have hA : ARel ρj a ca := by
    refine ⟨by rw [I.n]; exact ((T.an j (Nat.le_of_lt N.lt)).1).symm, fun x u hx => ?_, ?_⟩
    · have hx' : tt.get x = some u := hx
      rw [htt] at hx'
      by_cases hl : x ∈ looks ops o
      · rw [if_pos hl] at hx'
        have hT : TS ops A D m x = some u := by rw [T.T_at N ho hl]; exact hx'
        exact VRel.upto hN (I.tmp x u (hZ o ho x hl) hT) (At.tmp x u hx')
      · rw [if_neg hl] at hx'; cases hx'
    · exact I.defers.mono fun b x hb => Rho.upto_some (I.le b x hb) (Nat.lt_of_lt_of_le (T.zero b x hb) h0j)
  refine made_sim T.ok T.sim ho hR hA hmt rd fun ρ' cv w' hle hv hR' => ?_
  -- all of memory again
  have hnext' : t'.next = (S (j + 1)).next := hag'.next
  let ρ2 : Rho := fun b => if (S j).next ≤ b ∧ b < (S (j + 1)).next then ρ' b else ρ b
  have hwin : ∀ b, (S j).next ≤ b → b < (S (j + 1)).next → ρ b = none := fun b h1 h2 => I.dom b (.inr (.inr ⟨j, N.lt, N.not, h1, h2⟩))
  have le2 : ρ.le ρ2 := fun b x hx => by
    show (if (S j).next ≤ b ∧ b < (S (j + 1)).next then ρ' b else ρ b) = some x
    by_cases hb : (S j).next ≤ b ∧ b < (S (j + 1)).next
    · rw [hwin b hb.1 hb.2] at hx; cases hx
    · rw [if_neg hb]; exact hx
  have le2' : ρ'.le ρ2 := fun b x hx => by
    show (if (S j).next ≤ b ∧ b < (S (j + 1)).next then ρ' b else ρ b) = some x
    by_cases hb : (S j).next ≤ b ∧ b < (S (j + 1)).next
    · rw [if_pos hb]; exact hx
    · rw [if_neg hb]
      rcases Nat.lt_or_ge b (S j).next with h1 | h1
      · cases hr : ρ b with
        | none => rw [hR'.dom b (.inr ⟨h1, hr⟩)] at hx; cases hx
        | some y =>
          have := hle b y (Rho.upto_some hr h1)
          rw [hx] at this; exact this.symm
      · rw [hR'.dom b (.inl (by rw [hnext']; omega))] at hx; cases hx
  -- what the operation has left of the blocks that it touches
  have H_yes : ∀ b, fp S j b → HS S (with1 D j) m b = t'.heap.get b := fun b hb => by rw [T.H_add_yes N hb, hag'.heap b hb]
  have H_no : ∀ b, ¬ fp S j b → HS S (with1 D j) m b = HS S D m b := fun b hb => T.H_add_no fun hw => hb (fp_of_wr hw)
  have not_prot : ∀ cb, ¬ B.pt.prot cb → ¬ w0.pt.prot cb := fun cb h hp => h (prot_B cb hp)
  -- a block that it does not touch is kept
  have kept : ∀ b ob, ¬ fp S j b → HS S D m b = some ob → ob.alive = true → ∀ cb sh sz, ρ b = some (cb, sh, sz) → B.pt.prot cb := fun b ob hb hH hal cb sh sz hρ => by
    obtain ⟨cb', sh', sz', hρ', hlt⟩ := (I.obj b ob hH).place hal
    rw [hρ] at hρ'; simp only [Option.some.injEq, Prod.mk.injEq] at hρ'; obtain ⟨rfl, rfl, rfl⟩ := hρ'
    refine ⟨hlt, fun ⟨b2, o2, sh2, sz2, hf2, hH2, hm2, hρ2⟩ => ?_⟩
    cases hm : ob.mine with
    | true => exact hb (I.sep b b2 ob o2 cb sh sz sh2 sz2 hH hH2 hm hm2 hρ hρ2 ▸ hf2)
    | false => exact (I.obj b2 o2 hH2).mine_not hm2 hρ2 ((I.obj b ob hH).other_prot hal hm hρ)
  refine hK ρ2 _ w' ⟨Rho.le_trans I.le le2, ?_, fun b hb => ?_, fun b ob hH => ?_, fun b b' ob ob' cb sh sz sh' sz' hb hb' hm hm' r1 r2 => ?_, fun g b hg => ?_, ?_, fun x u hz hx => ?_, ?_⟩
  · have k2 := hR'.below
    exact ⟨k2.os.trans I.keep.os, k2.tape.trans I.keep.tape, k2.output.trans I.keep.output, Nat.le_trans I.keep.size k2.size, fun k hk => (k2.block k (prot_B k hk)).trans (I.keep.block k hk)⟩
  · show (if (S j).next ≤ b ∧ b < (S (j + 1)).next then ρ' b else ρ b) = none
    have hno : ¬ ((S j).next ≤ b ∧ b < (S (j + 1)).next) ∧ ρ b = none := by
      rcases hb with hb | hb | ⟨k, hk, hD, h1, h2⟩
      · exact ⟨by omega, I.dom b (.inl hb)⟩
      · exact ⟨fun hh => by have := w0.outLt b hb; have := T.lo; omega, I.dom b (.inr (.inl hb))⟩
      · have hkj : k ≠ j := fun e => hD (.inl e)
        refine ⟨fun hh => ?_, I.dom b (.inr (.inr ⟨k, hk, fun hd => hD (.inr hd), h1, h2⟩))⟩
        rcases Nat.lt_or_ge k j with h | h
        · have := T.next_le (i := k + 1) j (by omega) (Nat.le_of_lt N.lt); omega
        · have := T.next_le (i := j + 1) k (by omega) (Nat.le_of_lt hk); omega
    rw [if_neg hno.1, hno.2]
  · by_cases hf : fp S j b
    · rw [H_yes b hf] at hH
      exact (hR'.obj b ob hH).conv le2' (fun _ h => h) not_prot
    · rw [H_no b hf] at hH
      cases hal : ob.alive with
      | false => cases ob <;> first | trivial | simp [O.alive] at hal
      | true => exact (I.obj b ob hH).of_same le2 fun cb sh sz hρ => hR'.below.block cb (kept b ob hf hH hal cb sh sz hρ)
  · -- two blocks of the call's own at one place
    have place : ∀ x ox, fp S j x → HS S (with1 D j) m x = some ox → ox.mine = true → ∀ c h z, ρ2 x = some (c, h, z) → t'.heap.get x = some ox ∧ ρ' x = some (c, h, z) := fun x ox hf hx hmx c h z hr => by
      rw [H_yes x hf] at hx
      obtain ⟨c2, h2, z2, hr2, _⟩ := (hR'.obj x ox hx).place (mine_alive hmx)
      have := le2' _ _ hr2
      rw [hr] at this
      simp only [Option.some.injEq, Prod.mk.injEq] at this
      obtain ⟨rfl, rfl, rfl⟩ := this
      exact ⟨hx, hr2⟩
    have other : ∀ x ox, ¬ fp S j x → HS S (with1 D j) m x = some ox → ox.mine = true → ∀ c h z, ρ2 x = some (c, h, z) → HS S D m x = some ox ∧ ρ x = some (c, h, z) := fun x ox hf hx hmx c h z hr => by
      rw [H_no x hf] at hx
      obtain ⟨c2, h2, z2, hr2, _⟩ := (I.obj x ox hx).place (mine_alive hmx)
      have := le2 _ _ hr2
      rw [hr] at this
      simp only [Option.some.injEq, Prod.mk.injEq] at this
      obtain ⟨rfl, rfl, rfl⟩ := this
      exact ⟨hx, hr2⟩
    by_cases hf : fp S j b
    · obtain ⟨h1, h2⟩ := place b ob hf hb hm _ _ _ r1
      by_cases hf' : fp S j b'
      · obtain ⟨h1', h2'⟩ := place b' ob' hf' hb' hm' _ _ _ r2
        exact hR'.sep b b' ob ob' cb sh sz sh' sz' h1 h1' hm hm' h2 h2'
      · obtain ⟨h1', h2'⟩ := other b' ob' hf' hb' hm' _ _ _ r2
        exact absurd (kept b' ob' hf' h1' (mine_alive hm') _ _ _ h2') ((hR'.obj b ob h1).mine_not hm h2)
    · obtain ⟨h1, h2⟩ := other b ob hf hb hm _ _ _ r1
      by_cases hf' : fp S j b'
      · obtain ⟨h1', h2'⟩ := place b' ob' hf' hb' hm' _ _ _ r2
        exact absurd (kept b ob hf h1 (mine_alive hm) _ _ _ h2) ((hR'.obj b' ob' h1').mine_not hm' h2')
      · obtain ⟨h1', h2'⟩ := other b' ob' hf' hb' hm' _ _ _ r2
        exact I.sep b b' ob ob' cb sh sz sh' sz' h1 h1' hm hm' h2 h2'
  · obtain ⟨sz, h1⟩ := I.glob g b hg
    exact ⟨sz, le2 _ _ h1⟩
  · rw [← I.n]
    cases o.dst <;> simp [Act.put]
  · obtain ⟨p1, p2, p3, p4⟩ := putF_get hput
    by_cases hd : o.dst = some x
    · rw [T.T_add_yes N ho hd] at hx
      obtain ⟨hx2, hlt⟩ := p4 x hd
      rw [hx2] at hx
      simp only [Option.some.injEq] at hx
      subst hx
      have hsz : x < ca.tmps.size := by rw [I.n, ← (T.an j (Nat.le_of_lt N.lt)).1]; exact hlt
      rw [hd]
      simp only [Act.put, Array.getD_eq_getD_getElem?, Array.getElem?_setIfInBounds, if_true]
      rw [if_pos hsz]
      exact hv.mono le2'
    · have hx' : TS ops A D m x = some u := by
        rw [← hx]
        exact (Lw_with_no (wrt := fun k => dstOf ops k = some x) (by unfold dstOf; rw [ho]; exact hd) m).symm
      have := (I.tmp x u hz hx').mono le2
      cases hdst : o.dst with
      | none => exact this
      | some d =>
        simp only [Act.put, Array.getD_eq_getD_getElem?] at this ⊢
        rw [Array.getElem?_setIfInBounds_ne (fun e => hd (by rw [hdst, e]))]
        exact this
  · have : (ca.put o.dst cv).defers = ca.defers := by cases o.dst <;> rfl
    rw [this]; exact I.defers

/-- new memory beside the text's run -/
theorem Text.extra (T : Text P E w0 ops self A S m ρ0) {Z D : Nat → Prop} {j : Nat} {o : Oper} (ho : ops[j]? = some o) (hal : allocOk E o = true) (hz : ∀ t, o.dst = some t → Z t) {ρ : Rho} {ca : Act} {w : World} (I : Inv E w0 ops A S m ρ0 Z D ρ ca w)
    (rd : Option Nat) {K : Act → World → Prop} {Q : Exit → Act → World → Prop} (hK : ∀ ca' w', Inv E w0 ops A S m ρ0 Z D ρ ca' w' → K ca' w') : wpOpIn (fenceAt rd) 0 P ops Q j K ca w := by
  unfold allocOk at hal
  split at hal
  case h_2 => cases hal
  rename_i ty hop
  simp only [Bool.and_eq_true, Option.isNone_iff_eq_none, Option.isSome_iff_exists] at hal
  obtain ⟨⟨hg, _⟩, z, hzt⟩ := hal
  let t : St := { heap := .nil, next := (S m).next, on := true, log := [] }
  let a : Ac := { tmps := .nil, n := (A 0).n, defers := (A 0).defers, round := none }
  have hmade : Made E ops o self a t (.ptr t.next 0) (newCells t ty z.size [z.cells]) := by
    refine .val ?_ ?_
    · unfold wantF; rw [hg]
    · rw [hop]
      show oAlloc E ty a t = _
      unfold oAlloc
      rw [hzt]; rfl
  let B : Base :=
    { w := w
      pt := { prot := fun cb => cb < w.heap.size, old := fun _ => False, sub := fun _ h => h.elim }
      out := fun b => b < (S m).next ∧ ρ b = none
      lo := (S m).next
      protLt := fun cb h => h
      outLt := fun b h => h.1 }
  have hR : Rel E B ρ t w := by
    refine ⟨⟨rfl, rfl, rfl, Nat.le_refl _, fun _ _ => rfl⟩, fun b hb => ?_, Nat.le_refl _, fun b ob hb => ?_, fun b b' ob ob' cb sh sz sh' sz' hb => ?_, I.glob⟩
    · rcases hb with hb | hb
      · exact I.dom b (.inl hb)
      · exact hb.2
    · have hb' : (Tr.nil : Tr O).get b = some ob := hb
      rw [Tr.get_nil] at hb'; cases hb'
    · have hb' : (Tr.nil : Tr O).get b = some ob := hb
      rw [Tr.get_nil] at hb'; cases hb'
  have hA : ARel ρ a ca := ⟨I.n, fun x u hx => (by have hx' : (Tr.nil : Tr V).get x = some u := hx; rw [Tr.get_nil] at hx'; cases hx'), I.defers.mono I.le⟩
  refine made_sim T.ok T.sim ho hR hA hmade rd fun ρ' cv w' hle hv hR' => ?_
  have k2 := hR'.below
  have prot_in : ∀ cb, w0.pt.prot cb → cb < w.heap.size := fun cb h => Nat.lt_of_lt_of_le (w0.protLt cb h) I.keep.size
  refine hK _ w' ⟨I.le, ⟨k2.os.trans I.keep.os, k2.tape.trans I.keep.tape, k2.output.trans I.keep.output, Nat.le_trans I.keep.size k2.size, fun k hk => (k2.block k (prot_in k hk)).trans (I.keep.block k hk)⟩, I.dom, fun b ob hH => ?_, I.sep, I.glob, ?_, fun x u hx hT => ?_, ?_⟩
  · cases hal : ob.alive with
    | false => cases ob <;> first | trivial | simp [O.alive] at hal
    | true =>
      refine (I.obj b ob hH).of_same (Rho.le_refl _) fun cb sh sz hρ => k2.block cb ?_
      obtain ⟨cb', sh', sz', hρ', hlt⟩ := (I.obj b ob hH).place hal
      rw [hρ] at hρ'; simp only [Option.some.injEq, Prod.mk.injEq] at hρ'; obtain ⟨rfl, rfl, rfl⟩ := hρ'
      exact hlt
  · rw [← I.n]
    cases o.dst <;> simp [Act.put]
  · have := I.tmp x u hx hT
    cases hdst : o.dst with
    | none => exact this
    | some d =>
      simp only [Act.put, Array.getD_eq_getD_getElem?] at this ⊢
      rw [Array.getElem?_setIfInBounds_ne (fun e => hx (hz x (by rw [hdst, e])))]
      exact this
  · have : (ca.put o.dst cv).defers = ca.defers := by cases o.dst <;> rfl
    rw [this]; exact I.defers
end
end Go.Proofs.YtjaibhpfhdmikacGreatDoor.Ev

/-
  REGIONS THAT DRAW THEIR ORDER: the whole region.
-/
namespace Go.Proofs.YtjaibhpfhdmikacGreatDoor.Ev
open Go.RowKit
open Classical

section
variable {P : Program} {E : Env} {w0 : Base} {ops : Array Oper} {self : EV}

/-! ### the run in the text's order, taken apart -/

theorem opsD_norm : ∀ (l : List Oper) {a : Ac} {s : St} {a' : Ac} {s' : St} {logs : List (List LE)}, (opsD E ops l).run self a s = some (.norm, a', s', logs) →
    ∃ (A : Nat → Ac) (S : Nat → St), A 0 = a ∧ S 0 = s ∧ A l.length = a' ∧ S l.length = s' ∧ ∀ (k : Nat) (o : Oper), l[k]? = some o → (op1 E ops o).run self (A k) (fresh (S k)) = some (.norm, A (k + 1), S (k + 1)) ∧ logs[k]? = some (S (k + 1)).log
  | [], a, s, a', s', logs, h => by
    have h' : some (X.norm, a, s, []) = some (X.norm, a', s', logs) := h
    simp only [Option.some.injEq, Prod.mk.injEq, true_and] at h'
    obtain ⟨rfl, rfl, rfl⟩ := h'
    exact ⟨fun _ => a, fun _ => s, rfl, rfl, rfl, rfl, by simp⟩
  | o :: l, a, s, a', s', logs, h => by
    have h' : ((op1 E ops o).run self a (fresh s)).bind (drawOn (opsD E ops l) self) = some (X.norm, a', s', logs) := h
    simp only [Option.bind_eq_some_iff, Prod.exists] at h'
    obtain ⟨x1, a1, s1, h1, h2⟩ := h'
    cases x1 <;> simp only [drawOn, Option.some.injEq, Prod.mk.injEq, reduceCtorEq, false_and] at h2
    simp only [Option.bind_eq_some_iff, Option.some.injEq] at h2
    obtain ⟨q, hq, h2⟩ := h2
    obtain ⟨qx, qa, qs, ql⟩ := q
    simp only [Prod.mk.injEq] at h2
    obtain ⟨rfl, rfl, rfl, rfl⟩ := h2
    obtain ⟨A, S, hA0, hS0, hA, hS, hall⟩ := opsD_norm l hq
    refine ⟨fun k => match k with | 0 => a | k + 1 => A k, fun k => match k with | 0 => s | k + 1 => S k, rfl, rfl, hA, hS, fun k o' hk => ?_⟩
    cases k with
    | zero =>
      simp at hk
      subst hk
      refine ⟨?_, ?_⟩
      · show (op1 E ops o).run self a (fresh s) = some (.norm, A 0, S 0)
        rw [hA0, hS0]; exact h1
      · show (s1.log :: ql)[0]? = some (S 0).log
        rw [hS0]; rfl
    | succ k => exact hall k o' (by simpa using hk)

theorem opsD_pan : ∀ (l : List Oper) {a : Ac} {s : St} {v : V} {a' : Ac} {s' : St} {logs : List (List LE)}, (opsD E ops l).run self a s = some (.pan v, a', s', logs) →
    ∃ (A : Nat → Ac) (S : Nat → St) (p : Nat) (o : Oper), A 0 = a ∧ S 0 = s ∧ l[p]? = some o ∧ logs.length = p + 1 ∧ (op1 E ops o).run self (A p) (fresh (S p)) = some (.pan v, a', s') ∧
      ∀ (k : Nat) (o : Oper), k < p → l[k]? = some o → (op1 E ops o).run self (A k) (fresh (S k)) = some (.norm, A (k + 1), S (k + 1)) ∧ logs[k]? = some (S (k + 1)).log
  | [], a, s, v, a', s', logs, h => by
    have h' : some (X.norm, a, s, []) = some (X.pan v, a', s', logs) := h
    simp at h'
  | o :: l, a, s, v, a', s', logs, h => by
    have h' : ((op1 E ops o).run self a (fresh s)).bind (drawOn (opsD E ops l) self) = some (X.pan v, a', s', logs) := h
    simp only [Option.bind_eq_some_iff, Prod.exists] at h'
    obtain ⟨x1, a1, s1, h1, h2⟩ := h'
    cases x1 <;> simp only [drawOn, Option.some.injEq, Prod.mk.injEq, reduceCtorEq, false_and] at h2
    · simp only [Option.bind_eq_some_iff, Option.some.injEq] at h2
      obtain ⟨q, hq, h2⟩ := h2
      obtain ⟨qx, qa, qs, ql⟩ := q
      simp only [Prod.mk.injEq] at h2
      obtain ⟨rfl, rfl, rfl, rfl⟩ := h2
      obtain ⟨A, S, p, o2, hA0, hS0, hp, hlen, hlast, hall⟩ := opsD_pan l hq
      refine ⟨fun k => match k with | 0 => a | k + 1 => A k, fun k => match k with | 0 => s | k + 1 => S k, p + 1, o2, rfl, rfl, by simpa using hp, by simp [hlen], hlast, fun k o' hkp hk => ?_⟩
      cases k with
      | zero =>
        simp at hk
        subst hk
        refine ⟨?_, ?_⟩
        · show (op1 E ops o).run self a (fresh s) = some (.norm, A 0, S 0)
          rw [hA0, hS0]; exact h1
        · show (s1.log :: ql)[0]? = some (S 0).log
          rw [hS0]; rfl
      | succ k => exact hall k o' (by omega) (by simpa using hk)
    · obtain ⟨⟨rfl⟩, rfl, rfl, rfl⟩ := h2
      exact ⟨fun _ => a, fun _ => s, 0, o, rfl, rfl, by simp, by simp, h1, fun k o' hk => by omega⟩

/-- operations that have left no deferred call have made something -/
theorem made_of_op1 {A : Nat → Ac} {S : Nat → St} {m : Nat} (h : ∀ k, k < m → ∃ o, ops[k]? = some o ∧ (op1 E ops o).run self (A k) (fresh (S k)) = some (.norm, A (k + 1), S (k + 1))) (hd : (A m).defers.length = (A 0).defers.length) :
    ∀ k, k < m → ∃ o v, ops[k]? = some o ∧ Made E ops o self (A k) (fresh (S k)) v (S (k + 1)) ∧ (putF o.dst).run (A k) v = some (A (k + 1)) := by
  have step : ∀ k, k < m → ∃ o, ops[k]? = some o ∧ ((∃ v, Made E ops o self (A k) (fresh (S k)) v (S (k + 1)) ∧ (putF o.dst).run (A k) v = some (A (k + 1)) ∧ (A (k + 1)).defers.length = (A k).defers.length) ∨ (A (k + 1)).defers.length = (A k).defers.length + 1) := fun k hk => by
    obtain ⟨o, ho, hr⟩ := h k hk
    refine ⟨o, ho, ?_⟩
    rcases op1_inv hr with ⟨_, v, hm, hp⟩ | ⟨_, _, hw, d, hd, hp⟩ | ⟨v, hx, _⟩
    · exact .inl ⟨v, hm, hp, by rw [(putF_get hp).2.1]⟩
    · exact .inr (by rw [(putF_get hp).2.1]; rfl)
    · cases hx
  have mono : ∀ j, j ≤ m → ∀ i, i ≤ j → (A i).defers.length ≤ (A j).defers.length := fun j => by
    induction j with
    | zero => intro _ i hi; rw [show i = 0 by omega]; exact Nat.le_refl _
    | succ j ih =>
      intro hj i hi
      by_cases e : i = j + 1
      · rw [e]; exact Nat.le_refl _
      · have h1 := ih (by omega) i (by omega)
        obtain ⟨o, _, ⟨v, _, _, h2⟩ | h2⟩ := step j (by omega) <;> omega
  intro k hk
  obtain ⟨o, ho, ⟨v, h1, h2, _⟩ | h2⟩ := step k hk
  · exact ⟨o, v, ho, h1, h2⟩
  · have := mono m (Nat.le_refl _) (k + 1) (by omega)
    have := mono k (by omega) 0 (by omega)
    omega

/-- an operation that ends well ends somewhere -/
theorem wpOp_exists {i : Nat} {K : Act → World → Prop} {ca : Act} {w : World} (h : wpOpIn (fenceAt none) 0 P ops (fun _ _ _ => False) i K ca w) : ∃ ca' w', K ca' w' := by
  unfold wpOpIn at h
  split at h
  · exact ⟨_, _, h⟩
  · split at h
    · have h2 := h.2
      clear h
      unfold Oper.uponIn at h2
      split at h2
      all_goals try exact h2.elim
      all_goals try exact ⟨_, _, h2⟩
      · obtain ⟨e, w', fr, hR, _⟩ := h2.2.2 [] (fun d hd => by cases hd)
        cases e with
        | returned v => exact ⟨_, _, hR⟩
        | panicked c => exact hR.elim
        | outgrown => obtain ⟨_, _, hf⟩ := hR; exact hf.elim
      · obtain ⟨v, w', hR, _⟩ := h2.2 default [] (fun d hd => by cases hd)
        exact ⟨_, _, hR⟩
      · obtain ⟨e, w', hR, _⟩ := h2.2.2 default [] (fun d hd => by cases hd)
        cases e with
        | returned v => exact ⟨_, _, hR⟩
        | panicked c => exact hR.elim
        | outgrown => obtain ⟨_, _, hf⟩ := hR; exact hf.elim
    · exact ⟨_, _, h.2⟩

theorem text_sim (hE : EnvOk P E) (hs : EVSim P E self) {A : Nat → Ac} {S : Nat → St} {m : Nat} (h : ∀ k, k < m → ∃ o v, ops[k]? = some o ∧ Made E ops o self (A k) (fresh (S k)) v (S (k + 1)) ∧ (putF o.dst).run (A k) v = some (A (k + 1)))
    {ρ : Rho} {w : World} {ca : Act} (hR : Rel E w0 ρ (S 0) w) (hA : ARel ρ (A 0) ca) : ∀ j, j ≤ m → ∃ ρt wt cat, Rel E w0 ρt (S j) wt ∧ ARel ρt (A j) cat
  | 0, _ => ⟨ρ, w, ca, hR, hA⟩
  | j + 1, hj => by
    obtain ⟨ρt, wt, cat, Rt, At⟩ := text_sim hE hs h hR hA j (by omega)
    obtain ⟨o, v, ho, hm, hp⟩ := h j (by omega)
    have Rt' : Rel E w0 ρt (fresh (S j)) wt := Rt.congr rfl rfl
    obtain ⟨ca', w', ρ', h1, h2⟩ := wpOp_exists (made_sim (K := fun ca' w' => ∃ ρ', ARel ρ' (A (j + 1)) ca' ∧ Rel E w0 ρ' (S (j + 1)) w') (Q := fun _ _ _ => False) hE hs ho Rt' At hm none fun ρ' cv w' hle hv hR' =>
      ⟨ρ', (put_sim (At.mono hle) hp hv).1, hR'⟩)
    exact ⟨ρ', w', ca', h2, h1⟩

/-! ### every order -/

def doneIn (listed : Array Bool) : Nat → Prop := fun k => listed.getD k false = true
/-- what is done, below a place -/
def doneB (m : Nat) (listed : Array Bool) : Nat → Prop := fun k => k < m ∧ doneIn listed k
theorem doneIn_set {listed : Array Bool} {j : Nat} (hj : j < listed.size) : doneIn (listed.setIfInBounds j true) = with1 (doneIn listed) j := by
  funext k
  unfold doneIn with1
  apply propext
  by_cases e : k = j
  · subst e
    simp [hj]
  · have : j ≠ k := fun h => e h.symm
    simp [e, Array.getElem?_setIfInBounds_ne this]
theorem doneB_set {m : Nat} {listed : Array Bool} {j : Nat} (hj : j < listed.size) (hm : j < m) : doneB m (listed.setIfInBounds j true) = with1 (doneB m listed) j := by
  funext k
  unfold doneB
  rw [doneIn_set hj]
  unfold with1
  apply propext
  refine ⟨fun ⟨h1, h2⟩ => h2.imp id fun h => ⟨h1, h⟩, fun h => ?_⟩
  rcases h with h | h
  · exact ⟨by omega, .inl h⟩
  · exact ⟨h.1, .inr h.2⟩
theorem doneB_out {m : Nat} {listed : Array Bool} {j : Nat} (hj : j < listed.size) (hm : m ≤ j) : doneB m (listed.setIfInBounds j true) = doneB m listed := by
  funext k
  unfold doneB
  rw [doneIn_set hj]
  unfold with1
  apply propext
  refine ⟨fun ⟨h1, h2⟩ => ⟨h1, h2.resolve_left (by omega)⟩, fun h => ⟨h.1, .inr h.2⟩⟩

theorem Lw_none {β : Type} {f : Nat → β} {wrt D : Nat → Prop} (h : ∀ k, ¬ D k) (m : Nat) : Lw f wrt D m = f 0 := Lw_later (j := 0) m (Nat.zero_le _) fun k _ _ hd => absurd hd (h k)

theorem every {rd : Option Nat} {A : Nat → Ac} {S : Nat → St} {m : Nat} {ρ0 : Rho} (T : Text P E w0 ops self A S m ρ0) {Q : Exit → Act → World → Prop} {Z : Nat → Prop} (hm : m ≤ ops.size)
    (hZ : ∀ k o, k < m → ops[k]? = some o → ∀ t ∈ looks ops o, ¬ Z t)
    (hend : m = ops.size → ∀ D ρ ca w, (∀ k, k < m → D k) → Inv E w0 ops A S m ρ0 Z D ρ ca w → Q .normal ca w)
    (hpan : m < ops.size → ∀ D ρ ca w K, (∀ k, k < m → (bef ops m).testBit k = true → D k) → Inv E w0 ops A S m ρ0 Z D ρ ca w → wpOpIn (fenceAt rd) 0 P ops Q m K ca w)
    (hord : m < ops.size → ∀ j o, ops[j]? = some o → m < j → (bef ops j).testBit m = false → allocOk E o = true ∧ ∀ t, o.dst = some t → Z t) :
    ∀ (fuel : Nat) (listed : Array Bool) (ρ : Rho) (ca : Act) (w : World), listed.size = ops.size → Closed ops (doneIn listed) → ¬ doneIn listed m → listed.toList.countP (fun b => !b) ≤ fuel →
      Inv E w0 ops A S m ρ0 Z (doneB m listed) ρ ca w → wpAnyIn (fenceAt rd) 0 P .any ops Q fuel listed ca w := by
  -- where nothing may come next all is done
  have none_left : ∀ (listed : Array Bool), listed.size = ops.size → ¬ doneIn listed m → Region.ready .any ops listed = [] → m = ops.size ∧ ∀ k, k < m → doneB m listed k := fun listed hsz hb hr => by
    have all : ∀ k, k < ops.size → doneIn listed k := by
      intro k
      induction k using Nat.strongRecOn with
      | _ k ih =>
        intro hk
        refine Classical.byContradiction fun hn => ?_
        have hmem : k ∈ Region.ready .any ops listed := by
          rw [mem_ready]
          refine ⟨?_, ops[k], Array.getElem?_eq_getElem hk, fun e he hbind => ?_⟩
          · unfold doneIn at hn
            have hlt : k < listed.size := by omega
            simp only [Array.getD_eq_getD_getElem?, Array.getElem?_eq_getElem hlt, Option.getD_some] at hn ⊢
            simpa using hn
          · have hlt := T.plan.back k ops[k] (Array.getElem?_eq_getElem hk) e he hbind
            exact ih e.on hlt (by omega)
        rw [hr] at hmem
        cases hmem
    have hge : ops.size ≤ m := by
      rcases Nat.lt_or_ge m ops.size with h | h
      · exact absurd (all m h) hb
      · exact h
    exact ⟨by omega, fun k hk => ⟨hk, all k (by omega)⟩⟩
  have closedB : ∀ (listed : Array Bool), Closed ops (doneIn listed) → Closed ops (doneB m listed) := fun listed hc k hk o ho e he hbind =>
    ⟨Nat.lt_trans (T.plan.back k o ho e he hbind) hk.1, hc k hk.2 o ho e he hbind⟩
  intro fuel
  induction fuel with
  | zero =>
    intro listed ρ ca w hsz hc hb hcnt I
    have hr : Region.ready .any ops listed = [] := by
      cases hr : Region.ready .any ops listed with
      | nil => rfl
      | cons j rest =>
        exfalso
        have hj : j ∈ Region.ready .any ops listed := by rw [hr]; exact List.mem_cons_self ..
        obtain ⟨h0, o, ho, _⟩ := mem_ready.1 hj
        have hlt : j < listed.size := by rw [hsz]; exact (Array.getElem?_eq_some_iff.1 ho).1
        have hv : listed.toList[j]? = some false := by
          simp only [Array.getD_eq_getD_getElem?, Array.getElem?_eq_getElem hlt, Option.getD_some] at h0
          simp [Array.getElem?_eq_getElem hlt, h0]
        have : 0 < listed.toList.countP (fun b => !b) := List.countP_pos_iff.2 ⟨false, List.mem_of_getElem? hv, rfl⟩
        omega
    obtain ⟨h1, h2⟩ := none_left listed hsz hb hr
    exact ⟨hr, hend h1 _ ρ ca w h2 I⟩
  | succ fuel ih =>
    intro listed ρ ca w hsz hc hb hcnt I
    refine ⟨fun hr => ?_, fun j hj => ?_⟩
    · obtain ⟨h1, h2⟩ := none_left listed hsz hb hr
      exact hend h1 _ ρ ca w h2 I
    · obtain ⟨h0, o, ho, hall⟩ := mem_ready.1 hj
      have hjn : j < ops.size := (Array.getElem?_eq_some_iff.1 ho).1
      have hlt : j < listed.size := by rw [hsz]; exact hjn
      have hfalse : listed[j] = false := by simpa [hlt] using h0
      have hnot : ¬ doneIn listed j := by unfold doneIn; simp [hlt, hfalse]
      have hahead : ∀ o', ops[j]? = some o' → ∀ e ∈ o'.after, Region.binds .any e = true → doneIn listed e.on := fun o' ho' e he hbind => by
        rw [ho] at ho'; simp only [Option.some.injEq] at ho'; subst ho'
        exact hall e he hbind
      have hclosed' : Closed ops (doneIn (listed.setIfInBounds j true)) := by
        rw [doneIn_set hlt]
        intro k hk o' ho' e he hbind
        rcases hk with hk | hk
        · subst hk; exact .inr (hahead o' ho' e he hbind)
        · exact .inr (hc k hk o' ho' e he hbind)
      have hcnt' : (listed.setIfInBounds j true).toList.countP (fun b => !b) ≤ fuel := by
        rw [Array.toList_setIfInBounds]
        have hl : j < listed.toList.length := by simpa using hlt
        rw [List.countP_set hl]
        have : listed.toList[j] = false := by simpa using hfalse
        simp only [this, Bool.not_false, if_true, Bool.not_true, Bool.false_eq_true, if_false]
        omega
      have hb' : j ≠ m → ¬ doneIn (listed.setIfInBounds j true) m := fun hne => by
        rw [doneIn_set hlt]
        exact fun h => h.elim (fun e => hne e.symm) hb
      rcases Nat.lt_trichotomy j m with hjm | hjm | hjm
      · refine T.step ⟨hjm, fun h => hnot h.2, closedB listed hc, fun o' ho' e he hbind => ⟨Nat.lt_trans (T.plan.back j o' ho' e he hbind) hjm, hahead o' ho' e he hbind⟩, fun k hk => hk.1⟩ I (fun o' ho' => hZ j o' hjm ho') rd fun ρ' ca' w' I' => ?_
        rw [← doneB_set hlt hjm] at I'
        exact ih _ ρ' ca' w' (by simp [hsz]) hclosed' (hb' (by omega)) hcnt' I'
      · subst hjm
        refine hpan hjn _ ρ ca w _ (fun k hk h => ⟨hk, ?_⟩) I
        exact closed_bef T.plan.back hc j o ho (hahead o ho) h
      · have hmn : m < ops.size := by omega
        cases hbit : (bef ops j).testBit m with
        | true => exact absurd (closed_bef T.plan.back hc j o ho (hahead o ho) hbit) hb
        | false =>
          obtain ⟨h1, h2⟩ := hord hmn j o ho hjm hbit
          refine T.extra ho h1 h2 I rd fun ca' w' I' => ?_
          rw [← doneB_out hlt (Nat.le_of_lt hjm)] at I'
          exact ih _ ρ ca' w' (by simp [hsz]) hclosed' (hb' (by omega)) hcnt' I'

theorem bef_alloc {o : Oper} {j : Nat} (hb : EdgesBack ops) (ho : ops[j]? = some o) (h : allocOk E o = true) (i : Nat) : (bef ops j).testBit i = false := by
  cases hbit : (bef ops j).testBit i with
  | false => rfl
  | true =>
    obtain ⟨e, he, _⟩ := bef_bit hb ho hbit
    unfold allocOk at h
    split at h
    · simp only [Bool.and_eq_true] at h
      have hnil := h.1.2
      rw [List.isEmpty_iff] at hnil
      have : e ∈ o.after.toList := by simpa using he
      rw [hnil] at this; cases this
    · cases h

theorem panBy_congr {o : Oper} {a a2 : Ac} {s s' : St} {v : V} (h : ∀ t ∈ looks ops o, a2.tmps.get t = a.tmps.get t) (hp : PanBy E o self a s v s') : PanBy E o self a2 s v s' := by
  have ho : (opF E o.op).run a2 s = (opF E o.op).run a s := opF_congr fun x hx => evO_congr fun t ht => h t (looks_op (ht ▸ hx))
  unfold PanBy at hp ⊢
  rw [ho]; exact hp

/-- a region that draws its order comes to what the text's order comes to -/
theorem drawn_sim (hE : EnvOk P E) (hs : EVSim P E self) (hl : EVLoc self) {rd : Option Nat} {id : Nat} {ρ : Rho} {s : St} {w : World} {a : Ac} {ca : Act} (hR : Rel E w0 ρ s w) (hA : ARel ρ a ca) {x : X} {a' : Ac} {s' : St}
    (h : drawnC (planOf E ops) (opsD E ops ops.toList) self a s = some (x, a', s')) : (Code.region id ops true).wpIn (fenceAt rd) 0 P (XSim E w0 ρ a' s' x) ca w := by
  unfold drawnC at h
  cases hok : (planOf E ops).ok with
  | false => rw [hok] at h; cases h
  | true =>
  rw [hok] at h
  simp only [cond_true, Option.bind_eq_some_iff] at h
  obtain ⟨q, hq, h⟩ := h
  have hplan := plan_ok hok
  have hheap : ∀ (u u' : St) ls, (relog u u' ls).heap = u'.heap ∧ (relog u u' ls).next = u'.next := fun u u' ls => by unfold relog; cases u.on <;> exact ⟨rfl, rfl⟩
  refine wpIn_region_any hE.mixed ?_
  have hRd := hR.drew (w.drawn + 1)
  -- what is common to both ends
  have start : ∀ (A : Nat → Ac) (S : Nat → St) (m : Nat) (logs : List (List LE)), A 0 = a → S 0 = s → m ≤ ops.size → pairsOk logs (planOf E ops).prs = true →
      (∀ (k : Nat) (o : Oper), k < m → ops[k]? = some o → (op1 E ops o).run self (A k) (fresh (S k)) = some (.norm, A (k + 1), S (k + 1)) ∧ logs[k]? = some (S (k + 1)).log) → (A m).defers.length = (A 0).defers.length →
      Text P E w0 ops self A S m ρ ∧ ∀ Z, Inv E w0 ops A S m ρ Z (doneB m (Array.replicate ops.size false)) ρ ca { w with drawn := w.drawn + 1 } := by
    intro A S m logs hA0 hS0 hm hpairs hall hdef
    have hmade := made_of_op1 (A := A) (S := S) (m := m) (fun k hk => ⟨ops[k], Array.getElem?_eq_getElem (by omega), (hall k ops[k] hk (Array.getElem?_eq_getElem (by omega))).1⟩) hdef
    have hzero : ∀ b x, ρ b = some x → b < (S 0).next := fun b x hx => by
      rcases Nat.lt_or_ge b (S 0).next with h | h
      · exact h
      · rw [hR.dom b (.inl (by rw [← hS0]; exact h))] at hx; cases hx
    have hlog : ∀ k, k < m → logs.getD k [] = (S (k + 1)).log := fun k hk => by
      rw [List.getD_eq_getElem?_getD, (hall k ops[k] hk (Array.getElem?_eq_getElem (by omega))).2]; rfl
    have T : Text P E w0 ops self A S m ρ := by
      refine ⟨hE, hs, hl, hplan, hmade, fun i j hij hj hbit b => ?_, hzero, by rw [hS0]; exact hR.lo, text_sim hE hs hmade (ρ := ρ) (w := w) (ca := ca) (by rw [hS0]; exact hR) (by rw [hA0]; exact hA)⟩
      obtain ⟨oi, vi, hoi, hmi, _⟩ := hmade i (by omega)
      obtain ⟨oj, vj, hoj, hmj, _⟩ := hmade j hj
      cases hsi : silent oi.op with
      | true =>
        have := made_silent hsi hmi
        have hno : ∀ b, ¬ fp S i b := fun b ⟨e, he, _⟩ => by rw [this] at he; cases he
        exact ⟨fun hh => hno b (fp_of_wr hh.1), fun hh => hno b hh.1⟩
      | false =>
        cases hsj : silent oj.op with
        | true =>
          have := made_silent hsj hmj
          have hno : ∀ b, ¬ fp S j b := fun b ⟨e, he, _⟩ => by rw [this] at he; cases he
          exact ⟨fun hh => hno b hh.2, fun hh => hno b (fp_of_wr hh.2)⟩
        | false =>
          have hp := plan_pairs hpairs hij hoi hoj hbit hsi hsj
          rw [hlog i (by omega), hlog j hj] at hp
          refine ⟨fun ⟨⟨e, he, hb, hw⟩, ⟨f, hf, hb2⟩⟩ => ?_, fun ⟨⟨e, he, hb⟩, ⟨f, hf, hb2, hw⟩⟩ => ?_⟩
          · have := (hp e he f hf (hb.trans hb2.symm)).1; rw [hw] at this; cases this
          · have := (hp e he f hf (hb.trans hb2.symm)).2; rw [hw] at this; cases this
    have hno : ∀ k, ¬ doneB m (Array.replicate ops.size false) k := fun k => by
      unfold doneB doneIn
      refine fun hk => absurd hk.2 ?_
      simp only [Array.getD_eq_getD_getElem?, Array.getElem?_replicate]
      split <;> simp
    have hH : ∀ b, HS S (doneB m (Array.replicate ops.size false)) m b = s.heap.get b := fun b => by
      unfold HS
      rw [Lw_none hno, hS0]
    have hT : ∀ t, TS ops A (doneB m (Array.replicate ops.size false)) m t = a.tmps.get t := fun t => by
      unfold TS
      rw [Lw_none hno, hA0]
    refine ⟨T, fun Z => ⟨Rho.le_refl ρ, hRd.below, fun b hb => ?_, fun b o ho => ?_, fun b b' o o' cb sh sz sh' sz' h1 h2 => ?_, hRd.glob, by rw [hA.n, hA0], fun t v _ ht => ?_, by rw [hA0]; exact hA.defers⟩⟩
    · have h0m := T.next_le (i := 0) m (Nat.zero_le _) (Nat.le_refl _)
      rcases hb with hb | hb | ⟨k, hk, _, h1, _⟩
      · exact hR.dom b (.inl (by rw [← hS0]; omega))
      · exact hR.dom b (.inr hb)
      · have := T.next_le (i := 0) k (Nat.zero_le _) (Nat.le_of_lt hk)
        exact hR.dom b (.inl (by rw [← hS0]; omega))
    · rw [hH] at ho; exact hRd.obj b o ho
    · rw [hH] at h1 h2; exact hRd.sep b b' o o' cb sh sz sh' sz' h1 h2
    · rw [hT] at ht; exact hA.tmp t v ht
  -- what a full state says
  have full : ∀ {A : Nat → Ac} {S : Nat → St} {m : Nat}, S 0 = s → A 0 = a → Text P E w0 ops self A S m ρ → ∀ {D : Nat → Prop} {ρ' : Rho} {ca' : Act} {w' : World}, (∀ k, k < m → D k) → Inv E w0 ops A S m ρ (fun _ => False) D ρ' ca' w' →
      ρ.le ρ' ∧ ARel ρ' (A m) ca' ∧ Rel E w0 ρ' (S m) w' := by
    intro A S m hS0 hA0 T D ρ' ca' w' hD I
    refine ⟨I.le, ⟨by rw [I.n, (T.an m (Nat.le_refl _)).1], fun t v ht => I.tmp t v (fun h => h) (by rw [T.T_all hD]; exact ht), by rw [(T.an m (Nat.le_refl _)).2]; exact I.defers.mono I.le⟩, ⟨I.keep, fun b hb => I.dom b (hb.imp (fun h => h) .inl), ?_, fun b o ho => I.obj b o (by rw [T.H_all hD]; exact ho), fun b b' o o' cb sh sz sh' sz' h1 h2 => I.sep b b' o o' cb sh sz sh' sz' (by rw [T.H_all hD]; exact h1) (by rw [T.H_all hD]; exact h2), I.glob⟩⟩
    exact Nat.le_trans T.lo (T.next_le (i := 0) m (Nat.zero_le _) (Nat.le_refl _))
  have cnt : (Array.replicate ops.size false).toList.countP (fun b => !b) ≤ ops.size := by
    refine Nat.le_trans (List.countP_le_length ..) ?_
    simp
  have hclosed : Closed ops (doneIn (Array.replicate ops.size false)) := fun k hk => by
    exfalso
    unfold doneIn at hk
    simp only [Array.getD_eq_getD_getElem?, Array.getElem?_replicate] at hk
    split at hk <;> simp at hk
  have hnone : ∀ (m : Nat), ¬ doneIn (Array.replicate ops.size false) m := fun m hk => by
    unfold doneIn at hk
    simp only [Array.getD_eq_getD_getElem?, Array.getElem?_replicate] at hk
    split at hk <;> simp at hk
  obtain ⟨qx, qa, qs, logs⟩ := q
  unfold drawnEnd at h
  cases qx <;> simp only [reduceCtorEq] at h
  · -- all ends well
    cases hc : (pairsOk logs (planOf E ops).prs && Nat.beq qa.defers.length a.defers.length) with
    | false => rw [hc] at h; cases h
    | true =>
    rw [hc] at h
    simp only [cond_true, Option.some.injEq, Prod.mk.injEq] at h
    obtain ⟨rfl, rfl, rfl⟩ := h
    simp only [Bool.and_eq_true] at hc
    obtain ⟨A, S, hA0, hS0, hAn, hSn, hall⟩ := opsD_norm ops.toList hq
    rw [Array.length_toList] at hAn hSn
    obtain ⟨T, I⟩ := start A S ops.size logs hA0 hS0 (Nat.le_refl _) hc.1 (fun k o _ ho => hall k o (by simpa using ho)) (by rw [hAn, hA0]; exact Nat.eq_of_beq_eq_true hc.2)
    refine every T (Z := fun _ => False) (Nat.le_refl _) (fun _ _ _ _ _ _ h => h) (fun _ D ρ' ca' w' hD I' => ?_) (fun h => by omega) (fun h => by omega) _ _ ρ ca _ (by simp) hclosed (hnone _) cnt (I _)
    obtain ⟨h1, h2, h3⟩ := full hS0 hA0 T hD I'
    rw [hAn] at h2
    rw [hSn] at h3
    exact ⟨rfl, ρ', h1, h2, h3.congr (hheap s qs logs).1 (hheap s qs logs).2⟩
  · -- a panic
    rename_i v
    cases hc : (pairsOk logs (planOf E ops).prs && Nat.beq qa.defers.length a.defers.length) with
    | false => rw [hc] at h; cases h
    | true =>
    rw [hc] at h
    simp only [cond_true, Option.bind_eq_some_iff, Option.some.injEq, Prod.mk.injEq] at h
    obtain ⟨a1, hpin, rfl, rfl, rfl⟩ := h
    simp only [Bool.and_eq_true] at hc
    obtain ⟨A, S, p, o, hA0, hS0, hp, hlen, hlast, hall⟩ := opsD_pan ops.toList hq
    have hp' : ops[p]? = some o := by simpa using hp
    have hpn : p < ops.size := (Array.getElem?_eq_some_iff.1 hp').1
    have hlp : logs.length - 1 = p := by omega
    rw [hlp] at hpin
    rcases op1_inv hlast with ⟨hx, _⟩ | ⟨hx, _⟩ | ⟨v', hx, rfl, hw, hcase⟩
    · cases hx
    · cases hx
    simp only [X.pan.injEq] at hx
    subst hx
    obtain ⟨T, I⟩ := start A S p logs hA0 hS0 (Nat.le_of_lt hpn) hc.1 (fun k o hk ho => hall k o hk (by simpa using ho)) (by rw [hA0]; exact Nat.eq_of_beq_eq_true hc.2)
    obtain ⟨hpl, hn1, hd1, hr1, ht1⟩ := plan_pinned hp' hpin
    -- operations behind it that are not ordered make new memory alone
    have behind : ∀ j x, ops[j]? = some x → p < j → (bef ops j).testBit p = false → allocOk E x = true := fun j x hx hj hbit => by
      rcases hpl j x hx (by omega) with h | h | ⟨h, _⟩ | ⟨_, h⟩
      · have := bef_lt T.plan.back p o hp' h; omega
      · rw [hbit] at h; cases h
      · omega
      · exact h
    have apart : ∀ k ok j x, ops[k]? = some ok → k ≤ p → ops[j]? = some x → p < j → (bef ops j).testBit p = false → ∀ t, x.dst = some t → t ∉ looks ops ok := fun k ok j x hk hkp hx hj hbit t ht =>
      (apartN_spec (T.plan.tmps k j ok x (by omega) hk hx (bef_alloc T.plan.back hx (behind j x hx hj hbit) k))).2 t ht
    refine every T (Z := fun t => ∃ j x, ops[j]? = some x ∧ p < j ∧ (bef ops j).testBit p = false ∧ x.dst = some t) (Nat.le_of_lt hpn)
      (fun k ok hk hok t ht ⟨j, x, hx, hj, hbit, hd⟩ => apart k ok j x hok (Nat.le_of_lt hk) hx hj hbit t hd ht) (fun h => by omega) (fun _ D ρ' ca' w' K hD I' => ?_)
      (fun _ j x hx hj hbit => ⟨behind j x hx hj hbit, fun t ht => ⟨j, x, hx, hj, hbit, ht⟩⟩) _ _ ρ ca _ (by simp) hclosed (hnone _) cnt (I _)
    have hH : ∀ b, HS S D p b = (S p).heap.get b := fun b => Lw_eq (fun _ hk hw => (T.grows hk).2 b hw) p (Nat.le_refl _) fun k hk hw => by
      have hkn : k < ops.size := by omega
      rcases hpl k ops[k] (Array.getElem?_eq_getElem hkn) (by omega) with h | h | ⟨_, h⟩ | ⟨h, _⟩
      · exact hD k hk h
      · have := bef_lt T.plan.back k ops[k] (Array.getElem?_eq_getElem hkn) h; omega
      · exfalso
        rw [List.getD_eq_getElem?_getD, (hall k ops[k] hk (by simp [hkn])).2] at h
        obtain ⟨e, he, _, hew⟩ := hw
        have := noW_spec h e he
        rw [hew] at this; cases this
      · omega
    have hT : ∀ t, (∀ j x, ops[j]? = some x → j < p → (bef ops p).testBit j = false → x.dst ≠ some t) → TS ops A D p t = (A p).tmps.get t := fun t ht => Lw_eq (fun _ hk hw => (T.tmps hk).2.2 t hw) p (Nat.le_refl _) fun k hk hw => by
      have hkn : k < ops.size := by omega
      cases hbit : (bef ops p).testBit k with
      | true => exact hD k hk hbit
      | false =>
        unfold dstOf at hw
        rw [Array.getElem?_eq_getElem hkn] at hw
        exact absurd hw (ht k ops[k] (Array.getElem?_eq_getElem hkn) hk hbit)
    have h3 : Rel E w0 ρ' (S p) w' := ⟨I'.keep, fun b hb => I'.dom b (hb.imp (fun h => h) .inl), Nat.le_trans T.lo (T.next_le (i := 0) p (Nat.zero_le _) (Nat.le_refl _)), fun b o ho => I'.obj b o (by rw [hH]; exact ho),
      fun b b' o o' cb sh sz sh' sz' h1 h2 => I'.sep b b' o o' cb sh sz sh' sz' (by rw [hH]; exact h1) (by rw [hH]; exact h2), I'.glob⟩
    have h3' : Rel E w0 ρ' (fresh (S p)) w' := h3.congr rfl rfl
    have hdef : DRels ρ' (A p).defers ca'.defers := by rw [(T.an p (Nat.le_refl _)).2]; exact I'.defers.mono I'.le
    have hn : ca'.tmps.size = (A p).n := by rw [I'.n, (T.an p (Nat.le_refl _)).1]
    -- what is told of the temporaries
    have h2 : ARel ρ' a1 ca' := by
      refine ⟨by rw [hn, hn1], fun t v ht => ?_, by rw [hd1]; exact hdef⟩
      obtain ⟨e1, e2⟩ := ht1 t v ht
      refine I'.tmp t v (fun ⟨j, x, hx, hj, hbit, hd⟩ => ?_) ?_
      · refine e2 j x hx (by omega) ?_ hbit hd
        cases hb : (bef ops p).testBit j with
        | false => rfl
        | true => have := bef_lt T.plan.back p o hp' hb; omega
      · rw [hT t fun j x hx hj hbit => e2 j x hx (by omega) hbit ?_]
        · exact e1
        · cases hb : (bef ops j).testBit p with
          | false => rfl
          | true => have := bef_lt T.plan.back j x hx hb; omega
    -- what the operation looks at
    obtain ⟨tt, htt⟩ := Tr.part (A p).tmps (looks ops o)
    let a2 : Ac := { tmps := tt, n := (A p).n, defers := (A p).defers, round := none }
    have hag : ∀ t ∈ looks ops o, a2.tmps.get t = (A p).tmps.get t := fun t ht => by show tt.get t = _; rw [htt, if_pos ht]
    have h2' : ARel ρ' a2 ca' := by
      refine ⟨hn, fun t v ht => ?_, hdef⟩
      have ht' : tt.get t = some v := ht
      rw [htt] at ht'
      by_cases hl : t ∈ looks ops o
      · rw [if_pos hl] at ht'
        refine I'.tmp t v (fun ⟨j, x, hx, hj, hbit, hd⟩ => apart p o j x hp' (Nat.le_refl _) hx hj hbit t hd hl) ?_
        rw [hT t fun j x hx hj hbit hd => ((apartN_spec (T.plan.tmps j p x o hj hx hp' hbit)).1 t hd).1 hl]
        exact ht'
      · rw [if_neg hl] at ht'; cases ht'
    refine pan_sim hE hs hp' h3' h2' ((wantF_congr (a := A p) (a2 := a2) rfl hag).trans hw) (panBy_congr hag hcase) rd fun ρ2 cv w2 hle hv hR2 => ?_
    exact ⟨ρ2, cv, rfl, Rho.le_trans I'.le hle, hv, h2.mono hle, hR2.congr (hheap s qs logs).1 (hheap s qs logs).2⟩
end
end Go.Proofs.YtjaibhpfhdmikacGreatDoor.Ev

/-
  CODE, CALLS AND DEFERRED CALLS: what the evaluator says of a function holds of the model's call, whatever the tape.
-/
namespace Go.Proofs.YtjaibhpfhdmikacGreatDoor.Ev
open Go.RowKit

section
variable {P : Program} {E : Env} {w0 : Base} {self : EV}

/-! ### the round that a frame is of -/

def Rnd (ρ : Rho) (r rd : Option Nat) : Prop :=
  match r with
  | none => rd = none
  | some l => ∃ cl sh sz, ρ l = some (cl, sh, sz) ∧ rd = some cl
theorem Rnd.mono {ρ ρ' : Rho} (hle : ρ.le ρ') {r rd : Option Nat} (h : Rnd ρ r rd) : Rnd ρ' r rd := by
  cases r with
  | none => exact h
  | some l => obtain ⟨cl, sh, sz, h1, h2⟩ := h; exact ⟨cl, sh, sz, hle _ _ h1, h2⟩
theorem Rnd.none {ρ : Rho} {r rd : Option Nat} (h : Rnd ρ r rd) : r = none → rd = none := fun e => by subst e; exact h

theorem opsL_round {ops : Array Oper} : ∀ (l : List Oper) {a : Ac} {s : St} {x : X} {a' : Ac} {s' : St}, (opsL E ops l).run self a s = some (x, a', s') → a'.round = a.round
  | [], a, s, x, a', s', h => by
    have h' : some (X.norm, a, s) = some (x, a', s') := h
    simp only [Option.some.injEq, Prod.mk.injEq] at h'
    rw [h'.2.1]
  | o :: l, a, s, x, a', s', h => by
    have h' : ((op1 E ops o).run self a s).bind (seqOn (opsL E ops l) self) = some (x, a', s') := h
    simp only [Option.bind_eq_some_iff, Prod.exists] at h'
    obtain ⟨x1, a1, s1, h1, h2⟩ := h'
    have r1 := op1_round h1
    cases x1 with
    | norm => exact (opsL_round l h2).trans r1
    | _ => simp only [seqOn, Option.some.injEq, Prod.mk.injEq] at h2; rw [← h2.2.1]; exact r1
theorem opsD_round {ops : Array Oper} : ∀ (l : List Oper) {a : Ac} {s : St} {x : X} {a' : Ac} {s' : St} {ls : List (List LE)}, (opsD E ops l).run self a s = some (x, a', s', ls) → a'.round = a.round
  | [], a, s, x, a', s', ls, h => by
    have h' : some (X.norm, a, s, []) = some (x, a', s', ls) := h
    simp only [Option.some.injEq, Prod.mk.injEq] at h'
    rw [h'.2.1]
  | o :: l, a, s, x, a', s', ls, h => by
    have h' : ((op1 E ops o).run self a (fresh s)).bind (drawOn (opsD E ops l) self) = some (x, a', s', ls) := h
    simp only [Option.bind_eq_some_iff, Prod.exists] at h'
    obtain ⟨x1, a1, s1, h1, h2⟩ := h'
    have r1 := op1_round h1
    cases x1 with
    | norm =>
      simp only [drawOn, Option.bind_eq_some_iff, Option.some.injEq] at h2
      obtain ⟨q, hq, h2⟩ := h2
      obtain ⟨qx, qa, qs, ql⟩ := q
      simp only [Prod.mk.injEq] at h2
      rw [← h2.2.1]
      exact (opsD_round l hq).trans r1
    | _ => simp only [drawOn, Option.some.injEq, Prod.mk.injEq] at h2; rw [← h2.2.1]; exact r1
theorem endLoop_act {l : Nat} {a : Ac} {s : St} {x : X} {a' : Ac} {s' : St} (h : endLoop l a s = some (x, a', s')) : a' = a := by
  unfold endLoop at h
  simp only [Option.bind_eq_some_iff] at h
  obtain ⟨p, _, h⟩ := h
  split at h
  · rename_i st pend tmps n params assign body _
    cases hb2 : Nat.beq st 2 with
    | true => rw [hb2] at h; cases h
    | false =>
      rw [hb2] at h
      simp only [cond_false] at h
      split at h <;> simp only [Option.some.injEq, Prod.mk.injEq, reduceCtorEq] at h
      all_goals exact h.2.1.symm
  · cases h
theorem rangeCall_act {l : Nat} {a : Ac} {nx : Nx} {x : X} {a' : Ac} {s' : St} (h : rangeCall self l a nx = some (x, a', s')) : a' = a := by
  cases nx <;> simp only [rangeCall, reduceCtorEq] at h
  simp only [Option.bind_eq_some_iff, Prod.exists] at h
  obtain ⟨e, s1, _, h⟩ := h
  cases e with
  | ret v => exact endLoop_act h
  | pan v => simp only [afterRange, Option.some.injEq, Prod.mk.injEq] at h; exact h.2.1.symm

theorem comp_round : ∀ (c : Code) {a : Ac} {s : St} {x : X} {a' : Ac} {s' : St}, (comp E c).run self a s = some (x, a', s') → a'.round = a.round
  | .skip, a, s, x, a', s', h => by
    have h' : some (X.norm, a, s) = some (x, a', s') := h
    simp only [Option.some.injEq, Prod.mk.injEq] at h'; rw [h'.2.1]
  | .label l, a, s, x, a', s', h => by
    have h' : some (X.norm, a, s) = some (x, a', s') := h
    simp only [Option.some.injEq, Prod.mk.injEq] at h'; rw [h'.2.1]
  | .exit id, a, s, x, a', s', h => by
    have h' : some (X.exit id, a, s) = some (x, a', s') := h
    simp only [Option.some.injEq, Prod.mk.injEq] at h'; rw [h'.2.1]
  | .ret, a, s, x, a', s', h => by
    have h' : some (X.ret, a, s) = some (x, a', s') := h
    simp only [Option.some.injEq, Prod.mk.injEq] at h'; rw [h'.2.1]
  | .region id ops false, a, s, x, a', s', h => opsL_round ops.toList h
  | .region id ops true, a, s, x, a', s', h => by
    have h' : drawnC (planOf E ops) (opsD E ops ops.toList) self a s = some (x, a', s') := h
    unfold drawnC at h'
    cases hok : (planOf E ops).ok with
    | false => rw [hok] at h'; cases h'
    | true =>
      rw [hok] at h'
      simp only [cond_true, Option.bind_eq_some_iff] at h'
      obtain ⟨q, hq, h'⟩ := h'
      obtain ⟨qx, qa, qs, ql⟩ := q
      have hr := opsD_round ops.toList hq
      unfold drawnEnd at h'
      cases qx <;> simp only [reduceCtorEq] at h'
      · cases hc : (pairsOk ql (planOf E ops).prs && Nat.beq qa.defers.length a.defers.length) with
        | false => rw [hc] at h'; cases h'
        | true => rw [hc] at h'; simp only [cond_true, Option.some.injEq, Prod.mk.injEq] at h'; rw [← h'.2.1]; exact hr
      · cases hc : (pairsOk ql (planOf E ops).prs && Nat.beq qa.defers.length a.defers.length) with
        | false => rw [hc] at h'; cases h'
        | true =>
          rw [hc] at h'
          simp only [cond_true, Option.bind_eq_some_iff, Option.some.injEq, Prod.mk.injEq] at h'
          obtain ⟨a1, hp, _, rfl, _⟩ := h'
          rw [pinned_round hp]; exact hr
  | .seq y z, a, s, x, a', s', h => by
    have h' : ((comp E y).run self a s).bind (seqOn (comp E z) self) = some (x, a', s') := h
    simp only [Option.bind_eq_some_iff, Prod.exists] at h'
    obtain ⟨x1, a1, s1, h1, h2⟩ := h'
    have r1 := comp_round y h1
    cases x1 with
    | norm => exact (comp_round z h2).trans r1
    | _ => simp only [seqOn, Option.some.injEq, Prod.mk.injEq] at h2; rw [← h2.2.1]; exact r1
  | .cond c y z, a, s, x, a', s', h => by
    have h' : condC (evF E c) (comp E y) (comp E z) self a s = some (x, a', s') := h
    unfold condC at h'
    simp only [Option.bind_eq_some_iff] at h'
    obtain ⟨v, hv, h'⟩ := h'
    cases v <;> simp only [reduceCtorEq] at h'
    rename_i b
    cases b with
    | true => exact comp_round y h'
    | false => exact comp_round z h'
  | .block id y, a, s, x, a', s', h => by
    have h' : ((comp E y).run self a s).bind (blockOn id) = some (x, a', s') := h
    simp only [Option.bind_eq_some_iff, Prod.exists] at h'
    obtain ⟨x1, a1, s1, h1, h2⟩ := h'
    have r1 := comp_round y h1
    cases x1 <;> simp only [blockOn, Option.some.injEq, Prod.mk.injEq] at h2 <;> rw [← h2.2.1] <;> exact r1
  | .loop y, a, s, x, a', s', h => by
    have key : ∀ (n : Nat) {a : Ac} {s : St}, loopC (comp E y) n self a s = some (x, a', s') → a'.round = a.round := by
      intro n
      induction n with
      | zero => intro a s h; cases h
      | succ n ih =>
        intro a s h
        have h' : ((comp E y).run self a s).bind (loopOn (loopC (comp E y) n) self) = some (x, a', s') := h
        simp only [Option.bind_eq_some_iff, Prod.exists] at h'
        obtain ⟨x1, a1, s1, h1, h2⟩ := h'
        have r1 := comp_round y h1
        cases x1 with
        | norm => exact (ih h2).trans r1
        | _ => simp only [loopOn, Option.some.injEq, Prod.mk.injEq] at h2; rw [← h2.2.1]; exact r1
    rw [show comp E (.loop y) = ⟨loopC (comp E y) rounds⟩ from rfl] at h
    generalize rounds = n at h
    exact key n h
  | .rangeFunc f ps y z, a, s, x, a', s', h => by
    have h' : rangeC E f ps.toList y z self a s = some (x, a', s') := h
    unfold rangeC at h'
    split at h'
    · simp only [Option.bind_eq_some_iff] at h'
      obtain ⟨fv, _, nx, _, h'⟩ := h'
      rw [rangeCall_act h']
    · simp only [Option.bind_eq_some_iff] at h'
      obtain ⟨p, _, h'⟩ := h'
      split at h'
      · simp only [Option.bind_eq_some_iff] at h'
        obtain ⟨fv, _, nx, _, h'⟩ := h'
        rw [rangeCall_act h']
      · cases h'
  | .scope _, _, _, _, _, _, h => by cases h
  | .goto _, _, _, _, _, _, h => by cases h
  | .refuse _, _, _, _, _, _, h => by cases h

/-! ### ranges over functions -/

theorem loop_of {ρ : Rho} {s : St} {w : World} (hR : Rel E w0 ρ s w) {l : Nat} {st : Nat} {pend : Option Code} {tmps : Tr V} {n : Nat} {params : List Nat} {assign body : Code} (h : s.heap.get l = some (.loop st pend tmps n params assign body)) {cl sh sz : Nat} (hρ : ρ l = some (cl, sh, sz)) :
    sh = 0 ∧ ∃ r, w.heap[cl]? = some (.loop r) ∧ LoopRel ρ st pend tmps n params assign body r := by
  obtain ⟨cr, sz', r, hρ', hB, hw, hm⟩ := hR.obj _ _ h
  rw [hρ] at hρ'; simp only [Option.some.injEq, Prod.mk.injEq] at hρ'; obtain ⟨rfl, rfl, rfl⟩ := hρ'
  exact ⟨rfl, r, hw, hm⟩
/-- a loop's record turns -/
theorem loop_write {ρ : Rho} {s : St} {w : World} (hR : Rel E w0 ρ s w) {l : Nat} {st st' : Nat} {pend pend' : Option Code} {tmps : Tr V} {n : Nat} {params : List Nat} {assign body : Code} (h : s.heap.get l = some (.loop st pend tmps n params assign body)) {cl sh sz : Nat} (hρ : ρ l = some (cl, sh, sz))
    {r r' : Loop} (hw : w.heap[cl]? = some (.loop r)) (hm : LoopRel ρ st' pend' tmps n params assign body r') :
    Rel E w0 ρ (setO (s.note l 0 big false) l (.loop st' pend' tmps n params assign body)) (w.putObj cl (.loop r')) := by
  have hu := upd_setObj w (.loop r') hw
  obtain ⟨cr, sz', r0, hρ', hB, hw', _⟩ := hR.obj _ _ h
  rw [hρ] at hρ'; simp only [Option.some.injEq, Prod.mk.injEq] at hρ'; obtain ⟨rfl, rfl, rfl⟩ := hρ'
  rw [setO_eq]
  have hR2 := (hR.note l 0 big false).note l 0 big true
  have hb2 : ((s.note l 0 big false).note l 0 big true).heap.get l = some (.loop st pend tmps n params assign body) := by rw [note_heap, note_heap]; exact h
  exact hR2.write hb2 rfl hρ hu ⟨cl, sz, r', hρ, hB, hu.hit, hm⟩
theorem loopSt_busy {r : Loop} (h : Nat.beq (loopSt r.state) 2 = false) : r.state ≠ .busy := fun e => by rw [e] at h; cases h
theorem loopSt_ready {r : Loop} (h : loopSt r.state = 0) : r.state = .ready := by
  cases hs : r.state <;> rw [hs] at h <;> first | rfl | (simp [loopSt] at h; done)

/-- the loop has ended -/
theorem endLoop_sim {rd : Option Nat} {ρ0 ρ : Rho} {s : St} {w : World} {a : Ac} {ca : Act} (hle : ρ0.le ρ) (hR : Rel E w0 ρ s w) (hA : ARel ρ a ca) {l cl sh sz : Nat} (hρ : ρ l = some (cl, sh, sz)) {x : X} {a' : Ac} {s' : St} (h : endLoop l a s = some (x, a', s')) (v : Value) :
    rangePost (fenceAt rd) 0 P cl (XSim E w0 ρ0 a' s' x) ca (.returned v) w := by
  unfold endLoop at h
  simp only [Option.bind_eq_some_iff, Prod.exists] at h
  obtain ⟨o, s2, hg, h⟩ := h
  obtain ⟨hb, rfl⟩ := getO_inv hg
  cases o <;> simp only [reduceCtorEq] at h
  rename_i st pend tmps n params assign body
  obtain ⟨_, r, hw, hm⟩ := loop_of hR hb hρ
  cases hst : Nat.beq st 2 with
  | true => rw [hst] at h; cases h
  | false =>
  rw [hst] at h
  simp only [cond_false] at h
  have hend : (Instr.endLoop cl).run P w = .ok pend (w.putObj cl (.loop { r with state := .exhausted })) := (run_endLoop (P := P) hw (loopSt_busy (by rw [hm.st]; exact hst))).trans (congrArg (fun p => Result.ok p _) hm.pend)
  have hR' : Rel E w0 ρ (setO (s.note l 0 big false) l (.loop 3 pend tmps n params assign body)) (w.putObj cl (.loop { r with state := .exhausted })) :=
    loop_write hR hb hρ hw ⟨rfl, hm.pend, hm.n, hm.tmp, hm.params, hm.assign, hm.body⟩
  refine ⟨_, _, hend, ?_⟩
  split at h <;> simp only [Option.some.injEq, Prod.mk.injEq, reduceCtorEq] at h
  · obtain ⟨rfl, rfl, rfl⟩ := h
    exact ⟨rfl, ρ, hle, hA, hR'⟩
  · obtain ⟨rfl, rfl, rfl⟩ := h
    exact wpIn_ret ⟨rfl, ρ, hle, hA, hR'⟩
  · obtain ⟨rfl, rfl, rfl⟩ := h
    exact wpIn_exit ⟨rfl, ρ, hle, hA, hR'⟩

/-- the one call of a range over a function -/
theorem rangeCall_sim (hE : EnvOk P E) (hs : EVSim P E self) {rd : Option Nat} {ρ0 ρ : Rho} {s : St} {w : World} {a : Ac} {ca : Act} {fv : V} {cf : Value} {l cl sh sz : Nat} (hle : ρ0.le ρ) (hR : Rel E w0 ρ s w) (hA : ARel ρ a ca) (hf : VRel ρ fv cf) (hρ : ρ l = some (cl, sh, sz)) {nx : Nx} (hc : callV E fv [.yield l] s = some nx)
    {x : X} {a' : Ac} {s' : St} (h : rangeCall self l a nx = some (x, a', s')) :
    ∃ d f args, (∀ (g : Operand) (e : Operand → Value), e g = cf → (∀ v, e (.const v) = v) → (resolve e (Go.rangeCall g cl) 0).run P w = .ok d w) ∧ (invoke d.target d.args).run P w = .ok (.enter f args) w ∧ CallsIn (fenceAt rd) 0 P f args w (rangePost (fenceAt rd) 0 P cl (XSim E w0 ρ0 a' s' x) ca) := by
  have hsim := callV_sim (P := P) (cargs := #[.func (.yield cl) #[] #[]]) hE hR hf (.cons (.yield hρ) .nil) hc
  cases nx <;> simp only [rangeCall, reduceCtorEq] at h
  rename_i f args s1
  simp only [Option.bind_eq_some_iff, Prod.exists] at h
  obtain ⟨e, s2, he, h⟩ := h
  obtain ⟨cargs, hrun, hv, hR'⟩ := hsim
  unfold callV at hc
  cases hf <;> try (simp only [reduceCtorEq] at hc; done)
  case yield => simp only [Option.some.injEq, reduceCtorEq] at hc
  rename_i fn fx fy cx cy hx hy
  refine ⟨{ target := .fn fn cy, args := cx ++ #[.func (.yield cl) #[] #[]] }, f, cargs, fun g e' hg hcst => ?_, hrun, callsAt rd _ ((hs.call w0 ρ _ w _ _ cargs _ _ hR' hv he).mono fun ce w' hce => ?_)⟩
  · simp only [resolve, hg]
    rw [show Array.map e' #[Operand.const (Value.func (Fn.yield cl) #[] #[])] = #[Value.func (Fn.yield cl) #[] #[]] by simp [hcst]]
    rfl
  · cases e with
    | ret v =>
      obtain ⟨ρ', cv, rfl, hle', _, hR2⟩ := hce
      exact endLoop_sim (Rho.le_trans hle hle') hR2 (hA.mono hle') (hle' _ _ hρ) h cv
    | pan v =>
      obtain ⟨ρ', cv, rfl, hle', hcv, hR2⟩ := hce
      simp only [afterRange, Option.some.injEq, Prod.mk.injEq] at h
      obtain ⟨rfl, rfl, rfl⟩ := h
      exact ⟨ρ', cv, rfl, Rho.le_trans hle hle', hcv, hA.mono hle', hR2⟩

theorem rangeC_sim (hE : EnvOk P E) (hs : EVSim P E self) {rd : Option Nat} {f : Operand} {ps : Array Tmp} {assign body : Code} {ρ : Rho} {s : St} {w : World} {a : Ac} {ca : Act} {x : X} {a' : Ac} {s' : St} (hR : Rel E w0 ρ s w) (hA : ARel ρ a ca) (hrd : Rnd ρ a.round rd)
    (h : rangeC E f ps.toList assign body self a s = some (x, a', s')) : (Code.rangeFunc f ps assign body).wpIn (fenceAt rd) 0 P (XSim E w0 ρ a' s' x) ca w := by
  refine wpIn_rangeFunc fun fn _ => ?_
  obtain ⟨tm, nn, df, ard⟩ := a
  unfold rangeC at h
  cases ard with
  | none =>
    have hrd' : rd = none := hrd
    subst hrd'
    simp only [Option.bind_eq_some_iff] at h
    obtain ⟨fv, hfv, nx, hnx, h⟩ := h
    have hR1 := hR.new .defb (.deferred (some [])) 0 ⟨w.heap.size, 0, Rho.add_same, hR.newBlock, World.alloc_heap_new w _⟩
    have hle1 : ρ.le (ρ.add s.next (w.heap.size, 0, 0)) := Rho.add_le hR.fresh
    have hs1 : (nw s .defb).next = s.next + 1 := rfl
    have hfresh1 := hR1.fresh
    rw [hs1] at hfresh1
    have hle2 : (ρ.add s.next (w.heap.size, 0, 0)).le ((ρ.add s.next (w.heap.size, 0, 0)).add (s.next + 1) (w.heap.size + 1, 0, 0)) := Rho.add_le hfresh1
    have hsz1 : (w.heap.push (Obj.deferred (some []))).size = w.heap.size + 1 := by simp
    let r : Loop := { state := .ready, pending := none, fn := fn, tmps := ca.tmps, params := ps, assign := assign, body := body, defers := w.heap.size }
    have hR2 := hR1.new (.loop 0 none tm nn ps.toList assign body) (.loop r) 0 ⟨w.heap.size + 1, 0, r, by
      rw [hs1]; show ((ρ.add s.next (w.heap.size, 0, 0)).add (s.next + 1) ((w.heap.push (Obj.deferred (some []))).size, 0, 0)) (s.next + 1) = _; rw [hsz1]; exact Rho.add_same, by
      have := hR1.newBlock; rw [hsz1] at this; exact this, by
      show ((w.heap.push (Obj.deferred (some []))).push (Obj.loop r))[w.heap.size + 1]? = _
      rw [Array.getElem?_push, if_pos hsz1.symm], rfl, rfl, hA.n, fun t v ht => (hA.tmp t v ht).mono (Rho.le_trans hle1 (by
        rw [hs1]; show (ρ.add s.next (w.heap.size, 0, 0)).le ((ρ.add s.next (w.heap.size, 0, 0)).add (s.next + 1) ((w.heap.push (Obj.deferred (some []))).size, 0, 0)); rw [hsz1]; exact hle2)), rfl, rfl, rfl⟩
    rw [hs1] at hR2
    have hR2' : Rel E w0 ((ρ.add s.next (w.heap.size, 0, 0)).add (s.next + 1) (w.heap.size + 1, 0, 0)) (nw (nw s .defb) (.loop 0 none tm nn ps.toList assign body)) ((w.alloc (.deferred (some []))).alloc (.loop r)) := by
      rw [← hsz1]; exact hR2
    have hle := Rho.le_trans hle1 hle2
    have hA2 : ARel ((ρ.add s.next (w.heap.size, 0, 0)).add (s.next + 1) (w.heap.size + 1, 0, 0)) { tmps := tm, n := nn, defers := { mark := some s.next, f := .func 0, captured := [], args := [] } :: df, round := none } { ca with defers := [{ target := .collected w.heap.size, args := #[] }] ++ ca.defers } :=
      ⟨hA.n, fun t v ht => (hA.tmp t v ht).mono hle, .cons ⟨fun e => by simp at e, fun r' e => by
        simp only [Option.some.injEq] at e; subst e
        exact ⟨w.heap.size, 0, 0, hle2 _ _ Rho.add_same, rfl⟩⟩ (hA.defers.mono hle)⟩
    obtain ⟨d, g, args, hres, hinv, hcall⟩ := rangeCall_sim (P := P) (rd := none) hE hs hle hR2' hA2 ((evO_sim hR hA hfv).mono hle) Rho.add_same hnx h
    exact ⟨w.heap.size + 1, _, _, d, _, g, args, _, run_enterLoop_outer fn ca.tmps ps assign body, hres f _ rfl (fun _ => rfl), fun _ _ => trivial, hinv, noDepth none, hcall⟩
  | some l0 =>
    obtain ⟨cl, sh, sz, hρ, hrd'⟩ := hrd
    subst hrd'
    simp only [Option.bind_eq_some_iff, Prod.exists] at h
    obtain ⟨o, s2, hg, h⟩ := h
    obtain ⟨hb, rfl⟩ := getO_inv hg
    cases o <;> simp only [reduceCtorEq] at h
    simp only [Option.bind_eq_some_iff] at h
    obtain ⟨fv, hfv, nx, hnx, h⟩ := h
    obtain ⟨_, r0, hw, hm⟩ := loop_of hR hb hρ
    have hRn := hR.note l0 0 big false
    let r : Loop := { state := .ready, pending := none, fn := fn, tmps := ca.tmps, params := ps, assign := assign, body := body, defers := r0.defers }
    have hle : ρ.le (ρ.add (s.note l0 0 big false).next (w.heap.size, 0, 0)) := Rho.add_le hRn.fresh
    have hR2 := hRn.new (.loop 0 none tm nn ps.toList assign body) (.loop r) 0 ⟨w.heap.size, 0, r, Rho.add_same, hR.newBlock, World.alloc_heap_new w _, rfl, rfl, hA.n, fun t v ht => (hA.tmp t v ht).mono hle, rfl, rfl, rfl⟩
    have hA2 : ARel (ρ.add (s.note l0 0 big false).next (w.heap.size, 0, 0)) { tmps := tm, n := nn, defers := df, round := some l0 } { ca with defers := [] ++ ca.defers } := ⟨hA.n, fun t v ht => (hA.tmp t v ht).mono hle, hA.defers.mono hle⟩
    obtain ⟨d, g, args, hres, hinv, hcall⟩ := rangeCall_sim (P := P) (rd := some cl) hE hs hle hR2 hA2 ((evO_sim hR hA hfv).mono hle) Rho.add_same hnx h
    exact ⟨w.heap.size, _, _, d, _, g, args, _, run_enterLoop_inner hw fn ca.tmps ps assign body, hres f _ rfl (fun _ => rfl), fun _ _ => trivial, hinv, noDepth (some cl), hcall⟩

/-! ### code -/

theorem comp_sim (hE : EnvOk P E) (hs : EVSim P E self) (hl : EVLoc self) {rd : Option Nat} : ∀ (c : Code) {ρ : Rho} {s : St} {w : World} {a : Ac} {ca : Act} {x : X} {a' : Ac} {s' : St}, Rel E w0 ρ s w → ARel ρ a ca → Rnd ρ a.round rd → (comp E c).run self a s = some (x, a', s') →
    c.wpIn (fenceAt rd) 0 P (XSim E w0 ρ a' s' x) ca w
  | .skip, ρ, s, w, a, ca, x, a', s', hR, hA, hrd, h => by
    have h' : some (X.norm, a, s) = some (x, a', s') := h
    simp only [Option.some.injEq, Prod.mk.injEq] at h'
    obtain ⟨rfl, rfl, rfl⟩ := h'
    exact wpIn_skip ⟨rfl, ρ, Rho.le_refl ρ, hA, hR⟩
  | .label l, ρ, s, w, a, ca, x, a', s', hR, hA, hrd, h => by
    have h' : some (X.norm, a, s) = some (x, a', s') := h
    simp only [Option.some.injEq, Prod.mk.injEq] at h'
    obtain ⟨rfl, rfl, rfl⟩ := h'
    exact wpIn_label ⟨rfl, ρ, Rho.le_refl ρ, hA, hR⟩
  | .exit id, ρ, s, w, a, ca, x, a', s', hR, hA, hrd, h => by
    have h' : some (X.exit id, a, s) = some (x, a', s') := h
    simp only [Option.some.injEq, Prod.mk.injEq] at h'
    obtain ⟨rfl, rfl, rfl⟩ := h'
    exact wpIn_exit ⟨rfl, ρ, Rho.le_refl ρ, hA, hR⟩
  | .ret, ρ, s, w, a, ca, x, a', s', hR, hA, hrd, h => by
    have h' : some (X.ret, a, s) = some (x, a', s') := h
    simp only [Option.some.injEq, Prod.mk.injEq] at h'
    obtain ⟨rfl, rfl, rfl⟩ := h'
    exact wpIn_ret ⟨rfl, ρ, Rho.le_refl ρ, hA, hR⟩
  | .region id ops false, ρ, s, w, a, ca, x, a', s', hR, hA, hrd, h => by
    have h' : (opsL E ops ops.toList).run self a s = some (x, a', s') := h
    have := opsL_sim (P := P) (ops := ops) hE hs ops.toList 0 (fun j o hj => by simpa using hj) (Rho.le_refl ρ) hR hA hrd.none h'
    rw [Array.length_toList, ← List.range_eq_range'] at this
    exact wpIn_region this
  | .region id ops true, ρ, s, w, a, ca, x, a', s', hR, hA, hrd, h => drawn_sim hE hs hl hR hA h
  | .seq y z, ρ, s, w, a, ca, x, a', s', hR, hA, hrd, h => by
    have h' : ((comp E y).run self a s).bind (seqOn (comp E z) self) = some (x, a', s') := h
    simp only [Option.bind_eq_some_iff, Prod.exists] at h'
    obtain ⟨x1, a1, s1, h1, h2⟩ := h'
    refine wpIn_seq (wpIn_mono (comp_sim hE hs hl y hR hA hrd h1) fun e ca1 w1 hx => ?_)
    cases x1 with
    | norm =>
      obtain ⟨rfl, ρ1, hle, hA1, hR1⟩ := hx
      have h2' : (comp E z).run self a1 s1 = some (x, a', s') := h2
      exact wpIn_mono (comp_sim hE hs hl z hR1 hA1 (by rw [comp_round y h1]; exact hrd.mono hle) h2') fun _ _ _ h => h.mono hle
    | exit id =>
      have h2' : some (X.exit id, a1, s1) = some (x, a', s') := h2
      simp only [Option.some.injEq, Prod.mk.injEq] at h2'
      obtain ⟨rfl, rfl, rfl⟩ := h2'
      have he := hx.1
      subst he
      exact hx
    | ret =>
      have h2' : some (X.ret, a1, s1) = some (x, a', s') := h2
      simp only [Option.some.injEq, Prod.mk.injEq] at h2'
      obtain ⟨rfl, rfl, rfl⟩ := h2'
      have he := hx.1
      subst he
      exact hx
    | pan v =>
      have h2' : some (X.pan v, a1, s1) = some (x, a', s') := h2
      simp only [Option.some.injEq, Prod.mk.injEq] at h2'
      obtain ⟨rfl, rfl, rfl⟩ := h2'
      obtain ⟨ρ1, cv, rfl, hrest⟩ := hx
      exact ⟨ρ1, cv, rfl, hrest⟩
  | .cond c y z, ρ, s, w, a, ca, x, a', s', hR, hA, hrd, h => by
    have h' : condC (evF E c) (comp E y) (comp E z) self a s = some (x, a', s') := h
    unfold condC at h'
    simp only [Option.bind_eq_some_iff] at h'
    obtain ⟨v, hv, h'⟩ := h'
    have hr := evO_sim hR hA (x := c) hv
    cases v <;> simp only [reduceCtorEq] at h'
    rename_i b
    generalize hc : ca.eval c = cc at hr
    cases hr
    cases b with
    | true => exact wpIn_cond_true hc (comp_sim hE hs hl y hR hA hrd h')
    | false => exact wpIn_cond_false hc (comp_sim hE hs hl z hR hA hrd h')
  | .block id y, ρ, s, w, a, ca, x, a', s', hR, hA, hrd, h => by
    have h' : ((comp E y).run self a s).bind (blockOn id) = some (x, a', s') := h
    simp only [Option.bind_eq_some_iff, Prod.exists] at h'
    obtain ⟨x1, a1, s1, h1, h2⟩ := h'
    refine wpIn_block (wpIn_mono (comp_sim hE hs hl y hR hA hrd h1) fun e ca1 w1 hx => ?_)
    cases x1 with
    | norm =>
      have h2' : some (X.norm, a1, s1) = some (x, a', s') := h2
      simp only [Option.some.injEq, Prod.mk.injEq] at h2'
      obtain ⟨rfl, rfl, rfl⟩ := h2'
      have he := hx.1
      subst he
      exact hx
    | exit id' =>
      have h2' : some (bif Nat.beq id' id then X.norm else X.exit id', a1, s1) = some (x, a', s') := h2
      simp only [Option.some.injEq, Prod.mk.injEq] at h2'
      obtain ⟨rfl, rfl, rfl⟩ := h2'
      obtain ⟨rfl, hrest⟩ := hx
      simp only [Exit.inBlock]
      by_cases hid : id' = id
      · subst hid
        rw [if_pos rfl, Nat.beq_refl]
        exact ⟨rfl, hrest⟩
      · rw [if_neg hid]
        have : Nat.beq id' id = false := by
          cases hb : Nat.beq id' id with
          | false => rfl
          | true => exact absurd (Nat.eq_of_beq_eq_true hb) hid
        rw [this]
        exact ⟨rfl, hrest⟩
    | ret =>
      have h2' : some (X.ret, a1, s1) = some (x, a', s') := h2
      simp only [Option.some.injEq, Prod.mk.injEq] at h2'
      obtain ⟨rfl, rfl, rfl⟩ := h2'
      have he := hx.1
      subst he
      exact hx
    | pan v =>
      have h2' : some (X.pan v, a1, s1) = some (x, a', s') := h2
      simp only [Option.some.injEq, Prod.mk.injEq] at h2'
      obtain ⟨rfl, rfl, rfl⟩ := h2'
      obtain ⟨ρ1, cv, rfl, hrest⟩ := hx
      exact ⟨ρ1, cv, rfl, hrest⟩
  | .loop y, ρ, s, w, a, ca, x, a', s', hR, hA, hrd, h => by
    have key : ∀ (n : Nat) {ρ1 : Rho} {s : St} {w : World} {a : Ac} {ca : Act}, ρ.le ρ1 → Rel E w0 ρ1 s w → ARel ρ1 a ca → Rnd ρ1 a.round rd → loopC (comp E y) n self a s = some (x, a', s') → Code.roundsIn (fenceAt rd) 0 P y (XSim E w0 ρ a' s' x) n ca w := by
      intro n
      induction n with
      | zero => intro ρ1 s w a ca _ _ _ _ h; cases h
      | succ n ih =>
        intro ρ1 s w a ca hle hR hA hrd h
        have h' : ((comp E y).run self a s).bind (loopOn (loopC (comp E y) n) self) = some (x, a', s') := h
        simp only [Option.bind_eq_some_iff, Prod.exists] at h'
        obtain ⟨x1, a1, s1, h1, h2⟩ := h'
        rw [roundsIn_succ]
        refine wpIn_mono (comp_sim hE hs hl y hR hA hrd h1) fun e ca1 w1 hx => ?_
        cases x1 with
        | norm =>
          obtain ⟨rfl, ρ2, hle2, hA1, hR1⟩ := hx
          exact ih (Rho.le_trans hle hle2) hR1 hA1 (by rw [comp_round y h1]; exact hrd.mono hle2) h2
        | exit id =>
          have h2' : some (X.exit id, a1, s1) = some (x, a', s') := h2
          simp only [Option.some.injEq, Prod.mk.injEq] at h2'
          obtain ⟨rfl, rfl, rfl⟩ := h2'
          have hx' := hx.mono hle
          have he := hx.1
          subst he
          exact hx'
        | ret =>
          have h2' : some (X.ret, a1, s1) = some (x, a', s') := h2
          simp only [Option.some.injEq, Prod.mk.injEq] at h2'
          obtain ⟨rfl, rfl, rfl⟩ := h2'
          have hx' := hx.mono hle
          have he := hx.1
          subst he
          exact hx'
        | pan v =>
          have h2' : some (X.pan v, a1, s1) = some (x, a', s') := h2
          simp only [Option.some.injEq, Prod.mk.injEq] at h2'
          obtain ⟨rfl, rfl, rfl⟩ := h2'
          obtain ⟨ρ2, cv, rfl, hle2, hrest⟩ := hx
          exact ⟨ρ2, cv, rfl, Rho.le_trans hle hle2, hrest⟩
    rw [show comp E (.loop y) = ⟨loopC (comp E y) rounds⟩ from rfl] at h
    generalize rounds = n at h
    exact wpIn_loop_rounds n (key n (Rho.le_refl ρ) hR hA hrd h)
  | .rangeFunc f ps y z, ρ, s, w, a, ca, x, a', s', hR, hA, hrd, h => rangeC_sim hE hs hR hA hrd h
  | .scope _, _, _, _, _, _, _, _, _, _, _, _, h => by cases h
  | .goto _, _, _, _, _, _, _, _, _, _, _, _, h => by cases h
  | .refuse _, _, _, _, _, _, _, _, _, _, _, _, h => by cases h

/-! ### results -/

def resF (tmps : Array Value) : ResultVar → Sem Value
  | .tmp t => pure (tmps.getD t undef)
  | .cell x t => do loadVar t (← asAddr (tmps.getD x undef))
theorem results_eq (fn : Func) (tmps : Array Value) : results fn tmps = (fn.results.mapM (resF tmps) >>= fun vs => pure (if h : vs.size = 1 then vs[0] else .tuple vs)) := by
  unfold results
  congr 1

theorem resultsV_sim (hE : EnvOk P E) {ρ : Rho} {w : World} {a : Ac} {ca : Act} (hA : ARel ρ a ca) : ∀ (l : List ResultVar) {s s' : St} {vs : List V}, Rel E w0 ρ s w → resultsV E a l s = some (vs, s') →
    ∃ cvs, (l.mapM (resF ca.tmps)).run P w = .ok cvs w ∧ VRels ρ vs cvs ∧ Same s s'
  | [], s, s', vs, hR, h => by
    simp only [resultsV, Option.some.injEq, Prod.mk.injEq] at h
    obtain ⟨rfl, rfl⟩ := h
    exact ⟨[], rfl, .nil, Same.refl _⟩
  | .tmp t :: l, s, s', vs, hR, h => by
    simp only [resultsV, Option.bind_eq_some_iff, Option.some.injEq, Prod.mk.injEq, Prod.exists] at h
    obtain ⟨v, hv, q1, q2, hq, rfl, rfl⟩ := h
    obtain ⟨cvs, h1, h2, h3⟩ := resultsV_sim hE hA l hR hq
    refine ⟨ca.tmps.getD t undef :: cvs, ?_, .cons (evO_sim hR hA (x := .tmp t) hv) h2, h3⟩
    rw [List.mapM_cons]
    simp only [resF]
    rw [pure_bind, run_bind_ok h1]
    rfl
  | .cell t ty :: l, s, s', vs, hR, h => by
    simp only [resultsV, Option.bind_eq_some_iff] at h
    obtain ⟨v, hv, h⟩ := h
    have hr := evO_sim hR hA (x := .tmp t) hv
    cases v <;> simp only [reduceCtorEq] at h
    simp only [Option.bind_eq_some_iff, Option.some.injEq, Prod.mk.injEq, Prod.exists] at h
    obtain ⟨u, s1, hu, q1, q2, hq, rfl, rfl⟩ := h
    have hev : ca.eval (.tmp t) = ca.tmps.getD t undef := rfl
    rw [hev] at hr
    generalize hc : ca.tmps.getD t undef = cx at hr
    cases hr with
    | ptr hρ =>
    obtain ⟨cv, hrun, hcv, hsame⟩ := loadV_sim hE hR hu hρ
    obtain ⟨cvs, h1, h2, h3⟩ := resultsV_sim hE hA l (hR.same hsame) hq
    refine ⟨cv :: cvs, ?_, .cons hcv h2, hsame.trans h3⟩
    rw [List.mapM_cons]
    have hrun' : (resF ca.tmps (.cell t ty)).run P w = .ok cv w := by simp only [resF, hc]; exact hrun
    rw [run_bind_ok hrun', run_bind_ok h1]
    rfl

theorem results_sim (hE : EnvOk P E) {ρ : Rho} {w : World} {a : Ac} {ca : Act} {s s' : St} (hA : ARel ρ a ca) (fn : Func) {vs : List V} (hR : Rel E w0 ρ s w) (h : resultsV E a fn.results.toList s = some (vs, s')) :
    ∃ cv, (results fn ca.tmps).run P w = .ok cv w ∧ VRel ρ (oneOr vs) cv ∧ Same s s' := by
  obtain ⟨cvs, h1, h2, h3⟩ := resultsV_sim hE hA fn.results.toList hR h
  have hm : (fn.results.mapM (resF ca.tmps)).run P w = .ok cvs.toArray w := by
    rw [Array.mapM_eq_mapM_toList]
    rw [map_eq_pure_bind, run_bind_ok h1]
    rfl
  refine ⟨if h : cvs.toArray.size = 1 then cvs.toArray[0] else .tuple cvs.toArray, ?_, ?_, h3⟩
  · rw [results_eq, run_bind_ok hm]
    rfl
  · match vs, cvs, h2 with
    | [], _, .nil => exact .tuple .nil
    | [v], _, .cons hv .nil => exact hv
    | v :: u :: l, c1 :: c2 :: cl, .cons hv (.cons hu ht) =>
      have : ¬ ((c1 :: c2 :: cl).toArray.size = 1) := by simp
      rw [dif_neg this]
      exact .tuple (.cons hv (.cons hu ht))

/-! ### deferred calls -/

/-- how a panic stands in a frame -/
def MdRel (ρ : Rho) : Md → FrameMode → Prop
  | .ret, u => u = .returning
  | .pan v, u => ∃ cv, u = .panicking [{ v := cv, recovered := false }] ∧ VRel ρ v cv
  | .got v, u => ∃ cv, u = .panicking [{ v := cv, recovered := true }] ∧ VRel ρ v cv
theorem MdRel.mono {ρ ρ' : Rho} (hle : ρ.le ρ') {m : Md} {u : FrameMode} (h : MdRel ρ m u) : MdRel ρ' m u := by
  cases m with
  | ret => exact h
  | pan v => obtain ⟨cv, h1, h2⟩ := h; exact ⟨cv, h1, h2.mono hle⟩
  | got v => obtain ⟨cv, h1, h2⟩ := h; exact ⟨cv, h1, h2.mono hle⟩
theorem MdRel.notRun {ρ : Rho} {m : Md} {u : FrameMode} (h : MdRel ρ m u) : u ≠ .run := by
  cases m with
  | ret => rw [show u = .returning from h]; simp
  | pan v => obtain ⟨cv, h1, _⟩ := h; rw [h1]; simp
  | got v => obtain ⟨cv, h1, _⟩ := h; rw [h1]; simp

/-- what a deferred function's code comes to -/
def MSim (E : Env) (w0 : Base) (ρ : Rho) (c₀ : Frame) (cs : List Frame) (a' : Ac) (m' : Md) (s' : St) (x : X) (e : Exit) (ca' : Act) (cs' : List Frame) (w' : World) : Prop :=
  ∃ ρ', ρ.le ρ' ∧ (∃ u, cs' = { c₀ with mode := u } :: cs ∧ MdRel ρ' m' u) ∧ XSim E w0 ρ' a' s' x e ca' w'
theorem MSim.mono {ρ ρ1 : Rho} (hle : ρ.le ρ1) {c₀ : Frame} {cs : List Frame} {a' : Ac} {m' : Md} {s' : St} {x : X} {e : Exit} {ca' : Act} {cs' : List Frame} {w' : World} (h : MSim E w0 ρ1 c₀ cs a' m' s' x e ca' cs' w') : MSim E w0 ρ c₀ cs a' m' s' x e ca' cs' w' := by
  obtain ⟨ρ', h1, h2⟩ := h
  exact ⟨ρ', Rho.le_trans hle h1, h2⟩

theorem isRecover_spec {o : Oper} (h : isRecover o = true) : o.guard = none ∧ ∃ args ts, o.op = .call { callee := .builtin .recover, args := args, argTypes := ts } := by
  unfold isRecover at h
  split at h
  · rename_i h1 h2
    exact ⟨h2, _, _, h1⟩
  · cases h

theorem recoverD_sim {ρ : Rho} {m : Md} {u : FrameMode} {c₀ : Frame} {cs : List Frame} (hm : MdRel ρ m u) :
    (∃ cv u', recoverD ({ c₀ with mode := u } :: cs) = some (cv, { c₀ with mode := u' } :: cs) ∧ VRel ρ (recV m).1 cv ∧ MdRel ρ (recV m).2 u') ∨
    (recoverD ({ c₀ with mode := u } :: cs) = none ∧ VRel ρ (recV m).1 .nilIface ∧ MdRel ρ (recV m).2 u) := by
  cases m with
  | ret =>
    have hu : u = .returning := hm
    subst hu
    exact .inr ⟨rfl, .niliface, rfl⟩
  | pan v =>
    obtain ⟨cv, rfl, hv⟩ := hm
    exact .inl ⟨cv, .panicking [{ v := cv, recovered := true }], rfl, hv, cv, rfl, hv⟩
  | got v =>
    obtain ⟨cv, rfl, hv⟩ := hm
    exact .inr ⟨rfl, .niliface, cv, rfl, hv⟩

theorem opsS_sim (hE : EnvOk P E) (hs : EVSim P E self) {ops : Array Oper} {c₀ : Frame} {cs : List Frame} : ∀ (l : List Oper) (k : Nat), (∀ j o, l[j]? = some o → ops[k + j]? = some o) →
    ∀ {ρ0 ρ : Rho} {s : St} {w : World} {a : Ac} {ca : Act} {m : Md} {u : FrameMode} {x : X} {a' : Ac} {m' : Md} {s' : St}, ρ0.le ρ → Rel E w0 ρ s w → ARel ρ a ca → MdRel ρ m u → opsS E self ops l a m s = some (x, a', m', s') →
      wpOpsS P ops (MSim E w0 ρ0 c₀ cs a' m' s' x) (List.range' k l.length) ca ({ c₀ with mode := u } :: cs) w := by
  intro l
  induction l with
  | nil =>
    intro k _ ρ0 ρ s w a ca m u x a' m' s' hle hR hA hm h
    simp only [opsS, Option.some.injEq, Prod.mk.injEq] at h
    obtain ⟨rfl, rfl, rfl, rfl⟩ := h
    exact ⟨ρ, hle, ⟨u, rfl, hm⟩, rfl, ρ, Rho.le_refl ρ, hA, hR⟩
  | cons o l ih =>
    intro k hops ρ0 ρ s w a ca m u x a' m' s' hle hR hA hm h
    have hk : ops[k]? = some o := by simpa using hops 0 o (by simp)
    have hops' : ∀ j o', l[j]? = some o' → ops[k + 1 + j]? = some o' := fun j o' hj => by
      have := hops (j + 1) o' (by simpa using hj)
      rw [show k + 1 + j = k + (j + 1) by omega]; exact this
    simp only [List.length_cons, List.range'_succ, wpOpsS, hk]
    simp only [opsS] at h
    cases hrec : isRecover o with
    | true =>
      rw [hrec] at h
      simp only [cond_true, Option.bind_eq_some_iff] at h
      obtain ⟨a1, ha1, h⟩ := h
      obtain ⟨hg, args, ts, hop⟩ := isRecover_spec hrec
      have hw : Region.wanted o (yielded ops ca.tmps) = true := by unfold Region.wanted; rw [hg]
      have hex : (execOp ca.eval o).run P w = .ok .recover w := by simp only [execOp, hop]; rfl
      rw [hw]
      simp only [if_true, hex]
      rcases recoverD_sim (c₀ := c₀) (cs := cs) hm with ⟨cv, u', hr, hv, hm'⟩ | ⟨hr, hv, hm'⟩
      · simp only [hr]
        exact ih (k + 1) hops' hle hR (put_sim hA ha1 hv).1 hm' h
      · simp only [hr]
        exact ih (k + 1) hops' hle hR (put_sim hA ha1 hv).1 hm' h
    | false =>
      rw [hrec] at h
      simp only [cond_false, Option.bind_eq_some_iff, Prod.exists] at h
      obtain ⟨x1, a1, s1, h1, h2⟩ := h
      -- the operation by itself
      have hone : ∀ {ρ' : Rho} {ca' : Act} {w' : World}, ρ.le ρ' → ARel ρ' a1 ca' → Rel E w0 ρ' s1 w' → x1 = .norm → wpOpsS P ops (MSim E w0 ρ0 c₀ cs a' m' s' x) (List.range' (k + 1) l.length) ca' ({ c₀ with mode := u } :: cs) w' := by
        intro ρ' ca' w' hle' hA' hR' hx
        subst hx
        exact ih (k + 1) hops' (Rho.le_trans hle hle') hR' hA' (hm.mono hle') h2
      rcases op1_inv h1 with ⟨rfl, v, hmade, hp⟩ | ⟨rfl, _, hw, d, hd, hp⟩ | ⟨v, rfl, rfl, hw, hp⟩
      · cases hmade with
        | no hw =>
          rw [wantF_sim hA hw]
          simp only [Bool.false_eq_true, if_false]
          exact hone (Rho.le_refl ρ) (put_sim hA hp undef_rel).1 hR rfl
        | val hw hnx =>
          rw [wantF_sim hA hw]
          simp only [if_true]
          obtain ⟨ρ', cv, w', hrun, hle', hv, hR'⟩ := opF_sim (P := P) hE hR hA o hnx
          rcases hrun with hrun | ⟨hrun, rfl⟩
          · simp only [hrun]
            exact hone hle' (put_sim (hA.mono hle') hp hv).1 hR' rfl
          · simp only [hrun]
            exact hone hle' (put_sim (hA.mono hle') hp hv).1 hR' rfl
        | call hw hnx hcall =>
          rw [wantF_sim hA hw]
          simp only [if_true]
          obtain ⟨cargs, hrun, hv, hR'⟩ := opF_sim (P := P) hE hR hA o hnx
          simp only [hrun]
          show Calls P _ cargs w _
          refine (hs.call w0 ρ _ w _ _ cargs _ _ hR' hv hcall).mono fun ce w' hce => ?_
          obtain ⟨ρ', cv, rfl, hle', hcv, hR2⟩ := hce
          exact hone hle' (put_sim (hA.mono hle') hp hcv).1 hR2 rfl
        | round hw hnx hcall => cases hcall
      · rw [wantF_sim hA hw]
        simp only [if_true]
        obtain ⟨_, cd, hrun, hdr, hR'⟩ := opF_sim (P := P) hE hR hA o hd
        simp only [hrun]
        have hA2 : ARel ρ { a with defers := d :: a.defers } { ca with defers := cd :: ca.defers } := ⟨hA.n, hA.tmp, .cons hdr hA.defers⟩
        exact hone (Rho.le_refl ρ) (put_sim hA2 hp undef_rel).1 hR' rfl
      · have h2' : some (X.pan v, a1, m, s1) = some (x, a', m', s') := h2
        simp only [Option.some.injEq, Prod.mk.injEq] at h2'
        obtain ⟨rfl, rfl, rfl, rfl⟩ := h2'
        rw [wantF_sim hA hw]
        simp only [if_true]
        rcases hp with hp | ⟨f, args, s2, hp, hcall⟩ | ⟨l, args, s2, hp, hcall⟩
        · obtain ⟨cv, hrun, hv, hR'⟩ := opF_sim (P := P) hE hR hA o hp
          simp only [hrun]
          exact ⟨ρ, hle, ⟨u, rfl, hm⟩, ρ, cv, rfl, Rho.le_refl ρ, hv, hA, hR'⟩
        · obtain ⟨cargs, hrun, hv, hR'⟩ := opF_sim (P := P) hE hR hA o hp
          simp only [hrun]
          show Calls P _ cargs w _
          refine (hs.call w0 ρ _ w _ _ cargs _ _ hR' hv hcall).mono fun ce w' hce => ?_
          obtain ⟨ρ', cv, rfl, hle', hcv, hR2⟩ := hce
          exact ⟨ρ', Rho.le_trans hle hle', ⟨u, rfl, hm.mono hle'⟩, ρ', cv, rfl, Rho.le_refl ρ', hcv, hA.mono hle', hR2⟩
        · cases hcall

theorem opsS_round {ops : Array Oper} : ∀ (l : List Oper) {a : Ac} {m : Md} {s : St} {x : X} {a' : Ac} {m' : Md} {s' : St}, opsS E self ops l a m s = some (x, a', m', s') → a'.round = a.round
  | [], a, m, s, x, a', m', s', h => by
    simp only [opsS, Option.some.injEq, Prod.mk.injEq] at h
    rw [h.2.1]
  | o :: l, a, m, s, x, a', m', s', h => by
    simp only [opsS] at h
    cases hr : isRecover o with
    | true =>
      rw [hr] at h
      simp only [cond_true, Option.bind_eq_some_iff] at h
      obtain ⟨a1, ha1, h⟩ := h
      exact (opsS_round l h).trans (putF_round ha1)
    | false =>
      rw [hr] at h
      simp only [cond_false, Option.bind_eq_some_iff, Prod.exists] at h
      obtain ⟨x1, a1, s1, h1, h2⟩ := h
      have r1 := op1_round h1
      cases x1 with
      | norm => exact (opsS_round l h2).trans r1
      | _ => simp only [Option.some.injEq, Prod.mk.injEq] at h2; rw [← h2.2.1]; exact r1
theorem evS_round : ∀ (d : Nat) (c : Code) {a : Ac} {m : Md} {s : St} {x : X} {a' : Ac} {m' : Md} {s' : St}, evS E self d c a m s = some (x, a', m', s') → a'.round = a.round
  | 0, _, _, _, _, _, _, _, _, h => by cases h
  | d + 1, c, a, m, s, x, a', m', s', h => by
    have other : (((comp E c).run self a s).bind fun (x, a, s) => some (x, a, m, s)) = some (x, a', m', s') → a'.round = a.round := fun h => by
      simp only [Option.bind_eq_some_iff, Prod.exists, Option.some.injEq, Prod.mk.injEq] at h
      obtain ⟨x1, a1, s1, h1, rfl, rfl, rfl, rfl⟩ := h
      exact comp_round c h1
    cases c <;> try exact other h
    case seq y z =>
      have h' : (evS E self d y a m s).bind (fun | (.norm, a, m, s) => evS E self d z a m s | r => some r) = some (x, a', m', s') := h
      simp only [Option.bind_eq_some_iff, Prod.exists] at h'
      obtain ⟨x1, a1, m1, s1, h1, h2⟩ := h'
      have r1 := evS_round d y h1
      cases x1 with
      | norm => exact (evS_round d z h2).trans r1
      | _ => simp only [Option.some.injEq, Prod.mk.injEq] at h2; rw [← h2.2.1]; exact r1
    case cond c y z =>
      have h' : (evO E a c).bind (fun | .bool b => evS E self d (bif b then y else z) a m s | _ => none) = some (x, a', m', s') := h
      simp only [Option.bind_eq_some_iff] at h'
      obtain ⟨v, hv, h'⟩ := h'
      cases v <;> simp only [reduceCtorEq] at h'
      exact evS_round d _ h'
    case region id ops draw =>
      cases draw with
      | true => exact other h
      | false => exact opsS_round ops.toList h

theorem evS_sim (hE : EnvOk P E) (hs : EVSim P E self) (hl : EVLoc self) {c₀ : Frame} {cs : List Frame} : ∀ (d : Nat) (c : Code)
    {ρ0 ρ : Rho} {s : St} {w : World} {a : Ac} {ca : Act} {m : Md} {u : FrameMode} {x : X} {a' : Ac} {m' : Md} {s' : St}, ρ0.le ρ → Rel E w0 ρ s w → ARel ρ a ca → a.round = none → MdRel ρ m u → evS E self d c a m s = some (x, a', m', s') →
      c.wpS P (MSim E w0 ρ0 c₀ cs a' m' s' x) ca ({ c₀ with mode := u } :: cs) w := by
  intro d
  induction d with
  | zero => intro c ρ0 ρ s w a ca m u x a' m' s' _ _ _ _ _ h; cases h
  | succ d ih =>
    intro c ρ0 ρ s w a ca m u x a' m' s' hle hR hA hrd hm h
    have other : (((comp E c).run self a s).bind fun (x, a, s) => some (x, a, m, s)) = some (x, a', m', s') → c.wpS P (MSim E w0 ρ0 c₀ cs a' m' s' x) ca ({ c₀ with mode := u } :: cs) w := fun h => by
      simp only [Option.bind_eq_some_iff, Prod.exists, Option.some.injEq, Prod.mk.injEq] at h
      obtain ⟨x1, a1, s1, h1, rfl, rfl, rfl, rfl⟩ := h
      refine wpS_of_wp (wp_mono (wpIn_wide.1 (comp_sim (rd := none) hE hs hl c hR hA (by rw [hrd]; rfl) h1)) fun e ca' w' hx => ?_)
      -- the relation as it is behind the code
      have hx' : ∃ ρ', ρ.le ρ' ∧ XSim E w0 ρ' a1 s1 x1 e ca' w' := by
        cases x1 with
        | norm => obtain ⟨he, ρ', h2, h3, h4⟩ := hx; exact ⟨ρ', h2, he, ρ', Rho.le_refl _, h3, h4⟩
        | exit id => obtain ⟨he, ρ', h2, h3, h4⟩ := hx; exact ⟨ρ', h2, he, ρ', Rho.le_refl _, h3, h4⟩
        | ret => obtain ⟨he, ρ', h2, h3, h4⟩ := hx; exact ⟨ρ', h2, he, ρ', Rho.le_refl _, h3, h4⟩
        | pan v => obtain ⟨ρ', cv, he, h2, h3, h4, h5⟩ := hx; exact ⟨ρ', h2, ρ', cv, he, Rho.le_refl _, h3, h4, h5⟩
      obtain ⟨ρ', h2, h3⟩ := hx'
      exact ⟨ρ', Rho.le_trans hle h2, ⟨u, rfl, hm.mono h2⟩, h3⟩
    cases c <;> try exact other h
    case seq y z =>
      have h' : (evS E self d y a m s).bind (fun | (.norm, a, m, s) => evS E self d z a m s | r => some r) = some (x, a', m', s') := h
      simp only [Option.bind_eq_some_iff, Prod.exists] at h'
      obtain ⟨x1, a1, m1, s1, h1, h2⟩ := h'
      refine wpS_seq fun b k hb hr => ?_
      obtain ⟨e, ca1, cs1, w1, hq, harr⟩ := ih y (ρ0 := ρ0) hle hR hA hrd hm h1 b k hb hr
      refine ⟨e, ca1, cs1, w1, ?_, harr⟩
      obtain ⟨ρ1, hle1, ⟨u1, rfl, hm1⟩, hx⟩ := hq
      cases x1 with
      | norm =>
        obtain ⟨rfl, ρ2, hle2, hA2, hR2⟩ := hx
        have h2' : evS E self d z a1 m1 s1 = some (x, a', m', s') := h2
        exact ih z (Rho.le_trans hle1 hle2) hR2 hA2 ((evS_round d y h1).trans hrd) (hm1.mono hle2) h2'
      | exit id =>
        have h2' : some (X.exit id, a1, m1, s1) = some (x, a', m', s') := h2
        simp only [Option.some.injEq, Prod.mk.injEq] at h2'
        obtain ⟨rfl, rfl, rfl, rfl⟩ := h2'
        have he := hx.1
        subst he
        exact ⟨ρ1, hle1, ⟨u1, rfl, hm1⟩, hx⟩
      | ret =>
        have h2' : some (X.ret, a1, m1, s1) = some (x, a', m', s') := h2
        simp only [Option.some.injEq, Prod.mk.injEq] at h2'
        obtain ⟨rfl, rfl, rfl, rfl⟩ := h2'
        have he := hx.1
        subst he
        exact ⟨ρ1, hle1, ⟨u1, rfl, hm1⟩, hx⟩
      | pan v =>
        have h2' : some (X.pan v, a1, m1, s1) = some (x, a', m', s') := h2
        simp only [Option.some.injEq, Prod.mk.injEq] at h2'
        obtain ⟨rfl, rfl, rfl, rfl⟩ := h2'
        obtain ⟨ρ2, cv, rfl, hrest⟩ := hx
        exact ⟨ρ1, hle1, ⟨u1, rfl, hm1⟩, ρ2, cv, rfl, hrest⟩
    case cond c y z =>
      have h' : (evO E a c).bind (fun | .bool b => evS E self d (bif b then y else z) a m s | _ => none) = some (x, a', m', s') := h
      simp only [Option.bind_eq_some_iff] at h'
      obtain ⟨v, hv, h'⟩ := h'
      have hr := evO_sim hR hA (x := c) hv
      cases v <;> simp only [reduceCtorEq] at h'
      rename_i b
      generalize hc : ca.eval c = cc at hr
      cases hr
      refine wpS_cond hc ?_
      cases b with
      | true => exact ih y hle hR hA hrd hm h'
      | false => exact ih z hle hR hA hrd hm h'
    case region id ops draw =>
      cases draw with
      | true => exact other h
      | false =>
        have h' : opsS E self ops ops.toList a m s = some (x, a', m', s') := h
        have := opsS_sim (P := P) (ops := ops) (c₀ := c₀) (cs := cs) hE hs ops.toList 0 (fun j o hj => by simpa using hj) hle hR hA hm h'
        rw [Array.length_toList, ← List.range_eq_range'] at this
        exact wpS_region this

theorem frameOf_rel {ρ : Rho} {fn : Func} {args : List V} {cargs : Array Value} (h : VRels ρ args cargs.toList) (hn : args.length ≤ fn.ntmps) :
    ARel ρ (frameOf fn args) { tmps := cargs ++ Array.replicate (fn.ntmps - cargs.size) undef, defers := [] } := by
  have hlen : args.length = cargs.size := by have := h.length; simpa using this
  refine ⟨by simp [frameOf]; omega, fun t v ht => ?_, .nil⟩
  have ht' : (Tr.ofListFrom .nil args 0).get t = some v := ht
  rw [Tr.get_ofList] at ht'
  obtain ⟨cv, h1, h2⟩ := h.get t v ht'
  have hlt : t < cargs.size := by
    rcases Nat.lt_or_ge t args.length with h' | h'
    · omega
    · rw [List.getElem?_eq_none h'] at ht'; cases ht'
  have : (cargs ++ Array.replicate (fn.ntmps - cargs.size) undef).getD t undef = cv := by
    rw [Array.getD_eq_getD_getElem?, Array.getElem?_append_left hlt]
    have h1' : cargs[t]? = some cv := by simpa using h1
    rw [h1']; rfl
  rw [this]; exact h2

/-- a deferred call's contract, no fence at all -/
theorem callsDIn_of_wpS {f : FuncId} {fn : Func} {c : Code} {args : Array Value} {u : FrameMode} {w : World} {R : Ending → FrameMode → World → Prop} {n : Nat}
    (hf : P.funcs[f]? = some fn) (hb : fn.body = some c)
    (h : ∀ (c₀ : Frame) (cs : List Frame), c₀.mode = u → c.wpS P (bodyPostS P fn c₀ cs R) { tmps := args ++ Array.replicate (fn.ntmps - args.size) undef, defers := [] } (c₀ :: cs) w) :
    CallsDIn (fenceAt none) n P f args u w R := by
  refine ⟨trivial, fun c₀ cs hu _ => ?_⟩
  let b : Frame := { (default : Frame) with fn := f, kind := .deferred }
  have henter : Frame.enter P f args .deferred = b.at { tmps := args ++ Array.replicate (fn.ntmps - args.size) undef, defers := [] } [.code c] := by
    simp [Frame.enter, Frame.at, hf, hb, b]
  obtain ⟨e, a', cs', w', hq, harr⟩ := h c₀ cs hu b [] rfl rfl
  rw [← henter] at harr
  cases e with
  | normal =>
    obtain ⟨hd, u', rfl, v, hr, hR⟩ := hq
    exact ⟨.returned v, u', w', _, hR, comesIn_wide.2 (Steps.trans harr (.one step_end)), rfl, rfl, rfl, hd, fn, hf, hr⟩
  | ret =>
    obtain ⟨hd, u', rfl, v, hr, hR⟩ := hq
    obtain ⟨todo, hs⟩ := harr
    exact ⟨.returned v, u', w', _, hR, comesIn_wide.2 hs, rfl, rfl, rfl, hd, fn, hf, hr⟩
  | panic chain =>
    obtain ⟨hd, u', rfl, hR⟩ := hq
    obtain ⟨todo, hs⟩ := harr
    exact ⟨.panicked chain, u', w', _, hR, comesIn_wide.2 hs, rfl, rfl, rfl, hd, fn, hf⟩
  | exit id => exact hq.elim
  | goto l => exact hq.elim
  | outgrown =>
    obtain ⟨u', hR⟩ := hq
    exact ⟨.outgrown, u', w', b, hR, comesIn_wide.2 (harr.resolve_left (by simp [b])), rfl, rfl, trivial⟩

theorem leaves_sim (hE : EnvOk P E) (hs : EVSim P E self) (hl : EVLoc self) {fn : Func} {ρ0 : Rho} {a : Ac} {ca : Act} {e : En} {s' : St} : ∀ (ds : List AD) {ρ : Rho} {s : St} {w : World} {m : Md} {u : FrameMode} {cds : List Deferred},
    ρ0.le ρ → Rel E w0 ρ s w → ARel ρ a ca → DRels ρ ds cds → MdRel ρ m u → leaves E self fn a ds m s = some (e, s') → LeavesInM (fenceAt none) 0 P fn ca.tmps (EnSim E w0 ρ0 s' e) cds u w := by
  intro ds
  induction ds with
  | nil =>
    intro ρ s w m u cds hle hR hA hD hm h
    cases hD
    cases m with
    | ret =>
      have hu : u = .returning := hm
      subst hu
      have h' : ((resultsV E a fn.results.toList s).bind fun p => some (En.ret (oneOr p.1), p.2)) = some (e, s') := h
      simp only [Option.bind_eq_some_iff, Option.some.injEq, Prod.mk.injEq, Prod.exists] at h'
      obtain ⟨vs, s1, hvs, rfl, rfl⟩ := h'
      obtain ⟨cv, hrun, hv, hsame⟩ := results_sim hE hA fn hR hvs
      exact ⟨cv, hrun, ρ, cv, rfl, hle, hv, hR.same hsame⟩
    | pan v =>
      obtain ⟨cv, rfl, hv⟩ := hm
      have h' : some (En.pan v, s) = some (e, s') := h
      simp only [Option.some.injEq, Prod.mk.injEq] at h'
      obtain ⟨rfl, rfl⟩ := h'
      exact ⟨ρ, cv, rfl, hle, hv, hR⟩
    | got v => cases h
  | cons d ds ih =>
    intro ρ s w m u cds hle hR hA hD hm h
    cases hD with
    | @cons _ cd _ cds hd hD =>
    simp only [leaves] at h
    cases hmk : d.mark with
    | some r =>
      rw [hmk] at h
      simp only [Option.bind_eq_some_iff, Prod.exists] at h
      obtain ⟨o, s2, hg, h⟩ := h
      obtain ⟨hb, rfl⟩ := getO_inv hg
      cases o <;> simp only [reduceCtorEq] at h
      obtain ⟨cb, sh, sz, hρ, htar⟩ := hd.mark r hmk
      obtain ⟨cr, sz', hρ', hB, hw⟩ := hR.obj _ _ hb
      rw [hρ] at hρ'; simp only [Option.some.injEq, Prod.mk.injEq] at hρ'; obtain ⟨rfl, rfl, rfl⟩ := hρ'
      have hR2 := (hR.note r 0 big false).note r 0 big true
      have hb2 : ((s.note r 0 big false).note r 0 big true).heap.get r = some .defb := by rw [note_heap, note_heap]; exact hb
      have hR3 : Rel E w0 ρ (setO (s.note r 0 big false) r .dead) (w.putObj cb (.deferred none)) := hR2.write (o' := .dead) hb2 rfl hρ (upd_setObj w (.deferred none) hw) trivial
      exact ⟨hm.notRun, .inl ⟨cb, _, htar, run_takeDeferred hw, ih hle hR3 hA hD hm h⟩⟩
    | none =>
    rw [hmk] at h
    simp only at h
    cases hdf : d.f <;> rw [hdf] at h <;> simp only [reduceCtorEq] at h
    rename_i f
    simp only [Option.bind_eq_some_iff] at h
    obtain ⟨g, hg, c, hc, h⟩ := h
    cases hble : Nat.ble (d.args ++ d.captured).length g.ntmps with
    | false => rw [hble] at h; cases h
    | true =>
    rw [hble] at h
    simp only [cond_true, Option.bind_eq_some_iff, Prod.exists] at h
    obtain ⟨x1, a1, m1, s1, hq, h⟩ := h
    cases hquiet : (quiet x1 && Nat.beq a1.defers.length 0) with
    | false => rw [hquiet] at h; cases h
    | true =>
    rw [hquiet] at h
    simp only [cond_true, Option.bind_eq_some_iff, Prod.exists] at h
    obtain ⟨vs, s2, hvs, h⟩ := h
    simp only [Bool.and_eq_true] at hquiet
    obtain ⟨⟨cap, hcap, hcr⟩, hdargs⟩ := hd.call hmk
    rw [hdf] at hcap
    have hbody : hasBody E f = true := by unfold hasBody; rw [hg]; simp [hc]
    obtain ⟨ct, cargs⟩ := cd
    simp only at hcap
    subst hcap
    have hargs : VRels ρ (d.args ++ d.captured) (cargs ++ cap).toList := by simp only [Array.toList_append]; exact hdargs.append hcr
    have hlen : (d.args ++ d.captured).length ≤ g.ntmps := Nat.le_of_ble_eq_true hble
    cases hex : E.ext.get f with
    | some kk =>
      -- a function with a body is none without
      exact absurd (hE.noExt f kk hex) (by rw [hbody]; simp)
    | none =>
    refine ⟨hm.notRun, .inr ⟨noDepth none, .func f, cap, f, cargs ++ cap, rfl, by show (callFunc f (cargs ++ cap)).run P w = _; exact hE.call f hbody hex _ w, fun _ _ => trivial, ?_⟩⟩
    refine callsDIn_of_wpS (hE.fns f g hg) hc fun c₀ cs hu => ?_
    have hA0 := frameOf_rel (fn := g) hargs hlen
    have hc0 : ({ c₀ with mode := u } : Frame) = c₀ := by subst hu; rfl
    have := evS_sim (c₀ := c₀) (cs := cs) hE hs hl 50 c (Rho.le_refl ρ) hR hA0 rfl hm hq
    rw [hc0] at this
    intro b k hb hr
    obtain ⟨e1, ca1, cs1, w1, hq1, harr⟩ := this b k hb hr
    refine ⟨e1, ca1, cs1, w1, ?_, harr⟩
    obtain ⟨ρ1, hle1, ⟨u1, rfl, hm1⟩, hx⟩ := hq1
    -- a quiet end
    have hend : (e1 = .normal ∨ e1 = .ret) ∧ ∃ ρ2, ρ1.le ρ2 ∧ ARel ρ2 a1 ca1 ∧ Rel E w0 ρ2 s1 w1 := by
      cases x1 with
      | norm => exact ⟨.inl hx.1, hx.2⟩
      | ret => exact ⟨.inr hx.1, hx.2⟩
      | exit id => simp [quiet] at hquiet
      | pan v => simp [quiet] at hquiet
    obtain ⟨hee, ρ2, hle2, hA2, hR2⟩ := hend
    have hdn : ca1.defers = [] := by
      have := hA2.defers.length
      have h0 : a1.defers.length = 0 := Nat.eq_of_beq_eq_true hquiet.2
      rw [h0] at this
      exact List.length_eq_zero_iff.1 this.symm
    obtain ⟨cv, hrun, hv, hsame⟩ := results_sim hE hA2 g hR2 hvs
    have hle02 := Rho.le_trans hle1 hle2
    have hsettle : MdRel ρ2 (settleM m1) (settle u1) := by
      cases m1 with
      | ret => have : u1 = .returning := hm1; subst this; rfl
      | pan v => obtain ⟨cv, rfl, hv⟩ := hm1; exact ⟨cv, rfl, hv.mono hle2⟩
      | got v => obtain ⟨cv, rfl, hv⟩ := hm1; rfl
    have hgo := ih (Rho.le_trans hle hle02) (hR2.same hsame) (hA.mono hle02) (hD.mono hle02) hsettle h
    rcases hee with rfl | rfl
    · exact ⟨hdn, u1, rfl, cv, hrun, hgo⟩
    · exact ⟨hdn, u1, rfl, cv, hrun, hgo⟩

/-! ### functions -/

/-- what is known of a function holds of its calls -/
def KnSim (P : Program) (E : Env) : Prop := ∀ f g, E.kn.get f = some g → ∀ (w0 : Base) (ρ : Rho) (s : St) (w : World) (args : List V) (cargs : Array Value) (v : V) (s' : St),
  Rel E w0 ρ s w → VRels ρ args cargs.toList → g.run args s = some (v, s') → Calls P f cargs w (EnSim E w0 ρ s' (.ret v))
structure KnOk (P : Program) (E : Env) : Prop where
  loc : KnLoc E
  sim : KnSim P E

theorem stepF_sim (hE : EnvOk P E) (hK : KnSim P E) (hs : EVSim P E self) (hl : EVLoc self) (w0 : Base) (ρ : Rho) (s : St) (w : World) (f : FuncId) (args : List V) (cargs : Array Value) (e : En) (s' : St) (hR : Rel E w0 ρ s w) (hv : VRels ρ args cargs.toList) (h : stepF E self f args s = some (e, s')) :
    Calls P f cargs w (EnSim E w0 ρ s' e) := by
  unfold stepF fnOf at h
  cases hkn : E.kn.get f with
  | some g =>
    rw [hkn] at h
    simp only [Option.bind_eq_some_iff, Option.some.injEq, Prod.mk.injEq, Prod.exists] at h
    obtain ⟨v, s1, hg, rfl, rfl⟩ := h
    exact hK f g hkn w0 ρ s w args cargs v _ hR hv hg
  | none =>
  rw [hkn] at h
  simp only [Option.bind_eq_some_iff, Option.some.injEq] at h
  obtain ⟨g, ⟨fn, hfn, c, hc, rfl⟩, h'⟩ := h
  cases hble : Nat.ble args.length fn.ntmps with
  | false => simp only [hble, cond_false, reduceCtorEq] at h'
  | true =>
  simp only [hble, cond_true, Option.bind_eq_some_iff, Prod.exists] at h'
  obtain ⟨x, a1, s1, hrun, hend⟩ := h'
  have hA := frameOf_rel (fn := fn) hv (Nat.le_of_ble_eq_true hble)
  refine (callsIn_wide (n := 0)).1 (callsIn_of_wp_marks (F := fenceAt none) (hE.fns f fn hfn) hc trivial (wpIn_mono (comp_sim (rd := none) hE hs hl c hR hA rfl hrun) fun ex ca1 w1 hx => ?_))
  cases x with
  | norm =>
    obtain ⟨rfl, ρ1, hle, hA1, hR1⟩ := hx
    exact leaves_sim (m := .ret) hE hs hl _ hle hR1 hA1 hA1.defers rfl hend
  | ret =>
    obtain ⟨rfl, ρ1, hle, hA1, hR1⟩ := hx
    exact leaves_sim (m := .ret) hE hs hl _ hle hR1 hA1 hA1.defers rfl hend
  | pan v =>
    obtain ⟨ρ1, cv, rfl, hle, hcv, hA1, hR1⟩ := hx
    exact leaves_sim (m := .pan v) hE hs hl _ hle hR1 hA1 hA1.defers ⟨cv, rfl, hcv⟩ hend
  | exit id => cases hend

/-! ### rounds -/

theorem setArgs_sim {ρ : Rho} {n : Nat} : ∀ (ps : List Nat) (vs : List V) (cvs : List Value) (t t' : Tr V) (ctmps : Array Value), VRels ρ vs cvs → (∀ k v, t.get k = some v → VRel ρ v (ctmps.getD k undef)) → ctmps.size = n → setArgs n t ps vs = some t' →
    ps.length = cvs.length ∧ ((ps.zip cvs).foldl (fun tmps (p : Nat × Value) => tmps.setIfInBounds p.1 p.2) ctmps).size = n ∧ ∀ k v, t'.get k = some v → VRel ρ v (((ps.zip cvs).foldl (fun tmps (p : Nat × Value) => tmps.setIfInBounds p.1 p.2) ctmps).getD k undef)
  | [], [], cvs, t, t', ctmps, hv, ht, hn, h => by
    cases hv
    simp only [setArgs, Option.some.injEq] at h
    subst h
    exact ⟨rfl, hn, ht⟩
  | [], v :: vs, cvs, t, t', ctmps, hv, ht, hn, h => by simp [setArgs] at h
  | p :: ps, [], cvs, t, t', ctmps, hv, ht, hn, h => by simp [setArgs] at h
  | p :: ps, v :: vs, cvs, t, t', ctmps, hv, ht, hn, h => by
    cases hv with
    | @cons _ cv _ cl hv1 hv2 =>
    simp only [setArgs, Tr.setC_eq] at h
    cases hb : Nat.blt p n with
    | false => rw [hb] at h; cases h
    | true =>
    rw [hb] at h
    simp only [cond_true] at h
    rw [blt_true] at hb
    obtain ⟨h1, h2, h3⟩ := setArgs_sim ps vs cl (t.set v p) t' (ctmps.setIfInBounds p cv) hv2 (fun k u hk => by
      rw [Tr.get_set] at hk
      by_cases e : k = p
      · rw [if_pos e] at hk
        simp only [Option.some.injEq] at hk
        subst hk; subst e
        simp only [Array.getD_eq_getD_getElem?, Array.getElem?_setIfInBounds, if_true]
        rw [if_pos (by omega)]
        exact hv1
      · rw [if_neg e] at hk
        have := ht k u hk
        simp only [Array.getD_eq_getD_getElem?] at this ⊢
        rw [Array.getElem?_setIfInBounds_ne (fun e' => e e'.symm)]
        exact this) (by simp [hn]) h
    exact ⟨by simp [h1], h2, h3⟩

theorem stepR_sim (hE : EnvOk P E) (hs : EVSim P E self) (hl : EVLoc self) (w0 : Base) (ρ : Rho) (s : St) (w : World) (l : Nat) (args : List V) (cargs : Array Value) (e : En) (s' : St) (cl sh sz : Nat) (hR : Rel E w0 ρ s w) (hρ : ρ l = some (cl, sh, sz)) (hv : VRels ρ args cargs.toList) (h : stepR E self l args s = some (e, s')) :
    ∃ r, w.heap[cl]? = some (.loop r) ∧ cargs.size = r.params.size ∧ RoundIn Fence.wide 0 P cl r.fn (roundTmps r cargs) r.assign r.body w (EnSim E w0 ρ s' e) := by
  unfold stepR at h
  simp only [Option.bind_eq_some_iff, Prod.exists] at h
  obtain ⟨o, s2, hg, h⟩ := h
  obtain ⟨hb, rfl⟩ := getO_inv hg
  cases o <;> simp only [reduceCtorEq] at h
  rename_i st pend tmps n params assign body
  simp only [Option.bind_eq_some_iff, Prod.exists] at h
  obtain ⟨t, ht, x1, a1, s1, hrun, h⟩ := h
  obtain ⟨_, r, hw, hm⟩ := loop_of hR hb hρ
  obtain ⟨q1, q2, q3⟩ := setArgs_sim params args cargs.toList tmps t r.tmps hv hm.tmp hm.n ht
  have hparams := hm.params
  have hsz : cargs.size = r.params.size := by rw [← hparams] at q1; simpa using q1.symm
  have htm : roundTmps r cargs = (params.zip cargs.toList).foldl (fun tmps (p : Nat × Value) => tmps.setIfInBounds p.1 p.2) r.tmps := by
    unfold roundTmps
    rw [← hparams, ← Array.foldl_toList, Array.toList_zip]
  refine ⟨r, hw, hsz, roundIn_of_wpIn trivial ?_⟩
  have hA : ARel ρ { tmps := t, n := n, defers := [], round := some l } { tmps := roundTmps r cargs, defers := [] } := by
    rw [htm]
    exact ⟨q2, q3, .nil⟩
  have hRn := hR.note l 0 big false
  have hc := comp_sim (rd := some cl) hE hs hl assign hRn hA ⟨cl, sh, sz, hρ, rfl⟩ hrun
  rw [hm.assign, hm.body]
  refine wpIn_mono hc fun ex ca1 w1 hx => ?_
  unfold roundBody at h
  cases x1 <;> simp only [reduceCtorEq] at h
  obtain ⟨rfl, ρ1, hle1, hA1, hR1⟩ := hx
  simp only [Option.bind_eq_some_iff, Prod.exists] at h
  obtain ⟨o, s2, hg, h⟩ := h
  obtain ⟨hb1, rfl⟩ := getO_inv hg
  cases o <;> simp only [reduceCtorEq] at h
  rename_i st1 pend1 tmps1 n1 params1 assign1 body1
  cases hok : (Nat.beq st1 0 && Nat.beq a1.defers.length 0) with
  | false => rw [hok] at h; cases h
  | true =>
  rw [hok] at h
  simp only [cond_true, Option.bind_eq_some_iff, Prod.exists] at h
  obtain ⟨x3, a3, s3, hrun3, hend⟩ := h
  simp only [Bool.and_eq_true] at hok
  obtain ⟨_, r1, hw1, hm1⟩ := loop_of hR1 hb1 (hle1 _ _ hρ)
  have hready : r1.state = .ready := loopSt_ready (by rw [hm1.st]; exact Nat.eq_of_beq_eq_true hok.1)
  refine ⟨_, run_beginRound hw1 hready, ?_⟩
  have hR2 : Rel E w0 ρ1 (setO (s1.note l 0 big false) l (.loop 2 pend1 tmps1 n1 params1 assign1 body1)) (w1.putObj cl (.loop { r1 with state := .busy })) :=
    loop_write hR1 hb1 (hle1 _ _ hρ) hw1 ⟨rfl, hm1.pend, hm1.n, hm1.tmp, hm1.params, hm1.assign, hm1.body⟩
  have hc2 := comp_sim (rd := some cl) hE hs hl body hR2 hA1 (by rw [comp_round assign hrun]; exact ⟨cl, sh, sz, hle1 _ _ hρ, rfl⟩) hrun3
  refine wpIn_mono hc2 fun ex3 ca3 w3 hx3 => ?_
  -- the round's end
  unfold roundEnd at hend
  cases hd3 : Nat.beq a3.defers.length 0 with
  | false => simp only [hd3, cond_false, reduceCtorEq] at hend
  | true =>
  simp only [hd3, cond_true] at hend
  have fin : ∀ {ρ3 : Rho} (jump : Option Code) (st' : Nat), ρ1.le ρ3 → Rel E w0 ρ3 s3 w3 → st' = (if jump.isNone then 0 else 1) → endRound l st' jump jump.isNone s3 = some (e, s') → ∃ v w', (Instr.endRound cl jump).run P w3 = .ok v w' ∧ EnSim E w0 ρ s' e (.returned v) w' := by
    intro ρ3 jump st' hle3 hR3 hst hh
    unfold endRound at hh
    simp only [Option.bind_eq_some_iff, Prod.exists] at hh
    obtain ⟨o, s4, hg4, hh⟩ := hh
    obtain ⟨hb4, rfl⟩ := getO_inv hg4
    cases o <;> simp only [reduceCtorEq, Option.some.injEq, Prod.mk.injEq] at hh
    obtain ⟨rfl, rfl⟩ := hh
    have hρ3 := hle3 _ _ (hle1 _ _ hρ)
    obtain ⟨_, r3, hw3, hm3⟩ := loop_of hR3 hb4 hρ3
    refine ⟨_, _, run_endRound jump hw3, ρ3, _, rfl, Rho.le_trans hle1 hle3, .bool _, loop_write hR3 hb4 hρ3 hw3 ⟨?_, rfl, hm3.n, hm3.tmp, hm3.params, hm3.assign, hm3.body⟩⟩
    rw [hst]
    cases jump <;> rfl
  cases x3 with
  | norm =>
    obtain ⟨rfl, ρ3, hle3, _, hR3⟩ := hx3
    exact fin none 0 hle3 hR3 rfl hend
  | ret =>
    obtain ⟨rfl, ρ3, hle3, _, hR3⟩ := hx3
    exact fin (some .ret) 1 hle3 hR3 rfl hend
  | exit id =>
    obtain ⟨rfl, ρ3, hle3, _, hR3⟩ := hx3
    exact fin (some (.exit id)) 1 hle3 hR3 rfl hend
  | pan v => cases hend

/-- WHAT THE EVALUATOR SAYS OF A CALL HOLDS -/
theorem ev_sim (hE : EnvOk P E) (hK : KnOk P E) : ∀ n, EVSim P E (ev E n)
  | 0 => ⟨fun _ _ _ _ _ _ _ _ _ _ _ h => (by cases h), fun _ _ _ _ _ _ _ _ _ _ _ _ _ _ _ h => (by cases h)⟩
  | n + 1 => ⟨fun w0 ρ s w f args cargs e s' hR hv h => stepF_sim hE hK.sim (ev_sim hE hK n) (loc_ev E hK.loc n) w0 ρ s w f args cargs e s' hR hv h, fun w0 ρ s w l args cargs e s' cl sh sz hR hρ hv h => stepR_sim hE (ev_sim hE hK n) (loc_ev E hK.loc n) w0 ρ s w l args cargs e s' cl sh sz hR hρ hv h⟩
end
end Go.Proofs.YtjaibhpfhdmikacGreatDoor.Ev

/-
  CLOSING: a call of a function without parameters, run by the evaluator, is that call in the model, whatever the world; and a row's last step.
-/
namespace Go.Proofs.YtjaibhpfhdmikacGreatDoor.Ev
open Go.RowKit Go.WideShapes Go.ChangeShapes

/-- nothing is known of memory -/
def s0 : St := { heap := .nil, next := 0, on := false, log := [] }
/-- the world as it was, all of it kept -/
def base0 (w : World) : Base :=
  { w := w, pt := { prot := fun k => k < w.heap.size, old := fun k => k < w.heap.size, sub := fun _ h => h }, out := fun _ => False, lo := 0, protLt := fun _ h => h, outLt := fun _ h => h.elim }

theorem rel0 {E : Env} (hg : ∀ g, E.glob.get g = none) (w : World) : Rel E (base0 w) (fun _ => none) s0 w :=
  ⟨⟨rfl, rfl, rfl, Nat.le_refl _, fun _ _ => rfl⟩, fun _ _ => rfl, Nat.le_refl _, fun b o h => by simp [s0, Tr.get_nil] at h, fun b b' o o' cb sh sz sh' sz' h => by simp [s0, Tr.get_nil] at h, fun g b h => by rw [hg] at h; cases h⟩

theorem below_of_rel {E : Env} {ρ : Rho} {s : St} {w w' : World} (h : Rel E (base0 w) ρ s w') : Below w.heap.size w w' :=
  ⟨h.below.os, h.below.tape, h.below.output, h.below.size, fun k hk => h.below.block k hk⟩

/-- did the evaluator come to true? -/
def saysTrue : Option (En × St) → Bool
  | some (.ret (.bool b), _) => b
  | _ => false

theorem closed_walk {P : Program} {E : Env} (hE : EnvOk P E) (hK : KnOk P E) (hg : ∀ g, E.glob.get g = none) {n : Nat} {f : FuncId} (h : saysTrue ((ev E n).f f [] s0) = true) (w : World) :
    Calls P f #[] w fun e w' => e = .returned (.bool true) ∧ Below w.heap.size w w' := by
  cases hr : (ev E n).f f [] s0 with
  | none => rw [hr] at h; cases h
  | some q =>
    obtain ⟨e, s'⟩ := q
    rw [hr] at h
    have hb : e = .ret (.bool true) := by
      cases e with
      | ret v =>
        cases v <;> simp only [saysTrue, Bool.false_eq_true] at h
        subst h; rfl
      | pan v => cases h
    subst hb
    refine ((ev_sim hE hK n).call (base0 w) _ s0 w f [] #[] _ s' (rel0 hg w) .nil hr).mono fun ce w' hce => ?_
    obtain ⟨ρ', cv, rfl, _, hv, hR⟩ := hce
    cases hv
    exact ⟨rfl, below_of_rel hR⟩

/-! ### a row's last step, where what was there is kept -/

theorem post_kept {H : Type} {enc : TypeId × Value → H} {P : Program} {f : Func} {s : ChangeSpec} {apart fresh handsOn again : Bool} {W W' : World} {args : Array Value} {v : Value} {ds gs : List (DataW H)} {before pa pv : List MemPlace}
    (hW : DataW.Whole enc P f.params.toList s.vars apart W args.toList ds gs before)
    (hres : ∀ (b : Nat) (sp : Nat → Bool) (hd : Bool), DataW.TrodAll enc P W' b sp hd f.resultTypes.toList (v.resultList f.resultTypes.size) (s.fn H (ds ++ gs)).results [])
    (hargs : ∀ sp : Nat → Bool, (∀ p ∈ before, sp p.block = true) → DataW.TrodAll enc P W' 0 sp true f.params.toList args.toList (s.fn H (ds ++ gs)).args pa)
    (hvars : ∀ sp : Nat → Bool, (∀ p ∈ before, sp p.block = true) → DataW.TrodVars enc P W' sp s.vars (s.fn H (ds ++ gs)).vars pv)
    (hps : before = pa ++ pv) (hb : Below W.heap.size W W')
    (hok : ∀ (j : Nat) (t : TypeId) (r : Value), f.resultTypes[j]? = some t → (v.resultList f.resultTypes.size)[j]? = some r → Value.okWide P W' .any 0 t r) :
    s.post enc P f apart fresh handsOn again W args v W' := by
  have hlt : ∀ p ∈ before, p.block < W.heap.size := fun p hp => hW.lt p hp
  have hold : ∀ p ∈ before, (fun b => decide (b < W.heap.size)) p.block = true := fun p hp => by simpa using hlt p hp
  refine ⟨ds, gs, before, [], pa, pv, hW, hres _ _ _, hargs _ hold, hvars _ hold, World.keptBut_mono (fun p hp => ⟨hp, ?_⟩) (hb.frame (· ∈ before)), fun _ => ?_⟩
  · rw [hps, List.mem_append] at hp
    exact Or.inr hp
  · obtain ⟨_, _, _, _, _, hz, hn⟩ := hW
    refine ⟨hok, _, _, ([] ++ pa) ++ pv, ⟨[] ++ pa, pv, trodAll_append (hargs _ (fun _ _ => rfl)) (hres _ _ _), hvars _ (fun _ _ => rfl), rfl, ?_, ?_⟩, ?_⟩
    · intro b off hp
      have hin : MemPlace.cell b off ∈ before := by rw [hps]; simpa using hp
      rw [hb.frozen (hlt _ hin)]
      exact hz b off hin
    · intro ha
      have := hn ha
      rw [hps] at this
      simpa using this
    · intro p hp _
      rw [hps]
      simpa using hp
end Go.Proofs.YtjaibhpfhdmikacGreatDoor.Ev

/-
  FUNCTIONS THAT ARE KNOWN: strings.Repeat.
-/
namespace Go.Proofs.YtjaibhpfhdmikacGreatDoor.Ev
open Go.RowKit

section
variable {P : Program} {E : Env} {w0 : Base} {ρ : Rho} {s : St} {w w' : World}

/-- what lies there stays: all that is known of it, too -/
theorem Rel.grown (h : Rel E w0 ρ s w) (hb : Below w.heap.size w w') : Rel E w0 ρ s w' := by
  refine ⟨⟨hb.os.trans h.below.os, hb.tape.trans h.below.tape, hb.output.trans h.below.output, Nat.le_trans h.below.size hb.size, fun k hk => ?_⟩, h.dom, h.lo, fun b o ho => ?_, h.sep, h.glob⟩
  · exact (hb.block k (Nat.lt_of_lt_of_le (w0.protLt k hk) h.below.size)).trans (h.below.block k hk)
  · have hO := h.obj b o ho
    cases ha : o.alive with
    | false => cases o <;> simp only [O.alive, Bool.true_eq_false] at ha; trivial
    | true =>
      obtain ⟨cb, sh, sz, hρ, hlt⟩ := hO.place ha
      refine OR.of_same (Rho.le_refl ρ) hO fun cb' sh' sz' h' => ?_
      rw [hρ] at h'
      simp only [Option.some.injEq, Prod.mk.injEq] at h'
      obtain ⟨rfl, rfl, rfl⟩ := h'
      exact hb.block cb hlt

/-! ### strings.Repeat -/

theorem geo (p : Nat) (hp : 1 < p) : ∀ c, (p ^ (c + 1) - 1) / (p - 1) = 1 + p * ((p ^ c - 1) / (p - 1)) := by
  have key : ∀ c, ∃ g, p ^ c - 1 = (p - 1) * g := by
    intro c
    induction c with
    | zero => exact ⟨0, by simp⟩
    | succ c ih =>
      obtain ⟨g, hg⟩ := ih
      refine ⟨1 + p * g, ?_⟩
      have h1 : 0 < p ^ c := Nat.pow_pos (by omega)
      have h2 : p ^ c = (p - 1) * g + 1 := by omega
      rw [Nat.pow_succ, h2, Nat.mul_add, Nat.add_mul, Nat.one_mul, Nat.mul_one, Nat.mul_comm p g, Nat.mul_assoc]
      omega
  intro c
  obtain ⟨g, hg⟩ := key c
  have h1 : 0 < p ^ c := Nat.pow_pos (by omega)
  have h2 : p ^ c = (p - 1) * g + 1 := by omega
  have h3 : p ^ (c + 1) - 1 = (p - 1) * (1 + p * g) := by
    rw [Nat.pow_succ, h2, Nat.mul_add, Nat.add_mul, Nat.one_mul, Nat.mul_one, Nat.mul_comm p g, Nat.mul_assoc]
    omega
  rw [h3, hg, Nat.mul_div_cancel_left _ (by omega), Nat.mul_div_cancel_left _ (by omega)]

theorem repP_spec (l : List UInt8) (h0 : 0 < l.length) : ∀ c, pack (Lib.repeatL l c) = repP l.length (pack l) c
  | 0 => by simp [Lib.repeatL, repP, pack]
  | c + 1 => by
    have hp : 1 < 256 ^ l.length := Nat.one_lt_pow (by omega) (by omega)
    rw [Lib.repeatL, pack_append, repP_spec l h0 c]
    unfold repP
    rw [Nat.pow_mul, Nat.pow_mul, geo _ hp c, Nat.mul_add, Nat.mul_one]
    congr 1
    rw [← Nat.mul_assoc, ← Nat.mul_assoc, Nat.mul_comm (256 ^ l.length)]

/-- strings.Repeat's contract -/
def RepeatOk (P : Program) (f : FuncId) : Prop :=
  ∀ (s : ByteArray) (c : Nat) (w : World), c ≤ 9223372036854775807 → s.size * c ≤ 140737488355328 →
    Calls P f #[.string s, .int .i64 c] w fun e w' => e = .returned (.string ⟨(Lib.repeatL s.data.toList c).toArray⟩) ∧ Below w.heap.size w w'

/-- a function is known well -/
structure KnWell (P : Program) (E : Env) (f : FuncId) (g : KF) : Prop where
  loc : ∀ args, LocP fun s => g.run args s
  sim : ∀ (w0 : Base) (ρ : Rho) (s : St) (w : World) (args : List V) (cargs : Array Value) (v : V) (s' : St),
    Rel E w0 ρ s w → VRels ρ args cargs.toList → g.run args s = some (v, s') → Calls P f cargs w (EnSim E w0 ρ s' (.ret v))

theorem repeat_well {f : FuncId} (h : RepeatOk P f) : KnWell P E f knRepeat := by
  refine ⟨fun args => ?_, fun w0 ρ s w args cargs v s' hR hv hg => ?_⟩
  · unfold knRepeat
    dsimp only
    split
    · exact Loc.cond (LocP.ret _) Loc.none
    · exact Loc.none
  · unfold knRepeat at hg
    dsimp only at hg
    split at hg
    · rename_i l n c
      cases hc : (Nat.blt 0 l && Nat.ble (l * c) 140737488355328 && Nat.ble c 9223372036854775807) with
      | false => rw [hc] at hg; cases hg
      | true =>
        rw [hc] at hg
        simp only [Bool.and_eq_true, blt_true, ble_true] at hc
        obtain ⟨⟨h0, h1⟩, h2⟩ := hc
        simp only [cond_true, Option.some.injEq, Prod.mk.injEq] at hg
        obtain ⟨rfl, rfl⟩ := hg
        obtain ⟨l'⟩ := cargs
        cases hv with
        | cons hs ht =>
        cases ht with
        | cons hi hn =>
        cases hn
        cases hs with
        | str str =>
        cases hi
        have hsz : str.size = str.data.toList.length := by rw [Array.length_toList]; rfl
        refine (h str c w h2 (by rw [hsz]; exact h1)).mono fun e w' hw => ?_
        obtain ⟨rfl, hb⟩ := hw
        refine ⟨ρ, _, rfl, Rho.le_refl ρ, ?_, hR.grown hb⟩
        have := VRel.str (ρ := ρ) ⟨(Lib.repeatL str.data.toList c).toArray⟩
        rw [show (⟨(Lib.repeatL str.data.toList c).toArray⟩ : ByteArray).data.toList = Lib.repeatL str.data.toList c by simp, Lib.repeatL_length, repP_spec _ h0 c, Nat.mul_comm] at this
        exact this
    · cases hg
end
end Go.Proofs.YtjaibhpfhdmikacGreatDoor.Ev

/-
  THE PROGRAM'S TABLES for the evaluator, made of a program; and that they are well.
-/
namespace Go.Proofs.YtjaibhpfhdmikacGreatDoor.Ev

noncomputable def marks : List Nat → Tr Unit
  | [] => .nil
  | t :: l => (marks l).set () t
noncomputable def kinds {α : Type} : List (Nat × α) → Tr α
  | [] => .nil
  | p :: l => (kinds l).set p.2 p.1

/-- the tables of a program: types that are plain, functions without a body that the evaluator knows -/
noncomputable def envOf (P : Program) (pl : List TypeId) (ex : List (FuncId × Nat)) (kn : List (FuncId × KF)) (li : List (Nat × Nat × Nat)) : Env :=
  { fns := Tr.ofListFrom .nil P.funcs.toList 0, tys := Tr.ofListFrom .nil P.types.toList 0, plain := marks pl, ext := kinds ex, glob := .nil, kn := kinds kn, lie := li }

theorem marks_get : ∀ {l : List Nat} {t : Nat} {u : Unit}, (marks l).get t = some u → t ∈ l
  | [], t, u, h => by simp [marks, Tr.get_nil] at h
  | x :: l, t, u, h => by
    simp only [marks, Tr.get_set] at h
    by_cases e : t = x
    · exact e ▸ List.mem_cons_self ..
    · rw [if_neg e] at h; exact List.mem_cons_of_mem _ (marks_get h)
theorem kinds_get {α : Type} : ∀ {l : List (Nat × α)} {f : Nat} {k : α}, (kinds l).get f = some k → (f, k) ∈ l
  | [], f, k, h => by simp [kinds, Tr.get_nil] at h
  | p :: l, f, k, h => by
    simp only [kinds, Tr.get_set] at h
    by_cases e : f = p.1
    · rw [if_pos e] at h
      simp only [Option.some.injEq] at h
      subst h; subst e
      exact List.mem_cons_self ..
    · rw [if_neg e] at h; exact List.mem_cons_of_mem _ (kinds_get h)

def notCount (l : List Func) : Bool := l.all fun fn => !(fn.name == "runtime.NumGoroutine")
def bodiless (P : Program) (ex : List (FuncId × Nat)) : Bool := ex.all fun p => match P.funcs[p.1]? with | some fn => fn.body.isNone | none => true
def plainAll (P : Program) (pl : List TypeId) : Bool := pl.all fun t => !P.eqGuardType P.depth t && !P.stoodInHeld t

def lieAll (P : Program) (li : List (Nat × Nat × Nat)) : Bool := li.all fun p => rowAt P (sameLayout P P.depth · p.2.2) P.depth p.1 1 p.2.1 1

theorem envOf_ok {P : Program} {pl : List TypeId} {ex : List (FuncId × Nat)} {kn : List (FuncId × KF)} {li : List (Nat × Nat × Nat)} (hnames : notCount P.funcs.toList = true) (hbody : bodiless P ex = true) (hplain : plainAll P pl = true) (hext : ∀ p ∈ ex, ExtOk P p.1 p.2) (hmixed : P.follows .mixedOrders = true) (hlie : lieAll P li = true) (hdepth : Nat.blt 0 P.depth = true) :
    EnvOk P (envOf P pl ex kn li) := by
  have hfns : ∀ f fn, (envOf P pl ex kn li).fns.get f = some fn → P.funcs[f]? = some fn := fun f fn h => by
    have h' : (Tr.ofListFrom .nil P.funcs.toList 0).get f = some fn := h
    rw [Tr.get_ofList] at h'
    simpa using h'
  refine ⟨fun t i h => ?_, hfns, fun f hb _ args w => ?_, fun f k h => hext (f, k) (kinds_get h), fun f k h => ?_, fun t h => ?_, hmixed, fun p hp => List.all_eq_true.1 hlie p hp, blt_true.1 hdepth⟩
  · have h' : (Tr.ofListFrom .nil P.types.toList 0).get t = some i := h
    rw [Tr.get_ofList] at h'
    have h2 : P.types[t]? = some i := by simpa using h'
    unfold Tables.info?
    rw [if_pos (Array.getElem?_eq_some_iff.1 h2).1]
    exact h2
  · unfold hasBody at hb
    cases hf : (envOf P pl ex kn li).fns.get f with
    | none => rw [hf] at hb; cases hb
    | some fn =>
      rw [hf] at hb
      have hfn := hfns f fn hf
      have hmem : fn ∈ P.funcs.toList := by
        have := Array.mem_of_getElem? hfn
        simpa using this
      have hn := List.all_eq_true.1 hnames fn hmem
      simp only [Bool.not_eq_true'] at hn
      have hn' : ¬ fn.name = "runtime.NumGoroutine" := by simpa using hn
      have hbody : ¬ fn.body = none := fun e => by simp [e] at hb
      simp [callFunc, hfn, hn', hbody]
  · have hb := List.all_eq_true.1 hbody (f, k) (kinds_get h)
    unfold hasBody
    cases hf : (envOf P pl ex kn li).fns.get f with
    | none => rfl
    | some fn =>
      have hfn := hfns f fn hf
      simp only [hfn] at hb
      cases hb2 : fn.body with
      | none => simp [hb2]
      | some c => rw [hb2] at hb; cases hb
  · have := List.all_eq_true.1 hplain t (marks_get h)
    simp only [Bool.and_eq_true, Bool.not_eq_true'] at this
    exact this

theorem knOk_of {P : Program} {pl : List TypeId} {ex : List (FuncId × Nat)} {kn : List (FuncId × KF)} {li : List (Nat × Nat × Nat)} (h : ∀ p ∈ kn, KnWell P (envOf P pl ex kn li) p.1 p.2) : KnOk P (envOf P pl ex kn li) :=
  ⟨fun f g hg args => (h (f, g) (kinds_get hg)).loc args, fun f g hg w0 ρ s w args cargs v s' hR hv hr => (h (f, g) (kinds_get hg)).sim w0 ρ s w args cargs v s' hR hv hr⟩
end Go.Proofs.YtjaibhpfhdmikacGreatDoor.Ev
