/-
  THE EVALUATOR AND ITS SOUNDNESS: what it says of a call holds of the call in the model, in whatever world, on whatever tape, part 4 of 4 (no condition).
-/
import Derived.Test.YthmkdoaaciamlaaEv3
/-
  VARIABLES OF SEVERAL CELLS: arrays and structs in the state, told by their cells.
-/
namespace Go.Proofs.Ythmkdoaaciamlaa.Ev

/-- a variable of a call's own, by its cells -/
structure VarAt (s : St) (b e z : Nat) (l : List V) : Prop where
  pos : 0 < z
  fit : z < big
  len : l.length = z
  row : ∃ c, s.heap.get b = some (.cells e z 1 false c) ∧ ∀ (i : Nat) v, l[i]? = some v → cellOf c z i = some v

theorem VarAt.grew {W : Nat → Prop} {s t : St} {b e z : Nat} {l : List V} (h : VarAt s b e z l) (hb : b < s.next) (hw : ¬ W b) (g : Grew W s t) : VarAt t b e z l := by
  obtain ⟨c, h1, h2⟩ := h.row
  exact ⟨h.pos, h.fit, h.len, c, by rw [g.keep b hb hw]; exact h1, h2⟩

section
variable {s : St}

theorem VarAt.ld (ho : s.on = false) {b e z i : Nat} {l : List V} {v : V} (h : VarAt s b e z l) (hi : l[i]? = some v) : ld s b i = some (v, s) := by
  obtain ⟨c, h1, h2⟩ := h.row
  have hlt := (List.getElem?_eq_some_iff.1 hi).1
  have := h.len
  exact ld_of ho h1 (by omega) (by have := h.fit; omega) (h2 i v hi)

theorem cellOf_zero {c : Tr (Tr V)} {z i : Nat} (hi : i < z) : cellOf c z i = (c.get 0).bind fun t => t.get i := by
  unfold cellOf
  rw [Nat.div_eq_of_lt hi, Nat.mod_eq_of_lt hi]

theorem VarAt.st (ho : s.on = false) {b e z i : Nat} {l : List V} (h : VarAt s b e z l) (hi : i < z) (v : V) : ∃ t, stK s b i 1 (one v) = some t ∧ VarAt t b e z (l.set i v) ∧ Grew (fun x => x = b) s t ∧ t.next = s.next := by
  obtain ⟨c, h1, h2⟩ := h.row
  have hl := h.len
  have hf := h.fit
  obtain ⟨u, hu⟩ : ∃ u, l[0]? = some u := ⟨_, List.getElem?_eq_getElem (by have := h.pos; omega)⟩
  have h0 := h2 0 u hu
  rw [cellOf_zero h.pos, Option.bind_eq_some_iff] at h0
  obtain ⟨t0, ht0, _⟩ := h0
  have hv0 : (one v).get 0 = some v := rfl
  have hel : ∃ c', elemTo c z i 1 (one v) = some c' ∧ ∀ j, j < z → cellOf c' z j = if j = i then some v else cellOf c z j := by
    unfold elemTo
    cases hc : (Nat.beq 1 z && Nat.beq (i % z) 0) with
    | true =>
      simp only [Bool.and_eq_true, beq_true] at hc
      obtain ⟨rfl, _⟩ := hc
      simp only [cond_true, Tr.setC_eq]
      refine ⟨_, rfl, fun j hj => ?_⟩
      obtain rfl : i = 0 := by omega
      obtain rfl : j = 0 := by omega
      rw [if_pos rfl, cellOf_zero (by omega), Nat.div_one, Tr.get_set_same]
      rfl
    | false =>
      simp only [cond_false, cellsTo, Tr.setC_eq, hv0, Option.bind_some, Nat.add_zero, Nat.div_eq_of_lt hi, Nat.mod_eq_of_lt hi, ht0]
      refine ⟨_, rfl, fun j hj => ?_⟩
      rw [cellOf_zero hj, Tr.get_set_same, Option.bind_some, Tr.get_set]
      by_cases e1 : j = i
      · rw [if_pos e1, if_pos e1]
      · rw [if_neg e1, if_neg e1, cellOf_zero hj, ht0]; rfl
  obtain ⟨c', hc', hcell⟩ := hel
  refine ⟨s.put b (.cells e z 1 false c'), ?_, ⟨h.pos, h.fit, by rw [List.length_set]; exact hl, c', by rw [put_get, if_pos rfl], fun j w hj => ?_⟩, grew_put b _, rfl⟩
  · unfold stK
    rw [h1]
    simp only [Nat.mul_one, ble_true.2 (show i + 1 ≤ z by omega), blt_true.2 hf, Bool.and_self, Bool.not_false, cond_true, hc', Option.bind_some, note_off ho]
  · have hlt := (List.getElem?_eq_some_iff.1 hj).1
    rw [List.length_set] at hlt
    rw [hcell j (by omega)]
    by_cases e1 : j = i
    · subst e1
      rw [List.getElem?_set_self (by omega)] at hj
      rw [if_pos rfl]; exact hj
    · rw [if_neg e1]
      rw [List.getElem?_set_ne (fun h => e1 h.symm)] at hj
      exact h2 j w hj

/-- a new variable -/
theorem varAt_new (ho : s.on = false) {t z : Nat} {l : List V} (hl : l.length = z) (hz : 0 < z) (hf : z < big) : VarAt (nwP t z (Tr.ofListFrom .nil l 0) s).2 s.next t z l := by
  refine ⟨hz, hf, hl, Tr.ofListFrom .nil [Tr.ofListFrom .nil l 0] 0, ?_, fun i v hi => ?_⟩
  · show (newCells s t z [_]).heap.get s.next = _
    unfold newCells
    rw [nw_get, if_pos rfl]; rfl
  · have hlt := (List.getElem?_eq_some_iff.1 hi).1
    rw [cellOf_zero (by omega), Tr.get_ofList]
    simp only [List.getElem?_cons_zero, Option.bind_some, Tr.get_ofList]
    exact hi
theorem grew_nwP (ho : s.on = false) (W : Nat → Prop) (t z : Nat) (c : Tr V) : Grew W s (nwP t z c s).2 := grew_nw ho W _

theorem VarAt.ldK1 (ho : s.on = false) {b e z i : Nat} {l : List V} {v : V} (h : VarAt s b e z l) (hz : 1 < z) (hi : l[i]? = some v) : ldK s b i 1 = some (one v, s) := by
  obtain ⟨c, h1, h2⟩ := h.row
  have hlt := (List.getElem?_eq_some_iff.1 hi).1
  have hl := h.len
  have hf := h.fit
  unfold ldK
  rw [h1]
  simp only [Nat.mul_one, ble_true.2 (show i + 1 ≤ z by omega), blt_true.2 hf, Bool.and_self, cond_true, note_off ho]
  unfold elemIn
  rw [show Nat.beq 1 z = false from beq_false.2 (by omega)]
  simp only [Bool.false_and, cond_false, Option.bind_some]
  have hc := h2 i v hi
  unfold cellOf at hc
  unfold cellsAt
  simp only [Nat.add_zero]
  rw [hc]
  simp only [Tr.setC_eq]
  rfl
theorem VarAt.ldN1 (ho : s.on = false) {b e z : Nat} {l : List V} (h : VarAt s b e z l) (hz : 1 < z) : ∀ (n i : Nat), i + n ≤ z → ldN b 1 n i s = some (((l.drop i).take n).map one, s)
  | 0, i, _ => by simp [ldN]
  | n + 1, i, hle => by
    have hl := h.len
    have hlt : i < l.length := by omega
    unfold ldN
    rw [h.ldK1 ho hz (List.getElem?_eq_getElem hlt)]
    simp only [Option.bind_some]
    rw [VarAt.ldN1 ho h hz n (i + 1) (by omega)]
    simp only [Option.bind_some]
    rw [List.drop_eq_getElem_cons hlt, List.take_succ_cons]; rfl
end
end Go.Proofs.Ythmkdoaaciamlaa.Ev

/-
  FUNCTIONS THAT CALL THEMSELVES: known where the argument is smaller; and boxes that are only read.
-/
namespace Go.Proofs.Ythmkdoaaciamlaa.Ev
open Classical

/-! ### recursion -/

theorem knAdd_same {K : FuncId → Option KF} {f : FuncId} {g : KF} : knAdd K f g f = some g := by
  unfold knAdd
  rw [show Nat.beq f f = true from beq_true.2 rfl]; rfl
theorem knAdd_other {K : FuncId → Option KF} {f x : FuncId} {g : KF} (h : x ≠ f) : knAdd K f g x = K x := by
  unfold knAdd
  rw [show Nat.beq x f = false from beq_false.2 h]; rfl

/-- what is known but of one -/
noncomputable def knBut (K : FuncId → Option KF) (f : FuncId) : FuncId → Option KF := fun x => bif Nat.beq x f then none else K x
theorem knBut_sim {P : Program} {E : Env} {K : FuncId → Option KF} (h : KnOk P E K) (f : FuncId) : KnSim P E (knBut K f) := fun x y hx => by
  unfold knBut at hx
  cases hb : Nat.beq x f with
  | true => rw [hb] at hx; cases hx
  | false => rw [hb] at hx; exact h.sim x y hx
theorem knBut_same {K : FuncId → Option KF} {f : FuncId} : knBut K f f = none := by
  unfold knBut
  rw [show Nat.beq f f = true from beq_true.2 rfl]; rfl

/-- a function by what its own text comes to, where what it calls is known -/
theorem knWell_text {P : Program} {E : Env} {K : FuncId → Option KF} {f : FuncId} {g : KF} {fn : Func} {c : Code} {d : D} (hE : EnvOk P E) (hK : KnOk P E K) (hf : E.fns.get f = some fn) (hb : fn.body = some c) (hd : isOf d c) (loc : ∀ args, LocP fun s => g.run args s)
    (h : ∀ args s e t, g.run args s = some (e, t) → ∃ n e1 s1, runF E (ev E K n) rounds fn d args s.off = some (e1, s1) ∧ Less s t s1 ∧ FzEn s1 s.next e1 e) : KnWell P E f g := by
  refine ⟨loc, fun w0 ρ s w args cargs e t hR hv hg => ?_⟩
  obtain ⟨n, e1, s1, h1, h2, h3⟩ := h args s e t hg
  have hR' : Rel E w0 ρ s.off w := hR.congr rfl rfl
  have h1' := runF_sound (K := knBut K f) hf hb hd knBut_same h1
  exact (stepF_sim hE (knBut_sim hK f) (ev_sim hE hK n) (loc_ev E hK.loc n) w0 ρ s.off w f args cargs e1 s1 hR' hv h1').mono fun ce w' hce => enSim_less hR h2 h3 hce

theorem specKF_loc {α : Type} {enc : α → List V} {out : α → En} (args : List V) : LocP fun s => (specKF enc out).run args s := by
  unfold specKF
  simp only
  by_cases hx : ∃ x, enc x = args
  · simp only [dif_pos hx]; exact LocP.ret _
  · simp only [dif_neg hx]; exact Loc.none

/-- a function that only reckons, by its own text -/
theorem specKF_text {P : Program} {E : Env} {K : FuncId → Option KF} {f : FuncId} {fn : Func} {c : Code} {d : D} {α : Type} {enc : α → List V} {out : α → En} (hE : EnvOk P E) (hK : KnOk P E K) (hf : E.fns.get f = some fn) (hb : fn.body = some c) (hd : isOf d c)
    (h : ∀ x s, s.on = false → ∃ n e1 s1, runF E (ev E K n) rounds fn d (enc x) s = some (e1, s1) ∧ Grew (fun _ => False) s s1 ∧ FzEn s1 s.next e1 (out x)) : KnWell P E f (specKF enc out) := by
  refine knWell_text hE hK hf hb hd specKF_loc fun args s e t hr => ?_
  unfold specKF at hr
  simp only at hr
  by_cases hx : ∃ x, enc x = args
  · rw [dif_pos hx] at hr
    simp only [Option.some.injEq, Prod.mk.injEq] at hr
    obtain ⟨rfl, rfl⟩ := hr
    obtain ⟨n, e1, s1, h1, h2, h3⟩ := h hx.choose s.off rfl
    rw [hx.choose_spec] at h1
    refine ⟨n, e1, s1, h1, ⟨rfl, h2.next, fun b o hb hlt => ?_, fun b o hb => .inl hb⟩, h3⟩
    rw [h2.keep b hlt (fun h => h)]
    exact hb
  · rw [dif_neg hx] at hr; cases hr

/-- a function that only reckons, and calls itself where a measure falls -/
theorem specKF_rec {P : Program} {E : Env} {K : FuncId → Option KF} {f : FuncId} {fn : Func} {c : Code} {d : D} {α : Type} {enc : α → List V} {out : α → En} (μ : α → Nat) (hinj : ∀ x y, enc x = enc y → out x = out y ∧ μ x = μ y) (hE : EnvOk P E) (hK : KnOk P E K) (hf : E.fns.get f = some fn) (hb : fn.body = some c) (hd : isOf d c)
    (step : ∀ K', (∀ g, g ≠ f → K' g = K g) → ∀ x s, (∀ y s n, μ y < μ x → (ev E K' (n + 1)).f f (enc y) s = some (out y, s)) → s.on = false → ∃ n e1 s1, runF E (ev E K' n) rounds fn d (enc x) s = some (e1, s1) ∧ Grew (fun _ => False) s s1 ∧ FzEn s1 s.next e1 (out x)) : KnWell P E f (specKF enc out) := by
  have key : ∀ m, KnWell P E f (specKF (fun x : {x : α // μ x < m} => enc x.1) (fun x => out x.1)) := fun m => by
    induction m with
    | zero => exact specKF_text hE hK hf hb hd fun x => absurd x.2 (Nat.not_lt_zero _)
    | succ m ih =>
      refine specKF_text hE (hK.add ih) hf hb hd fun x s ho => ?_
      refine step _ (fun g hg => knAdd_other hg) x.1 s (fun y s n hy => ?_) ho
      have hx := x.2
      rw [ev_known knAdd_same]
      exact specKF_run (enc := fun x : {x : α // μ x < m} => enc x.1) (out := fun x => out x.1) (fun x y h => (hinj x.1 y.1 h).1) ⟨y, by omega⟩ s
  refine ⟨specKF_loc, fun w0 ρ s w args cargs e t hR hv hg => ?_⟩
  unfold specKF at hg
  simp only at hg
  by_cases hx : ∃ x, enc x = args
  · rw [dif_pos hx] at hg
    simp only [Option.some.injEq, Prod.mk.injEq] at hg
    obtain ⟨rfl, rfl⟩ := hg
    refine (key (μ hx.choose + 1)).sim w0 ρ s w args cargs _ s hR hv ?_
    have := specKF_run (enc := fun x : {x : α // μ x < μ hx.choose + 1} => enc x.1) (out := fun x => out x.1) (fun x y h => (hinj x.1 y.1 h).1) ⟨hx.choose, by omega⟩ s
    rw [show enc hx.choose = args from hx.choose_spec] at this
    exact this
  · rw [dif_neg hx] at hg; cases hg

/-! ### boxes -/

/-- a variable of several cells, just as it was laid -/
def Bx (s : St) (b e : Nat) (l : List V) : Prop := s.heap.get b = some (.cells e l.length 1 false (Tr.ofListFrom .nil [Tr.ofListFrom .nil l 0] 0))
/-- what a reading in a region that draws its order leaves -/
noncomputable def rd (s : St) (b o k : Nat) : St := { s with on := true, log := [{ b := b, lo := o, hi := o + k, w := false }] }

section
variable {s : St}
theorem Bx.grew {W : Nat → Prop} {t : St} {b e : Nat} {l : List V} (h : Bx s b e l) (hb : b < s.next) (hw : ¬ W b) (g : Grew W s t) : Bx t b e l := by
  unfold Bx at h ⊢
  rw [g.keep b hb hw]; exact h
theorem rd_log (b o k : Nat) : (rd s b o k).log = [{ b := b, lo := o, hi := o + k, w := false }] := rfl
theorem onS_rd (b o k : Nat) : onS (rd s b o k) = onS s := rfl
theorem onS_onS : onS (onS s) = onS s := rfl
theorem onS_log : (onS s).log = [] := rfl
theorem relog_rd (h : s.on = false) (b o k : Nat) (ls : List (List LE)) : relog s (rd s b o k) ls = s := by
  unfold relog
  rw [h]
  cases s
  simp only at h
  subst h
  rfl

theorem tr_two (l : List V) (i : Nat) : cellOf (Tr.ofListFrom .nil [Tr.ofListFrom .nil l 0] 0) l.length i = if i < l.length then l[i]? else cellOf (Tr.ofListFrom .nil [Tr.ofListFrom .nil l 0] 0) l.length i := by
  by_cases h : i < l.length
  · rw [if_pos h, cellOf_zero h, Tr.get_ofList]
    simp only [List.getElem?_cons_zero, Option.bind_some, Tr.get_ofList]
  · rw [if_neg h]

theorem Bx.ldb {b e i : Nat} {l : List V} (h : Bx s b e l) (hi : i < l.length) (hl : l.length < big) : ld s b i = some (l[i], s.note b i (i + 1) false) := by
  unfold Bx at h
  unfold ld
  rw [h]
  have hc := tr_two l i
  rw [if_pos hi] at hc
  unfold cellOf at hc
  have h1 : Nat.blt i (l.length * 1) = true := blt_true.2 (by omega)
  have h2 : Nat.blt (l.length * 1) big = true := blt_true.2 (by omega)
  simp only [h1, h2, Bool.and_self, cond_true]
  cases hg : (Tr.ofListFrom .nil [Tr.ofListFrom .nil l 0] 0).get (i / l.length) with
  | none => rw [hg] at hc; simp [List.getElem?_eq_getElem hi] at hc
  | some t =>
    rw [hg] at hc
    simp only [Option.bind_some] at hc ⊢
    rw [hc, List.getElem?_eq_getElem hi]
    rfl
theorem Bx.ld1 (ho : s.on = false) {b e : Nat} {l : List V} (h : Bx s b e l) (i : Nat) (hi : i < l.length) (hl : l.length < big) : ld1 (.ptr b i) s = some (l[i], s) := by
  show ld s b i = _
  rw [h.ldb hi hl, note_off ho]
theorem Bx.ld1On (ho : s.on = false) {b e : Nat} {l : List V} (h : Bx s b e l) (i : Nat) (hi : i < l.length) (hl : l.length < big) : Go.Proofs.Ythmkdoaaciamlaa.Ev.ld1 (.ptr b i) (onS s) = some (l[i], rd s b i 1) := by
  show ld (onS s) b i = _
  rw [Bx.ldb (s := onS s) h hi hl]; rfl
theorem Bx.ldkb {b e n : Nat} {l : List V} (h : Bx s b e l) (hn : n = l.length) (hl : l.length < big) : ldK s b 0 n = some (Tr.ofListFrom .nil l 0, s.note b 0 n false) := by
  subst hn
  unfold Bx at h
  unfold ldK
  rw [h]
  have h1 : Nat.ble (0 + l.length) (l.length * 1) = true := ble_true.2 (by omega)
  have h2 : Nat.blt (l.length * 1) big = true := blt_true.2 (by omega)
  simp only [h1, h2, Bool.and_self, cond_true]
  unfold elemIn
  rw [show Nat.beq l.length l.length = true from beq_true.2 rfl, Nat.zero_mod, show Nat.beq 0 0 = true from rfl]
  simp only [Bool.and_self, cond_true, Nat.zero_div]
  rw [Tr.get_ofList]
  simp
theorem Bx.ldA (ho : s.on = false) {b e n : Nat} {l : List V} (h : Bx s b e l) (hn : n = l.length) (hl : l.length < big) : ldA n (.ptr b 0) s = some (vAgg l, s) := by
  show ((ldK s b 0 n).bind fun p => some (V.agg n p.1, p.2)) = _
  rw [h.ldkb hn hl, note_off ho]
  subst hn; rfl
theorem Bx.ldAOn {b e n : Nat} {l : List V} (h : Bx s b e l) (hn : n = l.length) (hl : l.length < big) : Go.Proofs.Ythmkdoaaciamlaa.Ev.ldA n (.ptr b 0) (onS s) = some (vAgg l, rd s b 0 n) := by
  show ((ldK (onS s) b 0 n).bind fun p => some (V.agg n p.1, p.2)) = _
  rw [Bx.ldkb (s := onS s) h hn hl]
  subst hn
  simp only [Option.bind_some]
  unfold rd
  rw [Nat.zero_add]; rfl

theorem vAgg_size (l : List V) : (vAgg l).size = l.length := rfl
/-- a value that is boxed -/
theorem box_new (ho : s.on = false) (e : Nat) (l : List V) : ∃ t, boxK e (vAgg l) s = some (.ptr s.next 0, t) ∧ Bx t s.next e l ∧ Grew (fun _ => False) s t ∧ t.next = s.next + 1 := by
  refine ⟨newCells s e l.length [Tr.ofListFrom .nil l 0], rfl, ?_, grew_nw ho _ _, rfl⟩
  show (newCells s e l.length [_]).heap.get s.next = _
  unfold newCells
  rw [nw_get, if_pos rfl]; rfl
theorem set_one (z t : Tr V) : (Tr.ofListFrom .nil [z] 0).set t 0 = Tr.ofListFrom .nil [t] 0 := by kernel_rfl
theorem isTuple_vAgg (l : List V) : isTuple (vAgg l) = false := rfl
/-- a value laid into a new variable -/
theorem var_new (ho : s.on = false) (e n : Nat) (z : Tr V) (l : List V) (hn : n = l.length) (h0 : 0 < n) (hl : l.length < big) : ∃ t, stP n (.ptr s.next 0) (vAgg l) (nwP e n z s).2 = some (.tuple [], t) ∧ Bx t s.next e l ∧ Grew (fun _ => False) s t ∧ t.next = s.next + 1 := by
  subst hn
  have hg := grew_nw ho (fun _ => False) (.cells e l.length 1 false (Tr.ofListFrom .nil [z] 0))
  have hget : (nwP e l.length z s).2.heap.get s.next = some (.cells e l.length 1 false (Tr.ofListFrom .nil [z] 0)) := by
    show (newCells s e l.length [z]).heap.get s.next = _
    unfold newCells
    rw [nw_get, if_pos rfl]; rfl
  have hon : (nwP e l.length z s).2.on = false := nw_on ho _
  have hst : stK (nwP e l.length z s).2 s.next 0 l.length (Tr.ofListFrom .nil l 0) = some ((nwP e l.length z s).2.put s.next (.cells e l.length 1 false (Tr.ofListFrom .nil [Tr.ofListFrom .nil l 0] 0))) := by
    unfold stK
    rw [hget]
    have h1 : Nat.ble (0 + l.length) (l.length * 1) = true := ble_true.2 (by omega)
    have h2 : Nat.blt (l.length * 1) big = true := blt_true.2 (by omega)
    simp only [h1, h2, Bool.and_self, Bool.not_false, cond_true]
    unfold elemTo
    rw [show Nat.beq l.length l.length = true from beq_true.2 rfl, Nat.zero_mod, show Nat.beq 0 0 = true from rfl]
    simp only [Bool.and_self, cond_true, Nat.zero_div, Tr.setC_eq, set_one, Option.bind_some, note_off hon]
  refine ⟨(nwP e l.length z s).2.put s.next (.cells e l.length 1 false (Tr.ofListFrom .nil [Tr.ofListFrom .nil l 0] 0)), ?_, ?_, hg.own (Nat.le_refl _) (grew_put _ _), rfl⟩
  · show vu (bif Nat.beq (vAgg l).size l.length && !isTuple (vAgg l) then stK (nwP e l.length z s).2 s.next 0 l.length (Tr.ofListFrom .nil l 0) else none) = _
    rw [vAgg_size, show Nat.beq l.length l.length = true from beq_true.2 rfl, isTuple_vAgg, hst]
    rfl
  · unfold Bx
    rw [put_get, if_pos rfl]
theorem nwP_fst (e n : Nat) (z : Tr V) : (nwP e n z s).1 = .ptr s.next 0 := rfl

/-! ### logs -/
theorem meet_read (b1 l1 h1 b2 l2 h2 : Nat) : meet ⟨b1, l1, h1, false⟩ ⟨b2, l2, h2, false⟩ = false := by
  unfold meet
  cases Nat.beq b1 b2 <;> rfl
theorem callD_ret {pl : Plan} {s0 : St} {i : Nat} {logs : List (List LE)} {v : V} {t : St} {k : V → St → Rs} : callD pl s0 i logs (some (.ret v, t)) k = k v t := rfl
theorem endP_of {prs : List (Nat × List Nat)} {s0 s : St} {logs : List (List LE)} {k : St → Rs} (h : pairsOk logs prs = true) : endP prs s0 logs s k = k (relog s0 s logs) := by
  unfold endP
  rw [h]; rfl
theorem foldK_max (k : IntKind) (x y : Int) : foldK maxV (.int k x) [.int k y] s = some (.int k (max x y), s) := by
  unfold foldK foldV maxV
  simp only [ikEq_refl, cond_true, iLt_eq, Option.bind_some, foldV]
  by_cases h : x < y
  · simp only [h, decide_true, cond_true]; rw [Int.max_eq_right (by omega)]
  · simp only [h, decide_false, cond_false]; rw [Int.max_eq_left (by omega)]
theorem foldK_min (k : IntKind) (x y : Int) : foldK minV (.int k x) [.int k y] s = some (.int k (min x y), s) := by
  unfold foldK foldV minV
  simp only [ikEq_refl, cond_true, iLt_eq, Option.bind_some, foldV]
  by_cases h : y < x
  · simp only [h, decide_true, cond_true]; rw [Int.min_eq_right (by omega)]
  · simp only [h, decide_false, cond_false]; rw [Int.min_eq_left (by omega)]
end
end Go.Proofs.Ythmkdoaaciamlaa.Ev
namespace Go.Proofs.Ythmkdoaaciamlaa.Ev
/-! ### regions that only read -/
def rds (logs : List (List LE)) : Bool := logs.all fun L => L.all fun e => !e.w
theorem clash1_rd {e : LE} (he : e.w = false) : ∀ l : List LE, (∀ f ∈ l, f.w = false) → clash1 e l = false
  | [], _ => rfl
  | f :: l, h => by
    unfold clash1
    have : meet e f = false := by unfold meet; rw [he, h f (List.mem_cons_self ..)]; cases Nat.beq e.b f.b <;> rfl
    rw [this]
    exact clash1_rd he l fun g hg => h g (List.mem_cons_of_mem _ hg)
theorem clash_rd : ∀ (a b : List LE), (∀ f ∈ a, f.w = false) → (∀ f ∈ b, f.w = false) → clash a b = false
  | [], _, _, _ => rfl
  | e :: a, b, h, hb => by
    unfold clash
    rw [clash1_rd (h e (List.mem_cons_self ..)) b hb]
    exact clash_rd a b (fun f hf => h f (List.mem_cons_of_mem _ hf)) hb
theorem logOf_rd : ∀ (i : Nat) (logs : List (List LE)), (∀ L ∈ logs, ∀ f ∈ L, f.w = false) → ∀ f ∈ logOf i logs, f.w = false
  | _, [], _, f, hf => by cases hf
  | i, L :: logs, h, f, hf => by
    unfold logOf at hf
    cases hi : Nat.beq i 0 with
    | true => rw [hi] at hf; exact h L (List.mem_cons_self ..) f hf
    | false => rw [hi] at hf; exact logOf_rd (i - 1) logs (fun M hM => h M (List.mem_cons_of_mem _ hM)) f hf
theorem clashAny_rd {x : List LE} (hx : ∀ f ∈ x, f.w = false) {logs : List (List LE)} (h : ∀ L ∈ logs, ∀ f ∈ L, f.w = false) : ∀ js : List Nat, clashAny x logs js = false
  | [] => rfl
  | j :: js => by
    unfold clashAny
    rw [clash_rd x _ hx (logOf_rd j logs h)]
    exact clashAny_rd hx h js
theorem pairsOk_rd {logs : List (List LE)} (h : ∀ L ∈ logs, ∀ f ∈ L, f.w = false) : ∀ prs : List (Nat × List Nat), pairsOk logs prs = true
  | [] => rfl
  | (i, js) :: l => by
    unfold pairsOk
    rw [clashAny_rd (logOf_rd i logs h) h js]
    exact pairsOk_rd h l
theorem endP_rd {prs : List (Nat × List Nat)} {s0 s : St} {logs : List (List LE)} {k : St → Rs} (h : rds logs = true) : endP prs s0 logs s k = k (relog s0 s logs) := by
  refine endP_of (pairsOk_rd (fun L hL f hf => ?_) prs)
  have h1 := List.all_eq_true.1 (List.all_eq_true.1 h L hL) f hf
  simpa using h1
end Go.Proofs.Ythmkdoaaciamlaa.Ev

/-
  WHAT TOUCHES MEMORY IN A REGION THAT DRAWS ITS ORDER: as outside of one, but for the log.
-/
namespace Go.Proofs.Ythmkdoaaciamlaa.Ev

def St.lg (s : St) (l : List LE) : St := { s with on := true, log := l }
section
variable {s s' : St}
theorem onS_lg : onS s = s.lg [] := rfl
theorem onS_of_lg (l : List LE) : onS (s.lg l) = onS s := rfl
theorem note_lg (l : List LE) (b lo hi : Nat) (w : Bool) : (s.lg l).note b lo hi w = s.lg ({ b := b, lo := lo, hi := hi, w := w } :: l) := rfl
theorem put_lg (l : List LE) (b : Nat) (o : O) : (s.lg l).put b o = (s.put b o).lg l := rfl
theorem relog_lg (h : s.on = false) (l : List LE) (ls : List (List LE)) (hs : s'.on = false) : (relog s (s'.lg l) ls).heap = s'.heap ∧ (relog s (s'.lg l) ls).next = s'.next ∧ (relog s (s'.lg l) ls).on = false := by
  unfold relog
  rw [h]
  exact ⟨rfl, rfl, rfl⟩

theorem ldK_lg (ho : s.on = false) {b off k : Nat} {t : Tr V} (h : ldK s b off k = some (t, s')) (l : List LE) : s' = s ∧ ∃ l', ldK (s.lg l) b off k = some (t, s.lg l') := by
  unfold ldK at h
  split at h
  · rename_i e esz n ro c hb
    cases hc : (Nat.ble (off + k) (esz * n) && Nat.blt (esz * n) big) with
    | false => rw [hc] at h; cases h
    | true =>
      rw [hc] at h
      simp only [cond_true, Option.bind_eq_some_iff, Option.some.injEq, Prod.mk.injEq] at h
      obtain ⟨u, hu, rfl, rfl⟩ := h
      refine ⟨note_off ho .., { b := b, lo := off, hi := off + k, w := false } :: l, ?_⟩
      unfold ldK
      rw [show (s.lg l).heap.get b = _ from hb]
      simp only
      rw [hc, hu]
      simp only [cond_true, Option.bind_some]
      rw [note_lg]
  · cases h
theorem ldN_lg (ho : s.on = false) (b k : Nat) : ∀ (n off : Nat) {ts : List (Tr V)} {s' : St} (_ : ldN b k n off s = some (ts, s')) (l : List LE), s' = s ∧ ∃ l', ldN b k n off (s.lg l) = some (ts, s.lg l')
  | 0, off, ts, s', h, l => by
    simp only [ldN, Option.some.injEq, Prod.mk.injEq] at h
    obtain ⟨rfl, rfl⟩ := h
    exact ⟨rfl, l, rfl⟩
  | n + 1, off, ts, s', h, l => by
    simp only [ldN, Option.bind_eq_some_iff, Option.some.injEq, Prod.mk.injEq] at h
    obtain ⟨⟨t, s1⟩, h1, ⟨ts', s2⟩, h2, rfl, rfl⟩ := h
    obtain ⟨e1, l1, h3⟩ := ldK_lg ho h1 l
    simp only at h2
    rw [e1] at h2
    obtain ⟨e2, l2, h4⟩ := ldN_lg ho b k n (off + k) h2 l1
    refine ⟨e2, l2, ?_⟩
    simp only [ldN]
    rw [h3]
    simp only [Option.bind_some]
    rw [h4]
    rfl
theorem stK_lg (ho : s.on = false) {b off k : Nat} {t : Tr V} (h : stK s b off k t = some s') (l : List LE) : s'.on = false ∧ ∃ l', stK (s.lg l) b off k t = some (s'.lg l') := by
  unfold stK at h
  split at h
  · rename_i e esz n ro c hb
    cases hc : (Nat.ble (off + k) (esz * n) && Nat.blt (esz * n) big && !ro) with
    | false => rw [hc] at h; cases h
    | true =>
      rw [hc] at h
      simp only [cond_true, Option.bind_eq_some_iff, Option.some.injEq] at h
      obtain ⟨c', hc', rfl⟩ := h
      refine ⟨by rw [note_off ho]; exact ho, { b := b, lo := off, hi := off + k, w := true } :: l, ?_⟩
      unfold stK
      rw [show (s.lg l).heap.get b = _ from hb]
      simp only
      rw [hc, hc']
      simp only [cond_true, Option.bind_some]
      rw [note_lg, put_lg, note_off ho]
  · cases h
theorem stN_lg (b k : Nat) : ∀ (ts : List (Tr V)) (off : Nat) {s s' : St} (_ : s.on = false) (_ : stN b k ts off s = some s') (l : List LE), s'.on = false ∧ ∃ l', stN b k ts off (s.lg l) = some (s'.lg l')
  | [], off, s, s', ho, h, l => by
    simp only [stN, Option.some.injEq] at h
    subst h
    exact ⟨ho, l, rfl⟩
  | t :: ts, off, s, s', ho, h, l => by
    simp only [stN, Option.bind_eq_some_iff] at h
    obtain ⟨s1, h1, h2⟩ := h
    obtain ⟨o1, l1, h3⟩ := stK_lg ho h1 l
    obtain ⟨o2, l2, h4⟩ := stN_lg b k ts (off + k) o1 h2 l1
    refine ⟨o2, l2, ?_⟩
    simp only [stN]
    rw [h3]
    exact h4
/-- a copy between slices -/
theorem cpP_lg (ho : s.on = false) {z b off len cap b2 off2 len2 cap2 : Nat} {v : V} (h : cpP z (.slice b off len cap) (.slice b2 off2 len2 cap2) s = some (v, s')) (l : List LE) :
    s'.on = false ∧ ∃ l', cpP z (.slice b off len cap) (.slice b2 off2 len2 cap2) (s.lg l) = some (v, s'.lg l') := by
  unfold cpP copyIntoK at h
  simp only [lenV, firstV, Option.bind_some, Option.bind_eq_some_iff, Option.some.injEq, Prod.mk.injEq] at h
  obtain ⟨⟨ts, s1⟩, h1, s2, h2, rfl, rfl⟩ := h
  obtain ⟨e1, l1, h3⟩ := ldN_lg ho b2 z (Nat.min len2 len) off2 h1 l
  simp only at h2
  rw [e1] at h2
  obtain ⟨o2, l2, h4⟩ := stN_lg b z ts off ho h2 l1
  refine ⟨o2, l2, ?_⟩
  unfold cpP copyIntoK
  simp only [lenV, firstV, Option.bind_some]
  rw [h3]
  simp only [Option.bind_some]
  rw [h4]
  rfl

/-- bytes of a variable of bytes copied into a row -/
theorem cpP_var (ho : s.on = false) {b e b2 e2 z : Nat} {bs cs : List UInt8} (h : RowAt s b e 1 (bs.map byteC)) (h2 : VarAt s b2 e2 z (cs.map fun c => V.int .u8 (c.toNat : Int))) (hz : 1 < z) {off len cap off2 len2 cap2 : Nat} (hle : off + len ≤ bs.length) (hle2 : off2 + len2 ≤ z) :
    ∃ t, cpP 1 (.slice b off len cap) (.slice b2 off2 len2 cap2) s = some (.int .i64 ((min len2 len : Nat) : Int), t) ∧ RowAt t b e 1 ((over bs off ((cs.drop off2).take (min len2 len))).map byteC) ∧ Grew (fun x => x = b) s t ∧ t.next = s.next := by
  have hz2 : cs.length = z := by rw [← h2.len, List.length_map]
  have hm : ((cs.drop off2).take (min len2 len)).length = min len2 len := by rw [List.length_take, List.length_drop]; omega
  obtain ⟨t, h1, k2, h3, h4⟩ := stN_bytes ho h (l := (cs.drop off2).take (min len2 len)) (off := off) (by rw [hm]; omega)
  refine ⟨t, ?_, k2, h3, h4⟩
  unfold cpP
  simp only [lenV, Option.bind_some, firstV]
  have hr := h2.ldN1 ho hz (min len2 len) off2 (by omega)
  have hr' : ldN b2 1 (Nat.min len2 len) off2 s = some (List.map byteC (List.take (min len2 len) (List.drop off2 cs)), s) := by
    rw [← List.map_drop, ← List.map_take, List.map_map] at hr
    exact hr
  rw [hr']
  simp only [Option.bind_some]
  unfold copyIntoK
  simp only
  rw [h1]
  rfl
theorem RowAt.same {t : St} {b e z : Nat} {l : List (Tr V)} (h : RowAt s b e z l) (hh : t.heap = s.heap) : RowAt t b e z l := by
  obtain ⟨c, h1, h2⟩ := h.row
  exact ⟨h.pos, h.fit, c, by rw [hh]; exact h1, h2⟩
end
end Go.Proofs.Ythmkdoaaciamlaa.Ev
