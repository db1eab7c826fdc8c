/-
  WHAT THE FUNCTIONS COME TO: each is read by the evaluator, printed, and told as a function of data, part 3 of 6 (no condition).
-/
import Derived.Test.YtachpdpmoihjmaaW2
import Derived.OpenShut
import Derived.ProofKit
import Derived.WalkKit
namespace Go.Proofs.Ytachpdpmoihjmaa.W
open Go.Proofs.Ytachpdpmoihjmaa.Ev Go.RowKit
theorem E0_ok : EnvOk Try.prog E0 := envOf_ok (by kernel_rfl) (by kernel_rfl) (by kernel_rfl) (fun p hp => by
 simp only [List.mem_cons, List.not_mem_nil, or_false] at hp
 rcases hp with rfl
 exact ⟨fun _ args w => by kernel_rfl, fun h => absurd h (by decide), fun h => absurd h (by decide), fun h => absurd h (by decide), fun h => absurd h (by decide)⟩
 ) (by kernel_rfl) (by kernel_rfl) (by kernel_rfl)
theorem drop_at {α : Type} {l r : List α} {i : Nat} {y : α} (h : l.drop i = y :: r) : ∃ hlt : i < l.length, l[i] = y ∧ l.drop (i + 1) = r ∧ y ∈ l := by
 have hlt : i < l.length := by
  rcases Nat.lt_or_ge i l.length with h' | h'
  · exact h'
  · rw [List.drop_eq_nil_of_le h'] at h; cases h
 rw [List.drop_eq_getElem_cons hlt] at h
 simp only [List.cons.injEq] at h
 exact ⟨hlt, h.1, h.2, h.1 ▸ List.getElem_mem hlt⟩
theorem drop_end {α : Type} {l : List α} {i : Nat} (h : l.drop i = []) : l.length ≤ i := List.drop_eq_nil_iff.1 h
theorem dec_lt {a b : Nat} (h : a < b) : decide ((a : Int) < (b : Int)) = true := by simp; omega
theorem dec_ge {a b : Nat} (h : b ≤ a) : decide ((a : Int) < (b : Int)) = false := by simp; omega
theorem wrap_succ {i : Nat} (h : i < 9223372036854775807) : IntKind.i64.wrap ((i : Int) + 1) = ((i + 1 : Nat) : Int) := by
 rw [wrap_i64 (by omega) (by omega)]; omega
section
variable {s : St}
def AgAt (s : St) (b e z : Nat) (t : Tr V) : Prop := ∃ c, s.heap.get b = some (.cells e z 1 false c) ∧ c.get 0 = some t
theorem AgAt.grew {W : Nat → Prop} {u : St} {b e z : Nat} {t : Tr V} (h : AgAt s b e z t) (hb : b < s.next) (hw : ¬ W b) (g : Grew W s u) : AgAt u b e z t := by
 obtain ⟨c, h1, h2⟩ := h
 exact ⟨c, by rw [g.keep b hb hw]; exact h1, h2⟩
theorem ag_new (ho : s.on = false) (e z : Nat) (t : Tr V) : AgAt (nwP e z t s).2 s.next e z t ∧ Grew (fun _ => False) s (nwP e z t s).2 ∧ (nwP e z t s).2.next = s.next + 1 := by
 refine ⟨⟨Tr.ofListFrom .nil [t] 0, ?_, by rw [Tr.get_ofList]; rfl⟩, grew_nw ho _ _, rfl⟩
 show (newCells s e z [t]).heap.get s.next = _
 unfold newCells
 rw [nw_get, if_pos rfl]; rfl
theorem AgAt.ldk (ho : s.on = false) {b e z : Nat} {t : Tr V} (h : AgAt s b e z t) (hz : z < big) : ldK s b 0 z = some (t, s) := by
 obtain ⟨c, h1, h2⟩ := h
 unfold ldK
 rw [h1]
 simp only [ble_true.2 (show 0 + z ≤ z * 1 by omega), blt_true.2 (show z * 1 < big by omega), Bool.and_self, cond_true]
 unfold elemIn
 rw [show Nat.beq z z = true from beq_true.2 rfl, Nat.zero_mod, show Nat.beq 0 0 = true from rfl]
 simp only [Bool.and_self, cond_true, Nat.zero_div, h2, oB, note_off ho]
theorem AgAt.ldA (ho : s.on = false) {b e z : Nat} {t : Tr V} (h : AgAt s b e z t) (hz : z < big) : Go.Proofs.Ytachpdpmoihjmaa.Ev.ldA z (.ptr b 0) s = some (.agg z t, s) := by
 show ((ldK s b 0 z).bind fun p => some (V.agg z p.1, p.2)) = _
 rw [h.ldk ho hz]; rfl
theorem AgAt.ldrA (ho : s.on = false) {b e z : Nat} {t : Tr V} (h : AgAt s b e z t) (hz : z < big) : Go.Proofs.Ytachpdpmoihjmaa.Ev.ldrA z (.ptr b 0) s = some (.agg z t, s) := by
 show ((ldK s b 0 z).bind fun p => some (V.agg z p.1, p.2)) = _
 rw [h.ldk ho hz]; rfl
theorem AgAt.stA (ho : s.on = false) {b e z : Nat} {t : Tr V} (h : AgAt s b e z t) (hz : z < big) (u : Tr V) : ∃ w, stP z (.ptr b 0) (.agg z u) s = some (.tuple [], w) ∧ AgAt w b e z u ∧ Grew (fun x => x = b) s w ∧ w.next = s.next := by
 obtain ⟨c, h1, h2⟩ := h
 refine ⟨s.put b (.cells e z 1 false (c.set u 0)), ?_, ⟨c.set u 0, by rw [put_get, if_pos rfl], by rw [Tr.get_set, if_pos rfl]⟩, grew_put b _, rfl⟩
 show vu (bif Nat.beq z z && !false then stK s b 0 z u else none) = _
 rw [show Nat.beq z z = true from beq_true.2 rfl]
 simp only [Bool.not_false, Bool.and_self, cond_true]
 have : stK s b 0 z u = some (s.put b (.cells e z 1 false (c.set u 0))) := by
  unfold stK
  rw [h1]
  simp only [ble_true.2 (show 0 + z ≤ z * 1 by omega), blt_true.2 (show z * 1 < big by omega), Bool.and_self, Bool.not_false, cond_true]
  unfold elemTo
  rw [show Nat.beq z z = true from beq_true.2 rfl, Nat.zero_mod, show Nat.beq 0 0 = true from rfl]
  simp only [Bool.and_self, cond_true, Nat.zero_div, Tr.setC_eq, oB, note_off ho]
 rw [this]; rfl
theorem AgAt.ld1 (ho : s.on = false) {b e z i : Nat} {t : Tr V} {v : V} (h : AgAt s b e z t) (hz : z < big) (hi : i < z) (hv : t.get i = some v) : Go.Proofs.Ytachpdpmoihjmaa.Ev.ld1 (.ptr b i) s = some (v, s) := by
 obtain ⟨c, h1, h2⟩ := h
 show ld s b i = _
 exact ld_of ho h1 (by omega) (by omega) (by rw [cellOf_zero hi, h2]; exact hv)
theorem AgAt.st1 (ho : s.on = false) {b e z i : Nat} {t : Tr V} (h : AgAt s b e z t) (hz : z < big) (h1z : 1 < z) (hi : i < z) (v : V) (hs : v.size = 1) (hc : v.cells = one v) (hv : isTuple v = false) : ∃ w, stP 1 (.ptr b i) v s = some (.tuple [], w) ∧ AgAt w b e z (t.set v i) ∧ Grew (fun x => x = b) s w ∧ w.next = s.next := by
 obtain ⟨c, h1, h2⟩ := h
 refine ⟨s.put b (.cells e z 1 false (c.set (t.set v i) 0)), ?_, ⟨c.set (t.set v i) 0, by rw [put_get, if_pos rfl], by rw [Tr.get_set, if_pos rfl]⟩, grew_put b _, rfl⟩
 show vu (bif Nat.beq v.size 1 && !isTuple v then stK s b i 1 v.cells else none) = _
 rw [hs, hv, hc]
 simp only [show Nat.beq 1 1 = true from rfl, Bool.not_false, Bool.and_self, cond_true]
 have : stK s b i 1 (one v) = some (s.put b (.cells e z 1 false (c.set (t.set v i) 0))) := by
  unfold stK
  rw [h1]
  simp only [ble_true.2 (show i + 1 ≤ z * 1 by omega), blt_true.2 (show z * 1 < big by omega), Bool.and_self, Bool.not_false, cond_true]
  unfold elemTo
  rw [show Nat.beq 1 z = false from beq_false.2 (by omega)]
  simp only [Bool.false_and, cond_false, cellsTo, show (one v).get 0 = some v from rfl, oB, Nat.add_zero, Nat.div_eq_of_lt hi, Nat.mod_eq_of_lt hi, h2, Tr.setC_eq, note_off ho]
 rw [this]; rfl
end
def ixB (l : List UInt8) (c : UInt8) : Int := match l.findIdx? (fun x => x == c) with | some i => (i : Int) | none => -1
theorem extV_one (l n c : Nat) (S : St) : extV 1 [.str l n, .int .u8 (.ofNat c)] S = bif Nat.blt c 256 then match indexByte c l 0 n with
 | some i => some (.val (.int .i64 (.ofNat i)) S)
 | none => some (.val (.int .i64 (-1)) S)
 else none := rfl
theorem callK_ext {E : Env} {self : EV} {f k : Nat} (h : E.ext.get f = some k) (x y args : List V) (S : St) : callK E self (.fn (.func f) x y) args S = (extV k (x ++ args ++ y) S).bind fun
 | .val v s => some (.ret v, s)
 | _ => none := by
 show (match E.ext.get f with | some k => _ | none => _) = _
 rw [h]
 rfl
theorem ext76 : E0.ext.get 34 = some 1 := by kernel_rfl
theorem ext_ixB (s : List UInt8) (c : UInt8) (S : St) : extV 1 [sv s, .int .u8 (c.toNat : Int)] S = some (.val (.int .i64 (ixB s c)) S) := by
 have h1 : extV 1 [sv s, .int .u8 (c.toNat : Int)] S = bif Nat.blt c.toNat 256 then match indexByte c.toNat s.length 0 (pack s) with
  | some i => some (.val (.int .i64 (.ofNat i)) S)
  | none => some (.val (.int .i64 (-1)) S)
  else none := extV_one _ _ _ _
 rw [h1, blt_true.2 c.toNat_lt, indexByte_spec, ixB]
 cases s.findIdx? (fun x => x == c) with
 | none => rfl
 | some i => rfl
theorem call76 (self : EV) (s : List UInt8) (c : UInt8) (S : St) : callK E0 self (.fn (.func 34) [] []) [sv s, .int .u8 (c.toNat : Int)] S = some (.ret (.int .i64 (ixB s c)), S) := by
 have h := callK_ext (E := E0) (self := self) ext76 [] [] [sv s, .int .u8 (c.toNat : Int)] S
 have h2 := ext_ixB s c S
 rw [List.nil_append, List.append_nil, h2] at h
 exact h
theorem F73_of (self : EV) (N : Nat) (s : V) (c : UInt8) (S : St) (v : V) (h : callK E0 self (.fn (.func 34) [] []) [s, .int .u8 (c.toNat : Int)] S = some (.ret v, S)) : F33 self N s (.int .u8 (c.toNat : Int)) S = some (.ret v, S) := by
 rw [F33_eq, h, callP_ret]
theorem F73_spec (self : EV) (N : Nat) (s : List UInt8) (c : UInt8) (S : St) : F33 self N (sv s) (.int .u8 (c.toNat : Int)) S = some (.ret (.int .i64 (ixB s c)), S) :=
 F73_of self N (sv s) c S (.int .i64 (ixB s c)) (call76 self s c S)
def frz (W : World) : Rho := ⟨fun _ => none, fun k => W.heap[k]?⟩
theorem glob0 : ∀ g, E0.glob.get g = none := fun _ => rfl
noncomputable def kfTrue : KF := specKF (fun _ : Unit => []) (fun _ => En.ret (.bool true))
theorem kfTrue_run (S : St) : kfTrue.run [] S = some (.ret (.bool true), S) := specKF_run (enc := fun _ : Unit => []) (out := fun _ => En.ret (.bool true)) (fun _ _ _ => rfl) () S
theorem relF (W : World) : Rel E0 (base0 W) (frz W) s0 W :=
 ⟨⟨rfl, rfl, rfl, Nat.le_refl _, fun _ _ => rfl⟩, fun _ _ => rfl, Nat.le_refl _, fun b o h => by simp [s0, Tr.get_nil] at h, fun b b' o o' cb sh sz sh' sz' h => by simp [s0, Tr.get_nil] at h, fun g b h => (by rw [glob0] at h; cases h), fun k o h => h, fun b o cb sh sz h => (by simp [s0, Tr.get_nil] at h), fun k o h _ => trivial⟩
section
variable {s : St}
theorem big1 : 1 < big := by unfold big; decide
def selRd (logs : List (List LE)) (prs : List (Nat × List Nat)) : Bool := prs.all fun p => (logOf p.1 logs).all (fun e => !e.w) && p.2.all fun j => (logOf j logs).all fun e => !e.w
theorem selRd_ok {logs : List (List LE)} : ∀ {prs : List (Nat × List Nat)}, selRd logs prs = true → pairsOk logs prs = true
 | [], _ => rfl
 | (i, js) :: l, h => by
  unfold selRd at h
  rw [List.all_cons, Bool.and_eq_true, Bool.and_eq_true] at h
  obtain ⟨⟨h1, h2⟩, h3⟩ := h
  have r : ∀ {L : List LE}, (L.all fun e => !e.w) = true → ∀ f ∈ L, f.w = false := fun {L} hL f hf => by simpa using List.all_eq_true.1 hL f hf
  have key : ∀ js : List Nat, (js.all fun j => (logOf j logs).all fun e => !e.w) = true → clashAny (logOf i logs) logs js = false := fun js => by
   induction js with
   | nil => intro _; rfl
   | cons j js ih =>
    intro hj
    rw [List.all_cons, Bool.and_eq_true] at hj
    unfold clashAny
    rw [clash_rd _ _ (r h1) (r hj.1)]
    exact ih hj.2
  unfold pairsOk
  rw [key js h2]
  exact selRd_ok h3
theorem endP_sel {prs : List (Nat × List Nat)} {s0 s : St} {logs : List (List LE)} {k : St → Rs} (h : selRd logs prs = true) : endP prs s0 logs s k = k (relog s0 s logs) := endP_of (selRd_ok h)
theorem bx_put (b e : Nat) (l : List V) : Bx (s.put b (bxO e l)) b e l := by
 show (s.put b (bxO e l)).heap.get b = some (bxO e l)
 rw [put_get, if_pos rfl]
theorem ixA_ptr (len z : Nat) (g : Bool) (k : Nat) (ik : IntKind) {b off n : Nat} (h : n < len) : ixA len z g k (.ptr b off) (.int ik (n : Int)) = some (.ptr b (off + n * z)) := by
 show (bif Nat.blt n len then some (V.ptr b (off + n * z)) else none) = _
 rw [blt_true.2 h]; rfl
theorem AgAt.st_one (ho : s.on = false) {b e : Nat} {t : Tr V} (h : AgAt s b e 1 t) (v : V) (hs : v.size = 1) (hc : v.cells = one v) (hv : isTuple v = false) : ∃ w, stP 1 (.ptr b 0) v s = some (.tuple [], w) ∧ AgAt w b e 1 (one v) ∧ Grew (fun x => x = b) s w ∧ w.next = s.next := by
 obtain ⟨w, h1, h2, h3, h4⟩ := h.stA ho big1 (one v)
 refine ⟨w, ?_, h2, h3, h4⟩
 have e1 : stP 1 (.ptr b 0) (.agg 1 (one v)) s = vu (stK s b 0 1 (one v)) := rfl
 have e2 : stP 1 (.ptr b 0) v s = vu (bif Nat.beq v.size 1 && !isTuple v then stK s b 0 1 v.cells else none) := rfl
 rw [e2, hs, hc, hv, ← h1, e1]
 rfl
theorem AgAt.ldr_one (ho : s.on = false) {b e : Nat} {v : V} (h : AgAt s b e 1 (one v)) : ldr1 (.ptr b 0) s = some (v, s) := AgAt.ld1 ho h big1 (by decide) rfl
end
end Go.Proofs.Ytachpdpmoihjmaa.W
namespace Go.Proofs.Ytachpdpmoihjmaa.W
open Go.Proofs.Ytachpdpmoihjmaa.Ev
theorem big258 : 258 < big := by unfold big; decide
theorem big6 : 6 < big := by unfold big; decide
structure Stp (t : Tr V) (p : UInt8 → Bool) (k to : Int) : Prop where
 has : ∀ c : UInt8, t.get c.toNat = some (.bool (p c))
 kind : t.get 256 = some (.int .i64 k)
 to_ : t.get 257 = some (.int .i64 to)
def isF : Option V → Bool | some (.bool false) => true | _ => false
theorem isF_eq {o : Option V} (h : isF o = true) : o = some (.bool false) := by
 unfold isF at h
 split at h
 · rfl
 · cases h
noncomputable def TK (k : Int) : Tr V := match buildV E0 50 [(1, .int .i64 k)] with | some (.agg _ t) => t | _ => .nil
theorem build_0 : buildV E0 50 [(1, .int .i64 0)] = some (.agg 258 (TK 0)) := by kernel_rfl
theorem build_6 : buildV E0 50 [(1, .int .i64 6)] = some (.agg 258 (TK 6)) := by kernel_rfl
theorem all_0 : (List.range 256).all (fun i => isF ((TK 0).get i)) = true := by kernel_rfl
theorem stp_0 : Stp (TK 0) (fun _ => false) 0 0 := ⟨fun c => isF_eq (List.all_eq_true.1 all_0 c.toNat (List.mem_range.2 c.toNat_lt)), by kernel_rfl, by kernel_rfl⟩
theorem kind_6 : (TK 6).get 256 = some (.int .i64 6) := by kernel_rfl
theorem stp_take (c : UInt8) : Stp ((TK 0).set (.bool true) c.toNat) (fun x => x == c) 0 0 := by
 have hc := c.toNat_lt
 refine ⟨fun x => ?_, ?_, ?_⟩
 · rw [Tr.get_set]
   by_cases h : x.toNat = c.toNat
   · rw [if_pos h, UInt8.toNat_inj.1 h]; simp
   · rw [if_neg h, stp_0.has x, show (x == c) = false from beq_false_of_ne fun e => h (by rw [e])]
 · rw [Tr.get_set, if_neg (by omega)]; exact stp_0.kind
 · rw [Tr.get_set, if_neg (by omega)]; exact stp_0.to_
section
variable {s : St}
theorem nw_lg (ho : s.on = false) (l : List LE) (o : O) : nw (s.lg l) o = (nw s o).lg ({ b := s.next, lo := 0, hi := big, w := true } :: l) := by
 unfold nw
 rw [note_off ho, note_lg]
 rfl
theorem newCells_lg (ho : s.on = false) (l : List LE) (e z : Nat) (ts : List (Tr V)) : newCells (s.lg l) e z ts = (newCells s e z ts).lg ({ b := s.next, lo := 0, hi := big, w := true } :: l) := by
 unfold newCells
 exact nw_lg ho l _
theorem bsP_lg (ho : s.on = false) (z t : Tr V) : ∃ w, bsP 50 258 1 z [(0, .agg 258 t)] (s.lg []) = some (.slice s.next 0 1 1, w.lg [⟨s.next, 0, big, true⟩]) ∧ RowAt w s.next 50 258 [t] ∧ Grew (fun _ => False) s w ∧ w.next = s.next + 1 := by
 refine ⟨nw s (.cells 50 258 1 false ((Tr.tab 1 1 fun _ => z).set t 0)), ?_, ?_, grew_nw ho _ _, rfl⟩
 · unfold bsP fillE fillE
   simp only [V.size, isTuple, V.cells, show Nat.beq 258 258 = true from rfl, Bool.not_false, Bool.and_true, show Nat.blt 0 1 = true from rfl, cond_true, Tr.setC_eq, oB, nw_lg ho]
   rfl
 · refine rowAt_nw ho (by omega) rfl (by unfold big; omega) fun i t h => ?_
   rw [Tr.get_set]
   cases i with
   | zero => simpa using h
   | succ i => simp at h
theorem ap_first_lg (ho : s.on = false) (l0 : List LE) {b : Nat} {t : Tr V} (h : RowAt s b 50 258 [t]) : ∃ u l, apP 50 258 272 .nilslice (.slice b 0 1 1) (s.lg l0) = some (.oslice s.next 0 1 258, u.lg l) ∧ RowAt u s.next 50 258 [t] ∧ Grew (fun _ => False) s u ∧ u.next = s.next + 1 := by
 have hld := h.ldN ho 1 0 (by simp)
 simp only [Nat.zero_mul, List.drop_zero] at hld
 obtain ⟨_, l1, h1⟩ := ldN_lg ho b 258 1 0 hld l0
 refine ⟨newCells s 50 258 [t], { b := s.next, lo := 0, hi := big, w := true } :: l1, ?_, rowAt_newCells ho (by omega) (by unfold big; simp), grew_nw ho _ _, rfl⟩
 unfold apP
 simp only [lenV, oB, show Nat.blt ((0 + 1) * (272 + 258 + 1)) maxCells = true from rfl, cond_true]
 unfold appendV firstV
 simp only [h1, oB, show Nat.beq 1 0 = false from rfl, cond_false]
 rw [newCells_lg ho]
 rfl
theorem ap_more_lg (ho : s.on = false) (l0 : List LE) {b r : Nat} {t : Tr V} {l : List (Tr V)} (h : RowAt s b 50 258 [t]) (hr : RowAt s r 50 258 l) (hl : l.length ≤ 3000) : ∃ u l', apP 50 258 272 (.oslice r 0 l.length 258) (.slice b 0 1 1) (s.lg l0) = some (.oslice s.next 0 (l.length + 1) 258, u.lg l') ∧ RowAt u s.next 50 258 (l ++ [t]) ∧ Grew (fun x => x = r) s u ∧ u.next = s.next + 1 := by
 obtain ⟨c, hc1, hc2⟩ := hr.row
 have hfit := hr.fit
 have hld := h.ldN ho 1 0 (by simp)
 simp only [Nat.zero_mul, List.drop_zero] at hld
 obtain ⟨_, l1, h1⟩ := ldN_lg ho b 258 1 0 hld l0
 refine ⟨nw (s.put r .dead) (.cells 50 258 (l.length + 1) false (c.set t l.length)), ({ b := s.next, lo := 0, hi := big, w := true } :: { b := r, lo := 0, hi := big, w := true } :: { b := r, lo := big - 1, hi := big, w := false } :: l1), ?_, ?_, ?_, rfl⟩
 · unfold apP
   have hm : Nat.blt ((l.length + 1) * (272 + 258 + 1)) maxCells = true := by rw [blt_true]; unfold maxCells; omega
   simp only [lenV, oB, hm, cond_true]
   unfold appendV firstV
   simp only [h1, oB, show Nat.beq 258 258 = true from rfl, cond_true]
   unfold sizeB
   rw [show (s.lg l1).heap.get r = _ from hc1]
   have hb : Nat.ble (0 + (l.length + 1) * 258) (258 * l.length) = false := by
    cases hh : Nat.ble (0 + (l.length + 1) * 258) (258 * l.length) with
    | false => rfl
    | true => rw [ble_true] at hh; omega
   simp only [blt_true.2 hfit, cond_true, oB, note_lg, hb, cond_false]
   unfold growV
   rw [show (s.lg ({ b := r, lo := big - 1, hi := big, w := false } :: l1)).heap.get r = _ from hc1]
   simp only [show Nat.beq 50 50 = true from rfl, Bool.not_true, Bool.or_self, cond_false, show Nat.beq 258 258 = true from rfl, show Nat.beq 0 0 = true from rfl, Nat.beq_refl, blt_true.2 hfit, Bool.and_self, cond_true]
   rw [show List.take 1 [t] = [t] from rfl]
   unfold addLC addLC
   rw [Tr.setC_eq]
   unfold setO
   rw [note_lg, put_lg, nw_lg (s := s.put r .dead) ho]
   rfl
 · have hnx : (s.put r .dead).next = s.next := rfl
   have := rowAt_nw (s := s.put r .dead) (e := 50) (z := 258) (n := l.length + 1) (c := c.set t l.length) (l := l ++ [t]) ho (by omega) (by simp) (by unfold big; omega) fun i u h => by
    rw [Tr.get_set]
    by_cases hi : i = l.length
    · subst hi
      rw [if_pos rfl]
      simpa using h
    · rw [if_neg hi]
      have hlt := (List.getElem?_eq_some_iff.1 h).1
      rw [List.length_append, List.length_singleton] at hlt
      rw [List.getElem?_append_left (by omega)] at h
      exact hc2 i u h
   exact this
 · exact ⟨by show s.next ≤ s.next + 1; omega, (nw_on (s := s.put r .dead) ho _).trans ho.symm, fun x hx hw => by
    rw [nw_get, if_neg (by show x ≠ s.next; omega), put_get, if_neg hw]⟩
theorem stP_lg (ho : s.on = false) {n b off : Nat} {v : V} {t : St} (h : stP n (.ptr b off) v s = some (.tuple [], t)) : ∃ l, stP n (.ptr b off) v (s.lg []) = some (.tuple [], t.lg l) := by
 have h' : vu (bif Nat.beq v.size n && !isTuple v then stK s b off n v.cells else none) = some (.tuple [], t) := h
 show ∃ l, vu (bif Nat.beq v.size n && !isTuple v then stK (s.lg []) b off n v.cells else none) = some (.tuple [], t.lg l)
 cases hc : (Nat.beq v.size n && !isTuple v) with
 | false => rw [hc] at h'; cases h'
 | true =>
  rw [hc] at h'
  simp only [cond_true] at h' ⊢
  unfold vu at h' ⊢
  simp only [oI, oS, pM, true_and] at h'
  obtain ⟨u, hu, rfl⟩ := h'
  obtain ⟨_, l, hl⟩ := stK_lg ho hu []
  exact ⟨l, by rw [hl]; rfl⟩
theorem bx_st6 (ho : s.on = false) {b e i : Nat} {l m : List V} {v : V} (h : Bx s b e l) (hl : l.length = 6) (hm : m.length = 6) (hi : i < 6) (hset : (Tr.ofListFrom .nil l 0).set v i = Tr.ofListFrom .nil m 0) (h1 : v.size = 1) (h2 : v.cells = one v) (h3 : isTuple v = false) :
 stP 1 (.ptr b i) v s = some (.tuple [], s.put b (bxO e m)) := by
 show vu (bif Nat.beq v.size 1 && !isTuple v then stK s b i 1 v.cells else none) = _
 rw [h1, h2, h3]
 have hst : stK s b i 1 (one v) = some (s.put b (bxO e m)) := by
  unfold stK
  rw [h, hl]
  simp only [ble_true.2 (show i + 1 ≤ 6 * 1 by omega), blt_true.2 (show 6 * 1 < big by unfold big; decide), Bool.and_self, Bool.not_false, cond_true]
  unfold elemTo
  rw [show Nat.beq 1 6 = false from rfl]
  have hv0 : (one v).get 0 = some v := rfl
  simp only [Bool.false_and, cond_false, cellsTo, Tr.setC_eq, hv0, oB, Nat.add_zero, Nat.div_eq_of_lt hi, Nat.mod_eq_of_lt hi]
  rw [Tr.get_ofList]
  simp only [List.getElem?_cons_zero, oB, hset, set_one, note_off ho]
  unfold bxO
  rw [hm]
 rw [hst]; rfl
theorem set6_0 (a b c d e f v : V) : (Tr.ofListFrom .nil [a, b, c, d, e, f] 0).set v 0 = Tr.ofListFrom .nil [v, b, c, d, e, f] 0 := by kernel_rfl
theorem set6_3 (a b c d e f v : V) : (Tr.ofListFrom .nil [a, b, c, d, e, f] 0).set v 3 = Tr.ofListFrom .nil [a, b, c, v, e, f] 0 := by kernel_rfl
theorem set6_5 (a b c d e f v : V) : (Tr.ofListFrom .nil [a, b, c, d, e, f] 0).set v 5 = Tr.ofListFrom .nil [a, b, c, d, e, v] 0 := by kernel_rfl
end
noncomputable def r6 (lv : V) (s : List UInt8) (i : Nat) (f : Bool) : List V := [lv, .int .i64 0, sv s, .int .i64 (i : Int), .int .i64 0, .bool f]
def StepsAt (s : St) (N0 : Nat) (v : V) (acc : List (Tr V)) : Prop := (acc = [] ∧ v = .nilslice) ∨ (acc ≠ [] ∧ ∃ r, v = .oslice r 0 acc.length 258 ∧ RowAt s r 50 258 acc ∧ N0 ≤ r ∧ r < s.next)
structure Rdr (S : St) (b N0 : Nat) (s : List UInt8) (i : Nat) (f : Bool) (lv : V) (acc : List (Tr V)) : Prop where
 on : S.on = false
 lo : N0 ≤ b
 hi : b < S.next
 bx : Bx S b 44 (r6 lv s i f)
 steps : StepsAt S N0 lv acc
section
variable {S : St} {b N0 i : Nat} {s : List UInt8} {f : Bool} {lv : V} {acc : List (Tr V)}
theorem StepsAt.one (h : StepsAt S N0 lv acc) : lv.size = 1 ∧ lv.cells = Go.Proofs.Ytachpdpmoihjmaa.Ev.one lv ∧ isTuple lv = false := by
 rcases h with ⟨_, rfl⟩ | ⟨_, r, rfl, _⟩ <;> exact ⟨rfl, rfl, rfl⟩
theorem StepsAt.len (h : StepsAt S N0 lv acc) (t : St) : lnS lv t = some (.int .i64 (acc.length : Int), t) := by
 rcases h with ⟨rfl, rfl⟩ | ⟨_, r, rfl, _⟩ <;> rfl
theorem bx_row {r : Nat} {l : List V} {u : List (Tr V)} (h : Bx S b 44 l) (hr : RowAt S r 50 258 u) : r ≠ b := fun e => by
 obtain ⟨c, h1, _⟩ := hr.row
 rw [e] at h1
 unfold Bx at h
 rw [h] at h1
 simp at h1
theorem StepsAt.grew {W : Nat → Prop} {t : St} (h : StepsAt S N0 lv acc) (hw : ∀ r, RowAt S r 50 258 acc → N0 ≤ r → r < S.next → ¬ W r) (g : Grew W S t) : StepsAt t N0 lv acc := by
 rcases h with h | ⟨h1, r, h2, h3, h4, h5⟩
 · exact .inl h
 · exact .inr ⟨h1, r, h2, h3.grew h5 (hw r h3 h4 h5) g, h4, Nat.lt_of_lt_of_le h5 g.next⟩
theorem Rdr.putI (h : Rdr S b N0 s i f lv acc) (j : Nat) : ∃ T, stP 1 (.ptr b 3) (.int .i64 (j : Int)) S = some (.tuple [], T) ∧ Rdr T b N0 s j f lv acc ∧ Grew (fun x => N0 ≤ x) S T := by
 have hst := bx_st6 (v := .int .i64 (j : Int)) (m := r6 lv s j f) h.on h.bx rfl rfl (by omega) (set6_3 _ _ _ _ _ _ _) rfl rfl rfl
 have g : Grew (fun x => x = b) S (S.put b (bxO 44 (r6 lv s j f))) := grew_put b _
 exact ⟨_, hst, ⟨h.on, h.lo, h.hi, bx_put b 44 _, h.steps.grew (fun r hr _ _ => bx_row h.bx hr) g⟩, g.mono fun x _ hx => by rw [hx]; exact h.lo⟩
theorem Rdr.putF (h : Rdr S b N0 s i f lv acc) (f' : Bool) : ∃ T, stP 1 (.ptr b 5) (.bool f') S = some (.tuple [], T) ∧ Rdr T b N0 s i f' lv acc ∧ Grew (fun x => N0 ≤ x) S T := by
 have hst := bx_st6 (v := .bool f') (m := r6 lv s i f') h.on h.bx rfl rfl (by omega) (set6_5 _ _ _ _ _ _ _) rfl rfl rfl
 have g : Grew (fun x => x = b) S (S.put b (bxO 44 (r6 lv s i f'))) := grew_put b _
 exact ⟨_, hst, ⟨h.on, h.lo, h.hi, bx_put b 44 _, h.steps.grew (fun r hr _ _ => bx_row h.bx hr) g⟩, g.mono fun x _ hx => by rw [hx]; exact h.lo⟩
theorem Rdr.grew {W : Nat → Prop} {t : St} (h : Rdr S b N0 s i f lv acc) (hw : ∀ x, x < S.next → N0 ≤ x → ¬ W x) (g : Grew W S t) : Rdr t b N0 s i f lv acc :=
 ⟨g.on.trans h.on, h.lo, Nat.lt_of_lt_of_le h.hi g.next, h.bx.grew h.hi (hw b h.hi h.lo) g, h.steps.grew (fun r _ h1 h2 => hw r h2 h1) g⟩
theorem Rdr.l0 (h : Rdr S b N0 s i f lv acc) : ld1 (.ptr b 0) S = some (lv, S) := Bx.ld1 h.on h.bx 0 (by show 0 < 6; decide) big6
theorem Rdr.l3 (h : Rdr S b N0 s i f lv acc) : ld1 (.ptr b 3) S = some (.int .i64 (i : Int), S) := Bx.ld1 h.on h.bx 3 (by show 3 < 6; decide) big6
theorem Rdr.o0 (h : Rdr S b N0 s i f lv acc) : ld1 (.ptr b 0) (onS S) = some (lv, rd S b 0 1) := Bx.ld1On h.on h.bx 0 (by show 0 < 6; decide) big6
theorem Rdr.o2 (h : Rdr S b N0 s i f lv acc) : ld1 (.ptr b 2) (onS S) = some (sv s, rd S b 2 1) := Bx.ld1On h.on h.bx 2 (by show 2 < 6; decide) big6
theorem Rdr.o3 (h : Rdr S b N0 s i f lv acc) : ld1 (.ptr b 3) (onS S) = some (.int .i64 (i : Int), rd S b 3 1) := Bx.ld1On h.on h.bx 3 (by show 3 < 6; decide) big6
theorem Rdr.o4 (h : Rdr S b N0 s i f lv acc) : ld1 (.ptr b 4) (onS S) = some (.int .i64 0, rd S b 4 1) := Bx.ld1On h.on h.bx 4 (by show 4 < 6; decide) big6
theorem Rdr.o5 (h : Rdr S b N0 s i f lv acc) : ld1 (.ptr b 5) (onS S) = some (.bool f, rd S b 5 1) := Bx.ld1On h.on h.bx 5 (by show 5 < 6; decide) big6
end
theorem pairs13 {b p x : Nat} (h1 : b ≠ x) (h2 : b ≠ p) (l9 l13 : List LE) :
 pairsOk [[], [], [], [], [], [⟨b, 0, 1, false⟩], [⟨p, 0, 258, false⟩], [⟨x, 0, big, true⟩], l9, [], [], [], l13] [(5, [6, 7])] = true := by
 have e1 : Nat.beq b x = false := beq_false.2 h1
 simp [pairsOk, clashAny, logOf, clash, clash1, meet, Nat.beq]
 exact e1
theorem ldA_on {S : St} {p : Nat} {t : Tr V} (h : AgAt S p 50 258 t) : Go.Proofs.Ytachpdpmoihjmaa.Ev.ldA 258 (.ptr p 0) (onS S) = some (.agg 258 t, rd S p 0 258) := by
 obtain ⟨c, h1, h2⟩ := h
 show (ldK (onS S) p 0 258).bind _ = _
 have : ldK (onS S) p 0 258 = some (t, rd S p 0 258) := by
  unfold ldK
  rw [show (onS S).heap.get p = _ from h1]
  simp only [show Nat.ble (0 + 258) (258 * 1) = true from rfl, blt_true.2 (show 258 * 1 < big by unfold big; decide), Bool.and_self, cond_true]
  unfold elemIn
  rw [show Nat.beq 258 258 = true from rfl, Nat.zero_mod, show Nat.beq 0 0 = true from rfl]
  simp only [Bool.and_self, cond_true, Nat.zero_div, h2, oB]
  rfl
 rw [this, oB]
end Go.Proofs.Ytachpdpmoihjmaa.W
namespace Go.Proofs.Ytachpdpmoihjmaa.W
open Go.Proofs.Ytachpdpmoihjmaa.Ev
section
variable {S : St} {b N0 i : Nat} {s : List UInt8} {f : Bool} {lv : V} {acc : List (Tr V)}
theorem box_ag (ho : S.on = false) (t : Tr V) : ∃ T, boxK 50 (.agg 258 t) S = some (.ptr S.next 0, T) ∧ AgAt T S.next 50 258 t ∧ Grew (fun _ => False) S T ∧ T.next = S.next + 1 := by
 refine ⟨newCells S 50 258 [t], rfl, ⟨Tr.ofListFrom .nil [t] 0, ?_, by rw [Tr.get_ofList]; rfl⟩, grew_nw ho _ _, rfl⟩
 unfold newCells
 rw [nw_get, if_pos rfl]; rfl
theorem nilP (b : Nat) : nilCheckV (.ptr b 0) = some (.ptr b 0) := rfl
theorem faPg (off k o : Nat) (g : Bool) : faP off g (k + 1) (.ptr b o) = some (.ptr b (o + off)) := faP_ptr off g k b o
theorem F13_z : ∃ Z : Tr V, ∀ (self : EV) (N : Nat) (x0 x1 : V) (S : St), F13 self N x0 x1 S =
(boxK 50 x1 S).bind fun p0 =>
(nilCheckV x0).bind fun t4 =>
(faP 0 true 2 t4).bind fun t5 =>
(faP 0 false 1 t5).bind fun t6 =>
(ld1 t6 (onS p0.2)).bind fun p7 =>
(ldA 258 p0.1 (onS p7.2)).bind fun p8 =>
(bsP 50 258 1 Z [(0, p8.1)] (onS p8.2)).bind fun p9 =>
(apP 50 258 272 p7.1 p9.1 (onS p9.2)).bind fun p10 =>
(nilCheckV x0).bind fun t11 =>
(faP 0 true 2 t11).bind fun t12 =>
(faP 0 false 1 t12).bind fun t13 =>
(stP 1 t13 p10.1 (onS p10.2)).bind fun p14 =>
endP [(5, [6, 7])] p0.2 [[], [], [], [], [], p7.2.log, p8.2.log, p9.2.log, p10.2.log, [], [], [], p14.2.log] p14.2 fun S15 =>
(nilCheckV x0).bind fun t17 =>
(faP 0 true 2 t17).bind fun t18 =>
(faP 0 false 1 t18).bind fun t19 =>
(ld1 t19 S15).bind fun p20 =>
(lnS p20.1 p20.2).bind fun p21 =>
(binV E0 .sub 3 false true p21.1 (.int .i64 1)).bind fun t22 =>
some (.ret t22, p21.2) := ⟨_, fun self N x0 x1 S => F13_eq self N x0 x1 S⟩
theorem add_run {K : FuncId → Option KF} (h13 : K 13 = none) (m : Nat) (h : Rdr S b N0 s i f lv acc) (hl : acc.length ≤ 3000) (t : Tr V) :
 ∃ T lv', (ev E0 K (m + 1)).f 13 [.ptr b 0, .agg 258 t] S = some (.ret (.int .i64 (acc.length : Int)), T) ∧ Rdr T b N0 s i f lv' (acc ++ [t]) ∧ Grew (fun x => N0 ≤ x) S T := by
 obtain ⟨Z, hZ⟩ := F13_z
 have ho := h.on
 obtain ⟨S0, a1, a2, a3, a4⟩ := box_ag ho t
 have on0 := a3.on.trans ho
 have lob := h.lo
 have hib := h.hi
 have h0 : Rdr S0 b N0 s i f lv acc := h.grew (fun _ _ _ h => h) a3
 obtain ⟨S1, b1, b2, b3, b4⟩ := bsP_lg on0 Z t
 have on1 := b3.on.trans on0
 have hap : ∃ S2 l2, apP 50 258 272 lv (.slice S0.next 0 1 1) (S1.lg []) = some (.oslice S1.next 0 (acc.length + 1) 258, S2.lg l2) ∧ RowAt S2 S1.next 50 258 (acc ++ [t]) ∧ Grew (fun x => N0 ≤ x ∧ x ≠ b) S1 S2 ∧ S2.next = S1.next + 1 := by
  rcases h0.steps with ⟨rfl, rfl⟩ | ⟨hne, r, rfl, hr, hNr, hrn⟩
  · obtain ⟨u, l, k1, k2, k3, k4⟩ := ap_first_lg on1 [] b2
    exact ⟨u, l, k1, k2, k3.mono fun _ _ h => h.elim, k4⟩
  · obtain ⟨u, l, k1, k2, k3, k4⟩ := ap_more_lg on1 [] b2 (hr.grew hrn (fun h => h) b3) hl
    exact ⟨u, l, k1, k2, k3.mono fun x _ hx => by rw [hx]; exact ⟨hNr, bx_row h0.bx hr⟩, k4⟩
 obtain ⟨S2, l2, c1, c2, c3, c4⟩ := hap
 have on2 := c3.on.trans on1
 have bx2 := (h0.bx.grew (by omega) (fun h => h) b3).grew (by omega) (fun h => h.2 rfl) c3
 have hst := bx_st6 (i := 0) (v := .oslice S1.next 0 (acc.length + 1) 258) (m := r6 (.oslice S1.next 0 (acc.length + 1) 258) s i f) on2 bx2 rfl rfl (by omega) (set6_0 _ _ _ _ _ _ _) rfl rfl rfl
 have g3 : Grew (fun x => x = b) S2 (S2.put b (bxO 44 (r6 (.oslice S1.next 0 (acc.length + 1) 258) s i f))) := grew_put b _
 have bx3 := bx_put (s := S2) b 44 (r6 (.oslice S1.next 0 (acc.length + 1) 258) s i f)
 have n3 : (S2.put b (bxO 44 (r6 (.oslice S1.next 0 (acc.length + 1) 258) s i f))).next = S2.next := rfl
 generalize S2.put b (bxO 44 (r6 (.oslice S1.next 0 (acc.length + 1) 258) s i f)) = S3 at hst g3 bx3 n3
 have on3 := g3.on.trans on2
 obtain ⟨l13, hlog⟩ := stP_lg on2 hst
 have row3 := c2.grew (by omega) (by omega) g3
 have hreg : ∀ U, U = relog S0 (S3.lg l13) [[], [], [], [], [], [⟨b, 0, 1, false⟩], [⟨S.next, 0, 258, false⟩], [⟨S0.next, 0, big, true⟩], l2, [], [], [], l13] → Rdr U b N0 s i f (.oslice S1.next 0 (acc.length + 1) 258) (acc ++ [t]) ∧ Grew (fun x => N0 ≤ x) S U := fun U hU => by
  obtain ⟨u1, u2, u3⟩ := relog_lg on0 l13 [[], [], [], [], [], [⟨b, 0, 1, false⟩], [⟨S.next, 0, 258, false⟩], [⟨S0.next, 0, big, true⟩], l2, [], [], [], l13] (s' := S3) on3
  rw [← hU] at u1 u2 u3
  have gg : Grew (fun x => N0 ≤ x) S S3 := ((a3.mono fun _ _ h => h.elim).trans ((b3.mono fun _ _ h => h.elim).trans (c3.mono fun x _ hx => hx.1))).trans (g3.mono fun x _ hx => by rw [hx]; exact lob)
  refine ⟨⟨u3, lob, by rw [u2]; omega, by unfold Bx at bx3 ⊢; rw [u1]; exact bx3, .inr ⟨by simp, S1.next, by rw [List.length_append]; rfl, row3.same u1, by omega, by rw [u2]; omega⟩⟩, ⟨by rw [u2]; exact gg.next, by rw [u3, ho], fun x hx hw => by rw [u1]; exact gg.keep x hx hw⟩⟩
 have hmain : F13 (ev E0 K m) rounds (.ptr b 0) (.agg 258 t) S = some (.ret (.int .i64 (acc.length : Int)), relog S0 (S3.lg l13) [[], [], [], [], [], [⟨b, 0, 1, false⟩], [⟨S.next, 0, 258, false⟩], [⟨S0.next, 0, big, true⟩], l2, [], [], [], l13]) := by
  have hU := (hreg _ rfl).1
  rw [hZ, a1, oB]
  dsimp only
  simp only [nilP, faPg, Nat.add_zero, oB]
  rw [h0.o0, oB]
  dsimp only
  rw [onS_rd, ldA_on a2, oB]
  dsimp only
  rw [onS_rd, onS_lg, b1, oB]
  dsimp only
  rw [onS_of_lg, onS_lg, c1, oB]
  dsimp only
  rw [onS_of_lg, onS_lg, hlog, oB]
  dsimp only
  have hp : ∀ (x : List (List LE)) (k : St → Rs), x = [[], [], [], [], [], [⟨b, 0, 1, false⟩], [⟨S.next, 0, 258, false⟩], [⟨S0.next, 0, big, true⟩], l2, [], [], [], l13] → endP [(5, [6, 7])] S0 x (S3.lg l13) k = k (relog S0 (S3.lg l13) [[], [], [], [], [], [⟨b, 0, 1, false⟩], [⟨S.next, 0, 258, false⟩], [⟨S0.next, 0, big, true⟩], l2, [], [], [], l13]) := fun x k hx => by
   rw [hx, endP_of (pairs13 (b := b) (p := S.next) (x := S0.next) (by omega) (by omega) l2 l13)]
  rw [hp [[], [], [], [], [], (rd S0 b 0 1).log, (rd S0 S.next 0 258).log, (S1.lg [⟨S0.next, 0, big, true⟩]).log, (S2.lg l2).log, [], [], [], (S3.lg l13).log] _ rfl]
  generalize relog S0 (S3.lg l13) [[], [], [], [], [], [⟨b, 0, 1, false⟩], [⟨S.next, 0, 258, false⟩], [⟨S0.next, 0, big, true⟩], l2, [], [], [], l13] = U at hU
  rw [hU.l0, oB]
  dsimp only
  rw [hU.steps.len, oB]
  dsimp only
  rw [List.length_append, binV_ii, intsV_sub, wrap_i64 (by rw [List.length_singleton]; omega) (by rw [List.length_singleton]; omega), oB, show (((acc.length + [t].length : Nat) : Int)) - 1 = (acc.length : Int) by simp]
 exact ⟨_, _, ev_read (c := C13) (d := B13) (by kernel_rfl) (by kernel_rfl) (annot_isOf C13 _ (by kernel_rfl)) h13 hmain, (hreg _ rfl).1, (hreg _ rfl).2⟩
end
end Go.Proofs.Ytachpdpmoihjmaa.W
namespace Go.Proofs.Ytachpdpmoihjmaa.W
open Go.Proofs.Ytachpdpmoihjmaa.Ev
theorem und9 : und E0 9 = some .string := by kernel_rfl
def hasPre (a t : List UInt8) : Bool := decide (t.length ≤ a.length) && (a.take t.length == t)
theorem pre_run {K : FuncId → Option KF} (h23 : K 23 = none) (h30 : K 30 = none) (m : Nat) (a t : List UInt8) (S : St) : (ev E0 K (m + 2)).f 23 [sv a, sv t] S = some (.ret (.bool (hasPre a t)), S) := by
 have e30 : F30 (ev E0 K m) rounds (sv a) (sv t) S = some (.ret (.bool (hasPre a t)), S) := by
  rw [F30_eq, lnStr_sv, oB]
  dsimp only
  rw [lnStr_sv, oB]
  dsimp only
  rw [binV_ii, intsV_geq, oB, guardV_t, oB]
  unfold hasPre
  by_cases h : t.length ≤ a.length
  · rw [show decide ((t.length : Int) ≤ (a.length : Int)) = true by simp; omega, cond_true, oB, oB, cond_true, oB, oB, cond_true, lnStr_sv, oB, oB, cond_true]
    dsimp only
    rw [slice_sv und9 a (bounds_hi .i64 h) h, oB, oB, cond_true, oB, oB, cond_true]
    dsimp only
    rw [binV_ss, strOp_eql, oB, pickV_bool, cond_true, oB, List.drop_zero, Nat.sub_zero, decide_eq_true h, Bool.true_and]
  · rw [show decide ((t.length : Int) ≤ (a.length : Int)) = false by simp; omega, cond_false, oB, oB, cond_false, oB, oB, cond_false, oB, oB, cond_false, oB, oB, cond_false, oB, oB, cond_false, oB, pickV_bool, cond_false, oB, decide_eq_false h, Bool.false_and]
 have e30' := ev_read (c := C30) (d := B30) (by kernel_rfl) (by kernel_rfl) (annot_isOf C30 _ (by kernel_rfl)) h30 e30
 refine ev_read (c := C23) (d := B23) (by kernel_rfl) (by kernel_rfl) (annot_isOf C23 _ (by kernel_rfl)) h23 (?_ : F23 (ev E0 K (m + 1)) rounds (sv a) (sv t) S = _)
 rw [F23_eq, e30', callP_ret]
section
variable {S : St} {b N0 i : Nat} {s : List UInt8} {f : Bool} {lv : V} {acc : List (Tr V)}
theorem at_run {K : FuncId → Option KF} (h16 : K 16 = none) (h23 : K 23 = none) (h30 : K 30 = none) (m : Nat) (h : Rdr S b N0 s i f lv acc) (hi : i ≤ s.length) (t : List UInt8) :
 (ev E0 K (m + 3)).f 16 [.ptr b 0, sv t] S = some (.ret (.bool (hasPre (s.drop i) t)), S) := by
 refine ev_read (c := C16) (d := B16) (by kernel_rfl) (by kernel_rfl) (annot_isOf C16 _ (by kernel_rfl)) h16 (?_ : F16 (ev E0 K (m + 2)) rounds (.ptr b 0) (sv t) S = _)
 rw [F16_eq]
 simp only [nilP, faPg, Nat.zero_add, oB]
 rw [h.o2, oB]
 dsimp only
 rw [onS_rd, h.o3, oB]
 dsimp only
 rw [onS_rd, slice_sv und9 s (bounds_lo .i64 hi) (Nat.le_refl _), oB]
 dsimp only
 rw [show List.take (s.length - i) (s.drop i) = s.drop i from List.take_of_length_le (by rw [List.length_drop]; exact Nat.le_refl _), onS_onS, pre_run h23 h30 m, callD_ret, endP_rd (by rfl), onS_onS, relog_onS h.on]
theorem must_run {K : FuncId → Option KF} (h18 : K 18 = none) (m : Nat) (S : St) : (ev E0 K (m + 1)).f 18 [.bool true] S = some (.ret (.tuple []), S) := by
 refine ev_read (c := C18) (d := B18) (by kernel_rfl) (by kernel_rfl) (annot_isOf C18 _ (by kernel_rfl)) h18 (?_ : F18 (ev E0 K m) rounds (.bool true) S = _)
 rw [F18_eq, unV_not, oB, Bool.not_true, ifK_bool, cond_false]
theorem F27_z : ∃ Z : Tr V, ∀ (self : EV) (N : Nat) (x0 x1 : V) (S : St), F27 self N x0 x1 S =
(buildV E0 50 [(1, (.int .i64 0))]).bind fun t1 =>
(some (nwP 50 258 Z S)).bind fun p2 =>
(stP 258 p2.1 t1 p2.2).bind fun p3 =>
(faP 0 true 256 p2.1).bind fun t5 =>
(faP 0 true 256 t5).bind fun t6 =>
(ixA 256 1 false 1 t6 x1).bind fun t7 =>
(stP 1 t7 (.bool true) p3.2).bind fun p8 =>
(ldA 258 p2.1 p8.2).bind fun p10 =>
callP (self.f 13 [x0, p10.1] p10.2) fun t11 S11 =>
some (.ret (.bool false), S11) := ⟨_, fun self N x0 x1 S => F27_eq self N x0 x1 S⟩
noncomputable def takeT (c : UInt8) : Tr V := (TK 0).set (.bool true) c.toNat
theorem single_run {K : FuncId → Option KF} (h13 : K 13 = none) (h27 : K 27 = none) (m : Nat) (h : Rdr S b N0 s i f lv acc) (hl : acc.length ≤ 3000) (c : UInt8) :
 ∃ T lv', (ev E0 K (m + 2)).f 27 [.ptr b 0, .int .u8 (c.toNat : Int)] S = some (.ret (.bool false), T) ∧ Rdr T b N0 s i f lv' (acc ++ [takeT c]) ∧ Grew (fun x => N0 ≤ x) S T := by
 obtain ⟨Z, hZ⟩ := F27_z
 have ho := h.on
 obtain ⟨a1, a2, a3⟩ := ag_new ho 50 258 Z
 have on1 : (nwP 50 258 Z S).2.on = false := nw_on ho _
 have hz := hZ (ev E0 K (m + 1)) rounds (.ptr b 0) (.int .u8 (c.toNat : Int)) S
 rw [build_0, oB, oB, nwP_fst] at hz
 generalize (nwP 50 258 Z S).2 = S1 at a1 a2 a3 on1 hz
 obtain ⟨S2, b1, b2, b3, b4⟩ := a1.stA on1 big258 (TK 0)
 have on2 := b3.on.trans on1
 obtain ⟨S3, c1, c2, c3, c4⟩ := b2.st1 on2 (i := c.toNat) (v := .bool true) big258 (by omega) (by have := c.toNat_lt; omega) rfl rfl rfl
 have on3 := c3.on.trans on2
 have lo := h.lo
 have hi := h.hi
 have g3 : Grew (fun _ => False) S S3 := (a2.own (Nat.le_refl _) b3).own (Nat.le_refl _) c3
 have h3 : Rdr S3 b N0 s i f lv acc := h.grew (fun _ _ _ h => h) g3
 obtain ⟨T, lv', d1, d2, d3⟩ := add_run h13 m h3 hl (takeT c)
 refine ⟨T, lv', ev_read (c := C27) (d := B27) (by kernel_rfl) (by kernel_rfl) (annot_isOf C27 _ (by kernel_rfl)) h27 (hz.trans ?_), d2, (g3.mono fun _ _ h => h.elim).trans d3⟩
 rw [b1, oB]
 dsimp only
 rw [faPg, oB, Nat.add_zero, faPg, oB, Nat.add_zero, ixA_ptr 256 1 false 1 .u8 c.toNat_lt, oB, Nat.zero_add, Nat.mul_one, c1, oB]
 dsimp only
 rw [c2.ldA on3 big258, oB]
 dsimp only
 rw [show ((TK 0).set (.bool true) c.toNat) = takeT c from rfl, d1, callP_ret]
theorem f31_run {K : FuncId → Option KF} (h31 : K 31 = none) (h33 : K 33 = none) (m : Nat) (a : List UInt8) (c : UInt8) (S : St) : (ev E0 K (m + 2)).f 31 [sv a, .int .u8 (c.toNat : Int)] S = some (.ret (.int .i64 (ixB a c)), S) := by
 have e33 := ev_read (c := C33) (d := B33) (by kernel_rfl) (by kernel_rfl) (annot_isOf C33 _ (by kernel_rfl)) h33 (F73_spec (ev E0 K m) rounds a c S)
 refine ev_read (c := C31) (d := B31) (by kernel_rfl) (by kernel_rfl) (annot_isOf C31 _ (by kernel_rfl)) h31 (?_ : F31 (ev E0 K (m + 1)) rounds (sv a) (.int .u8 (c.toNat : Int)) S = _)
 rw [F31_eq, e33, callP_ret]
def special (c : UInt8) : Bool := c == 46 || c == 42 || c == 91 || c == 93 || c == 94 || c == 36 || c == 92
theorem special_ix {c : UInt8} (h : special c = true) : 0 ≤ ixB [46, 42, 91, 93, 94, 36, 47, 92] c ∧ c ≠ 40 ∧ c ≠ 110 := by
 unfold special at h
 simp only [Bool.or_eq_true, beq_iff_eq] at h
 rcases h with (((((h | h) | h) | h) | h) | h) | h <;> subst h <;> exact ⟨by decide, by decide, by decide⟩
theorem u8_dec (c d : UInt8) : decide ((c.toNat : Int) = (d.toNat : Int)) = (c == d) := by
 rw [Bool.eq_iff_iff]
 simp only [beq_iff_eq, decide_eq_true_eq]
 constructor
 · intro h; exact UInt8.toNat_inj.1 (by omega)
 · intro h; rw [h]
theorem stroke_run {K : FuncId → Option KF} (h26 : K 26 = none) (h18 : K 18 = none) (h13 : K 13 = none) (h27 : K 27 = none) (h31 : K 31 = none) (h33 : K 33 = none) (m : Nat) (h : Rdr S b N0 s i f lv acc) (hl : acc.length ≤ 3000) (hi : i < s.length) (hs : s.length ≤ 300) (hc : special s[i] = true) :
 ∃ T lv', (ev E0 K (m + 3)).f 26 [.ptr b 0] S = some (.ret (.bool false), T) ∧ Rdr T b N0 s (i + 1) f lv' (acc ++ [takeT s[i]]) ∧ Grew (fun x => N0 ≤ x) S T := by
 have ho := h.on
 obtain ⟨q1, q2, q3⟩ := special_ix hc
 obtain ⟨S1, a1, a2, a3⟩ := h.putI (i + 1)
 obtain ⟨T, lv', b1, b2, b3⟩ := single_run h13 h27 m a2 hl s[i]
 refine ⟨T, lv', ev_read (c := C26) (d := B26) (by kernel_rfl) (by kernel_rfl) (annot_isOf C26 _ (by kernel_rfl)) h26 (?_ : F26 (ev E0 K (m + 2)) rounds (.ptr b 0) S = _), b2, a3.trans b3⟩
 rw [F26_eq]
 simp only [nilP, faPg, Nat.zero_add, oB]
 rw [h.o3, oB]
 dsimp only
 rw [onS_rd, h.o2, oB]
 dsimp only
 rw [onS_rd, lnStr_sv, oB]
 dsimp only
 rw [binV_ii, intsV_lss, dec_lt hi, oB, onS_onS, show ev E0 K (m + 2) = ev E0 K (m + 1 + 1) from rfl, must_run h18, callD_ret, endP_rd (by rfl), relog_onS ho, h.o2, oB]
 dsimp only
 rw [onS_rd, h.o3, oB]
 dsimp only
 rw [ixS_sv s .i64 i hi, oB, endP_rd (by rfl), onS_rd, relog_onS ho, h.l3, oB]
 dsimp only
 rw [binV_ii, intsV_add, wrap_succ (by omega), oB, a1, oB]
 dsimp only
 rw [binV_ii, intsV_eql, show (40 : Int) = (((40 : UInt8).toNat : Nat) : Int) from rfl, u8_dec, beq_false_of_ne q2, oB, ifK_bool, cond_false, binV_ii, intsV_eql, show (110 : Int) = (((110 : UInt8).toNat : Nat) : Int) from rfl, u8_dec, beq_false_of_ne q3, oB, ifK_bool, cond_false, show ev E0 K (m + 1 + 1) = ev E0 K (m + 2) from rfl, f31_run h31 h33 m, callP_ret, binV_ii, intsV_geq, show decide ((0 : Int) ≤ ixB [46, 42, 91, 93, 94, 36, 47, 92] s[i]) = true from decide_eq_true q1, oB, show ev E0 K (m + 2) = ev E0 K (m + 1 + 1) from rfl, must_run h18, callP_ret, show ev E0 K (m + 1 + 1) = ev E0 K (m + 2) from rfl, b1, callP_ret]
end
end Go.Proofs.Ytachpdpmoihjmaa.W
namespace Go.Proofs.Ytachpdpmoihjmaa.W
open Go.Proofs.Ytachpdpmoihjmaa.Ev
section
variable {S : St}
theorem upd_lit (ho : S.on = false) {r k clock : Nat} {es : List ME} {v : V} (h : S.heap.get r = some (.map es clock)) (hf : mfind (.int .u8 (k : Int)) es 0 = some none) : updateV E0 67 (.map r) (.int .u8 (k : Int)) v S = some (S.put r (.map (es ++ [{ k := .int .u8 (k : Int), v := v, born := clock }]) (clock + 1))) := by
 have hu : und E0 67 = some (.map 5 31) := by kernel_rfl
 have h5 : und E0 5 = some (.int .u8) := by kernel_rfl
 unfold updateV
 rw [hu, oB]
 simp only
 rw [h5, oB]
 simp only [keyOk, cond_true]
 rw [getO_off ho h, oB]
 simp only
 rw [hf, oB]
 simp only
 rw [setO_off ho]
theorem lit_run (ho : S.on = false) (c : UInt8) (x0 : V) (hc : c ≠ 46 ∧ c ≠ 91) :
 ∃ T, Grew (fun _ => False) S T ∧ ∀ (k : V × St → Rs), ((makeMapK E0 67 none S).bind fun p79 =>
(vu (updateV E0 67 p79.1 (.int .u8 46) (.fn (.func 24) [x0] []) p79.2)).bind fun p82 =>
(vu (updateV E0 67 p79.1 (.int .u8 91) (.fn (.func 25) [x0] []) p82.2)).bind fun p85 =>
(vu (updateV E0 67 p79.1 (.int .u8 92) (.fn (.func 26) [x0] []) p85.2)).bind fun p88 =>
(lookupV E0 67 p79.1 (.int .u8 (c.toNat : Int)) true p88.2).bind k) = k (if c = 92 then .tuple [.fn (.func 26) [x0] [], .bool true] else .tuple [.nilfn, .bool false], T) := by
 have g1 := grew_nw ho (fun _ => False) (.map [] 0)
 have h1 : (nw S (.map [] 0)).heap.get S.next = some (.map [] 0) := by rw [nw_get, if_pos rfl]
 have on1 : (nw S (.map [] 0)).on = false := nw_on ho _
 have e1 := upd_lit (k := 46) (v := .fn (.func 24) [x0] []) on1 h1 rfl
 have h2 : ((nw S (.map [] 0)).put S.next (.map ([] ++ [{ k := .int .u8 ((46 : Nat) : Int), v := .fn (.func 24) [x0] [], born := 0 }]) (0 + 1))).heap.get S.next = some (.map ([] ++ [{ k := .int .u8 ((46 : Nat) : Int), v := .fn (.func 24) [x0] [], born := 0 }]) (0 + 1)) := by rw [put_get, if_pos rfl]
 have g2 := grew_put (s := nw S (.map [] 0)) S.next (.map ([] ++ [{ k := .int .u8 ((46 : Nat) : Int), v := .fn (.func 24) [x0] [], born := 0 }]) (0 + 1))
 have on2 := g2.on.trans on1
 generalize (nw S (.map [] 0)).put S.next (.map ([] ++ [{ k := .int .u8 ((46 : Nat) : Int), v := .fn (.func 24) [x0] [], born := 0 }]) (0 + 1)) = S2 at e1 h2 g2 on2
 have e2 := upd_lit (k := 91) (v := .fn (.func 25) [x0] []) on2 h2 rfl
 have h3 : (S2.put S.next (.map (([] ++ [{ k := .int .u8 ((46 : Nat) : Int), v := .fn (.func 24) [x0] [], born := 0 }]) ++ [{ k := .int .u8 ((91 : Nat) : Int), v := .fn (.func 25) [x0] [], born := 0 + 1 }]) (0 + 1 + 1))).heap.get S.next = some (.map (([] ++ [{ k := .int .u8 ((46 : Nat) : Int), v := .fn (.func 24) [x0] [], born := 0 }]) ++ [{ k := .int .u8 ((91 : Nat) : Int), v := .fn (.func 25) [x0] [], born := 0 + 1 }]) (0 + 1 + 1)) := by rw [put_get, if_pos rfl]
 have g3 := grew_put (s := S2) S.next (.map (([] ++ [{ k := .int .u8 ((46 : Nat) : Int), v := .fn (.func 24) [x0] [], born := 0 }]) ++ [{ k := .int .u8 ((91 : Nat) : Int), v := .fn (.func 25) [x0] [], born := 0 + 1 }]) (0 + 1 + 1))
 have on3 := g3.on.trans on2
 generalize S2.put S.next (.map (([] ++ [{ k := .int .u8 ((46 : Nat) : Int), v := .fn (.func 24) [x0] [], born := 0 }]) ++ [{ k := .int .u8 ((91 : Nat) : Int), v := .fn (.func 25) [x0] [], born := 0 + 1 }]) (0 + 1 + 1)) = S3 at e2 h3 g3 on3
 have e3 := upd_lit (k := 92) (v := .fn (.func 26) [x0] []) on3 h3 rfl
 have h4 : (S3.put S.next (.map ((([] ++ [{ k := .int .u8 ((46 : Nat) : Int), v := .fn (.func 24) [x0] [], born := 0 }]) ++ [{ k := .int .u8 ((91 : Nat) : Int), v := .fn (.func 25) [x0] [], born := 0 + 1 }]) ++ [{ k := .int .u8 ((92 : Nat) : Int), v := .fn (.func 26) [x0] [], born := 0 + 1 + 1 }]) (0 + 1 + 1 + 1))).heap.get S.next = some (.map ((([] ++ [{ k := .int .u8 ((46 : Nat) : Int), v := .fn (.func 24) [x0] [], born := 0 }]) ++ [{ k := .int .u8 ((91 : Nat) : Int), v := .fn (.func 25) [x0] [], born := 0 + 1 }]) ++ [{ k := .int .u8 ((92 : Nat) : Int), v := .fn (.func 26) [x0] [], born := 0 + 1 + 1 }]) (0 + 1 + 1 + 1)) := by rw [put_get, if_pos rfl]
 have g4 := grew_put (s := S3) S.next (.map ((([] ++ [{ k := .int .u8 ((46 : Nat) : Int), v := .fn (.func 24) [x0] [], born := 0 }]) ++ [{ k := .int .u8 ((91 : Nat) : Int), v := .fn (.func 25) [x0] [], born := 0 + 1 }]) ++ [{ k := .int .u8 ((92 : Nat) : Int), v := .fn (.func 26) [x0] [], born := 0 + 1 + 1 }]) (0 + 1 + 1 + 1))
 have on4 := g4.on.trans on3
 generalize S3.put S.next (.map ((([] ++ [{ k := .int .u8 ((46 : Nat) : Int), v := .fn (.func 24) [x0] [], born := 0 }]) ++ [{ k := .int .u8 ((91 : Nat) : Int), v := .fn (.func 25) [x0] [], born := 0 + 1 }]) ++ [{ k := .int .u8 ((92 : Nat) : Int), v := .fn (.func 26) [x0] [], born := 0 + 1 + 1 }]) (0 + 1 + 1 + 1)) = S4 at e3 h4 g4 on4
 refine ⟨S4, ((g1.own (Nat.le_refl _) g2).own (Nat.le_refl _) g3).own (Nat.le_refl _) g4, fun k => ?_⟩
 have look : lookupV E0 67 (.map S.next) (.int .u8 (c.toNat : Int)) true S4 = some (if c = 92 then .tuple [.fn (.func 26) [x0] [], .bool true] else .tuple [.nilfn, .bool false], S4) := by
  have hu : und E0 67 = some (.map 5 31) := by kernel_rfl
  have hz : zeroT E0 31 = some .nilfn := by kernel_rfl
  have h5 : und E0 5 = some (.int .u8) := by kernel_rfl
  unfold lookupV
  rw [hu, oB]
  simp only
  rw [h5, oB]
  simp only [keyOk, cond_true]
  rw [getO_off on4 h4, oB]
  simp only
  rw [oB]
  have hm : mfind (.int .u8 (c.toNat : Int)) ((([] ++ [{ k := .int .u8 ((46 : Nat) : Int), v := .fn (.func 24) [x0] [], born := 0 }]) ++ [{ k := .int .u8 ((91 : Nat) : Int), v := .fn (.func 25) [x0] [], born := 0 + 1 }]) ++ [{ k := .int .u8 ((92 : Nat) : Int), v := .fn (.func 26) [x0] [], born := 0 + 1 + 1 }]) 0 = some (if c = 92 then some (2, .fn (.func 26) [x0] []) else none) := by
   have q1 : iEq (c.toNat : Int) ((46 : Nat) : Int) = false := by rw [iEq_eq]; exact beq_false_of_ne fun e => hc.1 (UInt8.toNat_inj.1 (by have h0 : (46 : UInt8).toNat = 46 := rfl; omega : c.toNat = (46 : UInt8).toNat))
   have q2 : iEq (c.toNat : Int) ((91 : Nat) : Int) = false := by rw [iEq_eq]; exact beq_false_of_ne fun e => hc.2 (UInt8.toNat_inj.1 (by have h0 : (91 : UInt8).toNat = 91 := rfl; omega : c.toNat = (91 : UInt8).toNat))
   simp only [List.nil_append, List.cons_append, mfind, ikEq_refl, cond_true, q1, q2, cond_false]
   by_cases h92 : c = 92
   · subst h92
     rw [if_pos rfl]
     rfl
   · have q3 : iEq (c.toNat : Int) ((92 : Nat) : Int) = false := by rw [iEq_eq]; exact beq_false_of_ne fun e => h92 (UInt8.toNat_inj.1 (by have h0 : (92 : UInt8).toNat = 92 := rfl; omega : c.toNat = (92 : UInt8).toNat))
     rw [q3, if_neg h92]
     rfl
  rw [hm, oB]
  by_cases h92 : c = 92
  · rw [if_pos h92, if_pos h92]
    all_goals rfl
  · rw [if_neg h92, if_neg h92]
    simp only
    rw [hz]; rfl
 show ((some (V.map S.next, nw S (.map [] 0))).bind _) = _
 rw [oB]
 dsimp only
 rw [show (V.int .u8 46) = .int .u8 ((46 : Nat) : Int) from rfl, e1]
 show ((some (V.tuple [], S2)).bind _) = _
 rw [oB]
 dsimp only
 rw [show (V.int .u8 91) = .int .u8 ((91 : Nat) : Int) from rfl, e2]
 show ((some (V.tuple [], S3)).bind _) = _
 rw [oB]
 dsimp only
 rw [show (V.int .u8 92) = .int .u8 ((92 : Nat) : Int) from rfl, e3]
 show ((some (V.tuple [], S4)).bind _) = _
 rw [oB]
 dsimp only
 rw [look, oB]
end
theorem callK_fn {E : Env} {self : EV} {f : FuncId} (h : E.ext.get f = none) (hb : hasBody E f = true) (x y args : List V) (S : St) : callK E self (.fn (.func f) x y) args S = self.f f (x ++ args ++ y) S := by
 show (match E.ext.get f with | some k => _ | none => _) = _
 rw [h]
 show (bif hasBody E f then self.f f (x ++ args ++ y) S else none) = _
 rw [hb]; rfl
theorem body26 : E0.ext.get 26 = none ∧ hasBody E0 26 = true := ⟨by kernel_rfl, by kernel_rfl⟩
section
variable {S : St} {b N0 i : Nat} {s : List UInt8} {f : Bool} {lv : V} {acc : List (Tr V)}
theorem piece_run {K : FuncId → Option KF} (h17 : K 17 = none) (h26 : K 26 = none) (h18 : K 18 = none) (h13 : K 13 = none) (h27 : K 27 = none) (h31 : K 31 = none) (h33 : K 33 = none) (m : Nat) (h : Rdr S b N0 s i f lv acc) (hl : acc.length ≤ 3000) (hi : i < s.length) (hs : s.length ≤ 300)
 (j : Nat) (d : UInt8) (hd : (s[i] = 92 ∧ j = i + 2 ∧ ∃ h1 : i + 1 < s.length, s[i + 1] = d ∧ special d = true) ∨ (special s[i] = false ∧ j = i + 1 ∧ s[i] = d)) :
 ∃ T lv', (ev E0 K (m + 4)).f 17 [.ptr b 0] S = some (.ret (.tuple [.bool false, .bool true]), T) ∧ Rdr T b N0 s j false lv' (acc ++ [takeT d]) ∧ Grew (fun x => N0 ≤ x) S T := by
 have ho := h.on
 have hne : s[i] ≠ 94 ∧ s[i] ≠ 36 ∧ s[i] ≠ 46 ∧ s[i] ≠ 91 ∧ s[i] ≠ 42 := by
  rcases hd with ⟨e, _⟩ | ⟨e, _⟩
  · rw [e]; decide
  · unfold special at e
    simp only [Bool.or_eq_false_iff, beq_eq_false_iff_ne] at e
    exact ⟨e.1.1.2, e.1.2, e.1.1.1.1.1.1, e.1.1.1.1.2, e.1.1.1.1.1.2⟩
 obtain ⟨S1, a1, a2, a3⟩ := h.putI (i + 1)
 obtain ⟨S2, b1, b2, b3⟩ := a2.putF false
 have on2 := b2.on
 obtain ⟨S3, g3, hlit⟩ := lit_run on2 s[i] (.ptr b 0) ⟨hne.2.2.1, hne.2.2.2.1⟩
 have h3 : Rdr S3 b N0 s (i + 1) false lv acc := b2.grew (fun _ _ _ h => h) g3
 have gg : Grew (fun x => N0 ≤ x) S S3 := (a3.trans b3).trans (g3.mono fun _ _ h => h.elim)
 suffices hmain : ∃ T lv', F17 (ev E0 K (m + 3)) rounds (.ptr b 0) S = some (.ret (.tuple [.bool false, .bool true]), T) ∧ Rdr T b N0 s j false lv' (acc ++ [takeT d]) ∧ Grew (fun x => N0 ≤ x) S T by
  obtain ⟨T, lv', q1, q2, q3⟩ := hmain
  exact ⟨T, lv', ev_read (c := C17) (d := B17) (by kernel_rfl) (by kernel_rfl) (annot_isOf C17 _ (by kernel_rfl)) h17 q1, q2, q3⟩
 rw [F17_eq]
 simp only [nilP, faPg, Nat.zero_add, oB]
 rw [h.o2, oB]
 dsimp only
 rw [onS_rd, h.o3, oB]
 dsimp only
 rw [ixS_sv s .i64 i hi, oB, onS_rd, h.o5, oB]
 dsimp only
 rw [endP_rd (by rfl), onS_rd, relog_onS ho, h.l3, oB]
 dsimp only
 rw [binV_ii, intsV_add, wrap_succ (by omega), oB, a1, oB]
 dsimp only
 rw [b1, oB]
 dsimp only
 rw [binV_ii, intsV_eql, show (94 : Int) = (((94 : UInt8).toNat : Nat) : Int) from rfl, u8_dec, beq_false_of_ne hne.1, oB, guardV_t, oB, cond_false, oB, pickV_bool, cond_false, oB, ifK_bool, cond_false, binV_ii, intsV_eql, show (36 : Int) = (((36 : UInt8).toNat : Nat) : Int) from rfl, u8_dec, beq_false_of_ne hne.2.1, oB]
 simp only [guardV_t, guardV_f, guardV_no, oB, cond_false, pickV_bool, callD_ret, onS_onS]
 rw [endP_rd (by rfl), relog_onS on2, ifK_bool, cond_false]
 have key : ∀ {R : V × St → Rs} {G : Prop}, (∀ T lv', R (if s[i] = 92 then .tuple [.fn (.func 26) [.ptr b 0] [], .bool true] else .tuple [.nilfn, .bool false], S3) = some (.ret (.tuple [.bool false, .bool true]), T) → Rdr T b N0 s j false lv' (acc ++ [takeT d]) → Grew (fun x => N0 ≤ x) S T → G) → True := fun _ => trivial
 rcases hd with ⟨e92, hj, h1, hd1, hd2⟩ | ⟨e, hj, hd1⟩
 · obtain ⟨T, lv', q1, q2, q3⟩ := stroke_run h26 h18 h13 h27 h31 h33 m h3 hl h1 hs (by rw [hd1]; exact hd2)
   refine ⟨T, lv', (hlit _).trans ?_, by rw [hj, ← hd1]; exact q2, gg.trans q3⟩
   rw [if_pos e92, show extractV (.tuple [.fn (.func 26) [.ptr b 0] [], .bool true]) 0 = some (.fn (.func 26) [.ptr b 0] []) from rfl, show extractV (.tuple [.fn (.func 26) [.ptr b 0] [], .bool true]) 1 = some (.bool true) from rfl, oB, oB, ifK_bool, cond_true, callK_fn body26.1 body26.2]
   show callP ((ev E0 K (m + 3)).f 26 [.ptr b 0] S3) _ = _
   rw [q1, callP_ret]
 · have hn92 : s[i] ≠ 92 := fun e' => by rw [e'] at e; exact absurd e (by decide)
   obtain ⟨T, lv', q1, q2, q3⟩ := single_run h13 h27 (m + 1) h3 hl d
   refine ⟨T, lv', (hlit _).trans ?_, by rw [hj]; exact q2, gg.trans q3⟩
   rw [if_neg hn92, show extractV (.tuple [.nilfn, .bool false]) 0 = some .nilfn from rfl, show extractV (.tuple [.nilfn, .bool false]) 1 = some (.bool false) from rfl, oB, oB, ifK_bool, cond_false, binV_ii, intsV_neq, show (42 : Int) = (((42 : UInt8).toNat : Nat) : Int) from rfl, u8_dec, beq_false_of_ne hne.2.2.2.2, oB, Bool.not_false, guardV_f, Bool.not_true, oB, cond_false, oB, pickV_bool, cond_true, oB, show ev E0 K (m + 3) = ev E0 K (m + 2 + 1) from rfl, must_run h18, callP_ret, hd1, show ev E0 K (m + 2 + 1) = ev E0 K (m + 1 + 2) from rfl, q1, callP_ret]
end
end Go.Proofs.Ytachpdpmoihjmaa.W
