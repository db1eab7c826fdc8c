/-
  WHAT THE FUNCTIONS COME TO: each is read by the evaluator, printed, and told as a function of data, part 4 of 7 (no condition).
-/
import Derived.Test.YtachpdpmoihjmaaW3
namespace Go.Proofs.Ytachpdpmoihjmaa.W
open Go.Proofs.Ytachpdpmoihjmaa.Ev
theorem und9 : und E0 9 = some .string := by kernel_rfl
def hasPre (a t : List UInt8) : Bool := decide (t.length ≤ a.length) && (a.take t.length == t)
theorem pre_run {K : FuncId → Option KF} (h23 : K 23 = none) (h30 : K 30 = none) (m : Nat) (a t : List UInt8) (S : St) : (ev E0 K (m + 2)).f 23 [sv a, sv t] S = some (.ret (.bool (hasPre a t)), S) := by
 have e30 : F30 (ev E0 K m) rounds (sv a) (sv t) S = some (.ret (.bool (hasPre a t)), S) := by
  rw [F30_eq, lnStr_sv, oB]
  dsimp only
  rw [lnStr_sv, oB]
  dsimp only
  rw [binV_ii, intsV_geq, oB, guardV_t, oB]
  unfold hasPre
  by_cases h : t.length ≤ a.length
  · rw [show decide ((t.length : Int) ≤ (a.length : Int)) = true by simp; omega, cond_true, oB, oB, cond_true, oB, oB, cond_true, lnStr_sv, oB, oB, cond_true]
    dsimp only
    rw [slice_sv und9 a (bounds_hi .i64 h) h, oB, oB, cond_true, oB, oB, cond_true]
    dsimp only
    rw [binV_ss, strOp_eql, oB, pickV_bool, cond_true, oB, List.drop_zero, Nat.sub_zero, decide_eq_true h, Bool.true_and]
  · rw [show decide ((t.length : Int) ≤ (a.length : Int)) = false by simp; omega, cond_false, oB, oB, cond_false, oB, oB, cond_false, oB, oB, cond_false, oB, oB, cond_false, oB, oB, cond_false, oB, pickV_bool, cond_false, oB, decide_eq_false h, Bool.false_and]
 have e30' := ev_read (c := C30) (d := B30) (by kernel_rfl) (by kernel_rfl) (annot_isOf C30 _ (by kernel_rfl)) h30 e30
 refine ev_read (c := C23) (d := B23) (by kernel_rfl) (by kernel_rfl) (annot_isOf C23 _ (by kernel_rfl)) h23 (?_ : F23 (ev E0 K (m + 1)) rounds (sv a) (sv t) S = _)
 rw [F23_eq, e30', callP_ret]
section
variable {S : St} {b N0 i : Nat} {s : List UInt8} {f : Bool} {lv : V} {acc : List (Tr V)}
theorem at_run {K : FuncId → Option KF} (h16 : K 16 = none) (h23 : K 23 = none) (h30 : K 30 = none) (m : Nat) (h : Rdr S b N0 s i f lv acc) (hi : i ≤ s.length) (t : List UInt8) :
 (ev E0 K (m + 3)).f 16 [.ptr b 0, sv t] S = some (.ret (.bool (hasPre (s.drop i) t)), S) := by
 refine ev_read (c := C16) (d := B16) (by kernel_rfl) (by kernel_rfl) (annot_isOf C16 _ (by kernel_rfl)) h16 (?_ : F16 (ev E0 K (m + 2)) rounds (.ptr b 0) (sv t) S = _)
 rw [F16_eq]
 simp only [nilP, faPg, Nat.zero_add, oB]
 rw [h.o2, oB]
 dsimp only
 rw [onS_rd, h.o3, oB]
 dsimp only
 rw [onS_rd, slice_sv und9 s (bounds_lo .i64 hi) (Nat.le_refl _), oB]
 dsimp only
 rw [show List.take (s.length - i) (s.drop i) = s.drop i from List.take_of_length_le (by rw [List.length_drop]; exact Nat.le_refl _), onS_onS, pre_run h23 h30 m, callD_ret, endP_rd (by rfl), onS_onS, relog_onS h.on]
theorem must_run {K : FuncId → Option KF} (h18 : K 18 = none) (m : Nat) (S : St) : (ev E0 K (m + 1)).f 18 [.bool true] S = some (.ret (.tuple []), S) := by
 refine ev_read (c := C18) (d := B18) (by kernel_rfl) (by kernel_rfl) (annot_isOf C18 _ (by kernel_rfl)) h18 (?_ : F18 (ev E0 K m) rounds (.bool true) S = _)
 rw [F18_eq, unV_not, oB, Bool.not_true, ifK_bool, cond_false]
theorem F27_z : ∃ Z : Tr V, ∀ (self : EV) (N : Nat) (x0 x1 : V) (S : St), F27 self N x0 x1 S =
(buildV E0 50 [(1, (.int .i64 0))]).bind fun t1 =>
(some (nwP 50 258 Z S)).bind fun p2 =>
(stP 258 p2.1 t1 p2.2).bind fun p3 =>
(faP 0 true 256 p2.1).bind fun t5 =>
(faP 0 true 256 t5).bind fun t6 =>
(ixA 256 1 false 1 t6 x1).bind fun t7 =>
(stP 1 t7 (.bool true) p3.2).bind fun p8 =>
(ldA 258 p2.1 p8.2).bind fun p10 =>
callP (self.f 13 [x0, p10.1] p10.2) fun t11 S11 =>
some (.ret (.bool false), S11) := ⟨_, fun self N x0 x1 S => F27_eq self N x0 x1 S⟩
noncomputable def takeT (c : UInt8) : Tr V := (TK 0).set (.bool true) c.toNat
theorem single_run {K : FuncId → Option KF} (h13 : K 13 = none) (h27 : K 27 = none) (m : Nat) (h : Rdr S b N0 s i f lv acc) (hl : acc.length ≤ 3000) (c : UInt8) :
 ∃ T lv', (ev E0 K (m + 2)).f 27 [.ptr b 0, .int .u8 (c.toNat : Int)] S = some (.ret (.bool false), T) ∧ Rdr T b N0 s i f lv' (acc ++ [takeT c]) ∧ Grew (fun x => N0 ≤ x) S T := by
 obtain ⟨Z, hZ⟩ := F27_z
 have ho := h.on
 obtain ⟨a1, a2, a3⟩ := ag_new ho 50 258 Z
 have on1 : (nwP 50 258 Z S).2.on = false := nw_on ho _
 have hz := hZ (ev E0 K (m + 1)) rounds (.ptr b 0) (.int .u8 (c.toNat : Int)) S
 rw [build_0, oB, oB, nwP_fst] at hz
 generalize (nwP 50 258 Z S).2 = S1 at a1 a2 a3 on1 hz
 obtain ⟨S2, b1, b2, b3, b4⟩ := a1.stA on1 big258 (TK 0)
 have on2 := b3.on.trans on1
 obtain ⟨S3, c1, c2, c3, c4⟩ := b2.st1 on2 (i := c.toNat) (v := .bool true) big258 (by omega) (by have := c.toNat_lt; omega) rfl rfl rfl
 have on3 := c3.on.trans on2
 have lo := h.lo
 have hi := h.hi
 have g3 : Grew (fun _ => False) S S3 := (a2.own (Nat.le_refl _) b3).own (Nat.le_refl _) c3
 have h3 : Rdr S3 b N0 s i f lv acc := h.grew (fun _ _ _ h => h) g3
 obtain ⟨T, lv', d1, d2, d3⟩ := add_run h13 m h3 hl (takeT c)
 refine ⟨T, lv', ev_read (c := C27) (d := B27) (by kernel_rfl) (by kernel_rfl) (annot_isOf C27 _ (by kernel_rfl)) h27 (hz.trans ?_), d2, (g3.mono fun _ _ h => h.elim).trans d3⟩
 rw [b1, oB]
 dsimp only
 rw [faPg, oB, Nat.add_zero, faPg, oB, Nat.add_zero, ixA_ptr 256 1 false 1 .u8 c.toNat_lt, oB, Nat.zero_add, Nat.mul_one, c1, oB]
 dsimp only
 rw [c2.ldA on3 big258, oB]
 dsimp only
 rw [show ((TK 0).set (.bool true) c.toNat) = takeT c from rfl, d1, callP_ret]
theorem f31_run {K : FuncId → Option KF} (h31 : K 31 = none) (h33 : K 33 = none) (m : Nat) (a : List UInt8) (c : UInt8) (S : St) : (ev E0 K (m + 2)).f 31 [sv a, .int .u8 (c.toNat : Int)] S = some (.ret (.int .i64 (ixB a c)), S) := by
 have e33 := ev_read (c := C33) (d := B33) (by kernel_rfl) (by kernel_rfl) (annot_isOf C33 _ (by kernel_rfl)) h33 (F73_spec (ev E0 K m) rounds a c S)
 refine ev_read (c := C31) (d := B31) (by kernel_rfl) (by kernel_rfl) (annot_isOf C31 _ (by kernel_rfl)) h31 (?_ : F31 (ev E0 K (m + 1)) rounds (sv a) (.int .u8 (c.toNat : Int)) S = _)
 rw [F31_eq, e33, callP_ret]
def special (c : UInt8) : Bool := c == 46 || c == 42 || c == 91 || c == 93 || c == 94 || c == 36 || c == 92
theorem special_ix {c : UInt8} (h : special c = true) : 0 ≤ ixB [46, 42, 91, 93, 94, 36, 47, 92] c ∧ c ≠ 40 ∧ c ≠ 110 := by
 unfold special at h
 simp only [Bool.or_eq_true, beq_iff_eq] at h
 rcases h with (((((h | h) | h) | h) | h) | h) | h <;> subst h <;> exact ⟨by decide, by decide, by decide⟩
theorem u8_dec (c d : UInt8) : decide ((c.toNat : Int) = (d.toNat : Int)) = (c == d) := by
 rw [Bool.eq_iff_iff]
 simp only [beq_iff_eq, decide_eq_true_eq]
 constructor
 · intro h; exact UInt8.toNat_inj.1 (by omega)
 · intro h; rw [h]
theorem stroke_run {K : FuncId → Option KF} (h26 : K 26 = none) (h18 : K 18 = none) (h13 : K 13 = none) (h27 : K 27 = none) (h31 : K 31 = none) (h33 : K 33 = none) (m : Nat) (h : Rdr S b N0 s i f lv acc) (hl : acc.length ≤ 3000) (hi : i < s.length) (hs : s.length ≤ 300) (hc : special s[i] = true) :
 ∃ T lv', (ev E0 K (m + 3)).f 26 [.ptr b 0] S = some (.ret (.bool false), T) ∧ Rdr T b N0 s (i + 1) f lv' (acc ++ [takeT s[i]]) ∧ Grew (fun x => N0 ≤ x) S T := by
 have ho := h.on
 obtain ⟨q1, q2, q3⟩ := special_ix hc
 obtain ⟨S1, a1, a2, a3⟩ := h.putI (i + 1)
 obtain ⟨T, lv', b1, b2, b3⟩ := single_run h13 h27 m a2 hl s[i]
 refine ⟨T, lv', ev_read (c := C26) (d := B26) (by kernel_rfl) (by kernel_rfl) (annot_isOf C26 _ (by kernel_rfl)) h26 (?_ : F26 (ev E0 K (m + 2)) rounds (.ptr b 0) S = _), b2, a3.trans b3⟩
 rw [F26_eq]
 simp only [nilP, faPg, Nat.zero_add, oB]
 rw [h.o3, oB]
 dsimp only
 rw [onS_rd, h.o2, oB]
 dsimp only
 rw [onS_rd, lnStr_sv, oB]
 dsimp only
 rw [binV_ii, intsV_lss, dec_lt hi, oB, onS_onS, show ev E0 K (m + 2) = ev E0 K (m + 1 + 1) from rfl, must_run h18, callD_ret, endP_rd (by rfl), relog_onS ho, h.o2, oB]
 dsimp only
 rw [onS_rd, h.o3, oB]
 dsimp only
 rw [ixS_sv s .i64 i hi, oB, endP_rd (by rfl), onS_rd, relog_onS ho, h.l3, oB]
 dsimp only
 rw [binV_ii, intsV_add, wrap_succ (by omega), oB, a1, oB]
 dsimp only
 rw [binV_ii, intsV_eql, show (40 : Int) = (((40 : UInt8).toNat : Nat) : Int) from rfl, u8_dec, beq_false_of_ne q2, oB, ifK_bool, cond_false, binV_ii, intsV_eql, show (110 : Int) = (((110 : UInt8).toNat : Nat) : Int) from rfl, u8_dec, beq_false_of_ne q3, oB, ifK_bool, cond_false, show ev E0 K (m + 1 + 1) = ev E0 K (m + 2) from rfl, f31_run h31 h33 m, callP_ret, binV_ii, intsV_geq, show decide ((0 : Int) ≤ ixB [46, 42, 91, 93, 94, 36, 47, 92] s[i]) = true from decide_eq_true q1, oB, show ev E0 K (m + 2) = ev E0 K (m + 1 + 1) from rfl, must_run h18, callP_ret, show ev E0 K (m + 1 + 1) = ev E0 K (m + 2) from rfl, b1, callP_ret]
end
end Go.Proofs.Ytachpdpmoihjmaa.W
namespace Go.Proofs.Ytachpdpmoihjmaa.W
open Go.Proofs.Ytachpdpmoihjmaa.Ev
section
variable {S : St}
theorem upd_lit (ho : S.on = false) {r k clock : Nat} {es : List ME} {v : V} (h : S.heap.get r = some (.map es clock)) (hf : mfind (.int .u8 (k : Int)) es 0 = some none) : updateV E0 67 (.map r) (.int .u8 (k : Int)) v S = some (S.put r (.map (es ++ [{ k := .int .u8 (k : Int), v := v, born := clock }]) (clock + 1))) := by
 have hu : und E0 67 = some (.map 5 31) := by kernel_rfl
 have h5 : und E0 5 = some (.int .u8) := by kernel_rfl
 unfold updateV
 rw [hu, oB]
 simp only
 rw [h5, oB]
 simp only [keyOk, cond_true]
 rw [getO_off ho h, oB]
 simp only
 rw [hf, oB]
 simp only
 rw [setO_off ho]
theorem lit_run (ho : S.on = false) (c : UInt8) (x0 : V) (hc : c ≠ 46 ∧ c ≠ 91) :
 ∃ T, Grew (fun _ => False) S T ∧ ∀ (k : V × St → Rs), ((makeMapK E0 67 none S).bind fun p79 =>
(vu (updateV E0 67 p79.1 (.int .u8 46) (.fn (.func 24) [x0] []) p79.2)).bind fun p82 =>
(vu (updateV E0 67 p79.1 (.int .u8 91) (.fn (.func 25) [x0] []) p82.2)).bind fun p85 =>
(vu (updateV E0 67 p79.1 (.int .u8 92) (.fn (.func 26) [x0] []) p85.2)).bind fun p88 =>
(lookupV E0 67 p79.1 (.int .u8 (c.toNat : Int)) true p88.2).bind k) = k (if c = 92 then .tuple [.fn (.func 26) [x0] [], .bool true] else .tuple [.nilfn, .bool false], T) := by
 have g1 := grew_nw ho (fun _ => False) (.map [] 0)
 have h1 : (nw S (.map [] 0)).heap.get S.next = some (.map [] 0) := by rw [nw_get, if_pos rfl]
 have on1 : (nw S (.map [] 0)).on = false := nw_on ho _
 have e1 := upd_lit (k := 46) (v := .fn (.func 24) [x0] []) on1 h1 rfl
 have h2 : ((nw S (.map [] 0)).put S.next (.map ([] ++ [{ k := .int .u8 ((46 : Nat) : Int), v := .fn (.func 24) [x0] [], born := 0 }]) (0 + 1))).heap.get S.next = some (.map ([] ++ [{ k := .int .u8 ((46 : Nat) : Int), v := .fn (.func 24) [x0] [], born := 0 }]) (0 + 1)) := by rw [put_get, if_pos rfl]
 have g2 := grew_put (s := nw S (.map [] 0)) S.next (.map ([] ++ [{ k := .int .u8 ((46 : Nat) : Int), v := .fn (.func 24) [x0] [], born := 0 }]) (0 + 1))
 have on2 := g2.on.trans on1
 generalize (nw S (.map [] 0)).put S.next (.map ([] ++ [{ k := .int .u8 ((46 : Nat) : Int), v := .fn (.func 24) [x0] [], born := 0 }]) (0 + 1)) = S2 at e1 h2 g2 on2
 have e2 := upd_lit (k := 91) (v := .fn (.func 25) [x0] []) on2 h2 rfl
 have h3 : (S2.put S.next (.map (([] ++ [{ k := .int .u8 ((46 : Nat) : Int), v := .fn (.func 24) [x0] [], born := 0 }]) ++ [{ k := .int .u8 ((91 : Nat) : Int), v := .fn (.func 25) [x0] [], born := 0 + 1 }]) (0 + 1 + 1))).heap.get S.next = some (.map (([] ++ [{ k := .int .u8 ((46 : Nat) : Int), v := .fn (.func 24) [x0] [], born := 0 }]) ++ [{ k := .int .u8 ((91 : Nat) : Int), v := .fn (.func 25) [x0] [], born := 0 + 1 }]) (0 + 1 + 1)) := by rw [put_get, if_pos rfl]
 have g3 := grew_put (s := S2) S.next (.map (([] ++ [{ k := .int .u8 ((46 : Nat) : Int), v := .fn (.func 24) [x0] [], born := 0 }]) ++ [{ k := .int .u8 ((91 : Nat) : Int), v := .fn (.func 25) [x0] [], born := 0 + 1 }]) (0 + 1 + 1))
 have on3 := g3.on.trans on2
 generalize S2.put S.next (.map (([] ++ [{ k := .int .u8 ((46 : Nat) : Int), v := .fn (.func 24) [x0] [], born := 0 }]) ++ [{ k := .int .u8 ((91 : Nat) : Int), v := .fn (.func 25) [x0] [], born := 0 + 1 }]) (0 + 1 + 1)) = S3 at e2 h3 g3 on3
 have e3 := upd_lit (k := 92) (v := .fn (.func 26) [x0] []) on3 h3 rfl
 have h4 : (S3.put S.next (.map ((([] ++ [{ k := .int .u8 ((46 : Nat) : Int), v := .fn (.func 24) [x0] [], born := 0 }]) ++ [{ k := .int .u8 ((91 : Nat) : Int), v := .fn (.func 25) [x0] [], born := 0 + 1 }]) ++ [{ k := .int .u8 ((92 : Nat) : Int), v := .fn (.func 26) [x0] [], born := 0 + 1 + 1 }]) (0 + 1 + 1 + 1))).heap.get S.next = some (.map ((([] ++ [{ k := .int .u8 ((46 : Nat) : Int), v := .fn (.func 24) [x0] [], born := 0 }]) ++ [{ k := .int .u8 ((91 : Nat) : Int), v := .fn (.func 25) [x0] [], born := 0 + 1 }]) ++ [{ k := .int .u8 ((92 : Nat) : Int), v := .fn (.func 26) [x0] [], born := 0 + 1 + 1 }]) (0 + 1 + 1 + 1)) := by rw [put_get, if_pos rfl]
 have g4 := grew_put (s := S3) S.next (.map ((([] ++ [{ k := .int .u8 ((46 : Nat) : Int), v := .fn (.func 24) [x0] [], born := 0 }]) ++ [{ k := .int .u8 ((91 : Nat) : Int), v := .fn (.func 25) [x0] [], born := 0 + 1 }]) ++ [{ k := .int .u8 ((92 : Nat) : Int), v := .fn (.func 26) [x0] [], born := 0 + 1 + 1 }]) (0 + 1 + 1 + 1))
 have on4 := g4.on.trans on3
 generalize S3.put S.next (.map ((([] ++ [{ k := .int .u8 ((46 : Nat) : Int), v := .fn (.func 24) [x0] [], born := 0 }]) ++ [{ k := .int .u8 ((91 : Nat) : Int), v := .fn (.func 25) [x0] [], born := 0 + 1 }]) ++ [{ k := .int .u8 ((92 : Nat) : Int), v := .fn (.func 26) [x0] [], born := 0 + 1 + 1 }]) (0 + 1 + 1 + 1)) = S4 at e3 h4 g4 on4
 refine ⟨S4, ((g1.own (Nat.le_refl _) g2).own (Nat.le_refl _) g3).own (Nat.le_refl _) g4, fun k => ?_⟩
 have look : lookupV E0 67 (.map S.next) (.int .u8 (c.toNat : Int)) true S4 = some (if c = 92 then .tuple [.fn (.func 26) [x0] [], .bool true] else .tuple [.nilfn, .bool false], S4) := by
  have hu : und E0 67 = some (.map 5 31) := by kernel_rfl
  have hz : zeroT E0 31 = some .nilfn := by kernel_rfl
  have h5 : und E0 5 = some (.int .u8) := by kernel_rfl
  unfold lookupV
  rw [hu, oB]
  simp only
  rw [h5, oB]
  simp only [keyOk, cond_true]
  rw [getO_off on4 h4, oB]
  simp only
  rw [oB]
  have hm : mfind (.int .u8 (c.toNat : Int)) ((([] ++ [{ k := .int .u8 ((46 : Nat) : Int), v := .fn (.func 24) [x0] [], born := 0 }]) ++ [{ k := .int .u8 ((91 : Nat) : Int), v := .fn (.func 25) [x0] [], born := 0 + 1 }]) ++ [{ k := .int .u8 ((92 : Nat) : Int), v := .fn (.func 26) [x0] [], born := 0 + 1 + 1 }]) 0 = some (if c = 92 then some (2, .fn (.func 26) [x0] []) else none) := by
   have q1 : iEq (c.toNat : Int) ((46 : Nat) : Int) = false := by rw [iEq_eq]; exact beq_false_of_ne fun e => hc.1 (UInt8.toNat_inj.1 (by have h0 : (46 : UInt8).toNat = 46 := rfl; omega : c.toNat = (46 : UInt8).toNat))
   have q2 : iEq (c.toNat : Int) ((91 : Nat) : Int) = false := by rw [iEq_eq]; exact beq_false_of_ne fun e => hc.2 (UInt8.toNat_inj.1 (by have h0 : (91 : UInt8).toNat = 91 := rfl; omega : c.toNat = (91 : UInt8).toNat))
   simp only [List.nil_append, List.cons_append, mfind, ikEq_refl, cond_true, q1, q2, cond_false]
   by_cases h92 : c = 92
   · subst h92
     rw [if_pos rfl]
     rfl
   · have q3 : iEq (c.toNat : Int) ((92 : Nat) : Int) = false := by rw [iEq_eq]; exact beq_false_of_ne fun e => h92 (UInt8.toNat_inj.1 (by have h0 : (92 : UInt8).toNat = 92 := rfl; omega : c.toNat = (92 : UInt8).toNat))
     rw [q3, if_neg h92]
     rfl
  rw [hm, oB]
  by_cases h92 : c = 92
  · rw [if_pos h92, if_pos h92]
    all_goals rfl
  · rw [if_neg h92, if_neg h92]
    simp only
    rw [hz]; rfl
 show ((some (V.map S.next, nw S (.map [] 0))).bind _) = _
 rw [oB]
 dsimp only
 rw [show (V.int .u8 46) = .int .u8 ((46 : Nat) : Int) from rfl, e1]
 show ((some (V.tuple [], S2)).bind _) = _
 rw [oB]
 dsimp only
 rw [show (V.int .u8 91) = .int .u8 ((91 : Nat) : Int) from rfl, e2]
 show ((some (V.tuple [], S3)).bind _) = _
 rw [oB]
 dsimp only
 rw [show (V.int .u8 92) = .int .u8 ((92 : Nat) : Int) from rfl, e3]
 show ((some (V.tuple [], S4)).bind _) = _
 rw [oB]
 dsimp only
 rw [look, oB]
end
theorem callK_fn {E : Env} {self : EV} {f : FuncId} (h : E.ext.get f = none) (hb : hasBody E f = true) (x y args : List V) (S : St) : callK E self (.fn (.func f) x y) args S = self.f f (x ++ args ++ y) S := by
 show (match E.ext.get f with | some k => _ | none => _) = _
 rw [h]
 show (bif hasBody E f then self.f f (x ++ args ++ y) S else none) = _
 rw [hb]; rfl
theorem body26 : E0.ext.get 26 = none ∧ hasBody E0 26 = true := ⟨by kernel_rfl, by kernel_rfl⟩
section
variable {S : St} {b N0 i : Nat} {s : List UInt8} {f : Bool} {lv : V} {acc : List (Tr V)}
theorem piece_run {K : FuncId → Option KF} (h17 : K 17 = none) (h26 : K 26 = none) (h18 : K 18 = none) (h13 : K 13 = none) (h27 : K 27 = none) (h31 : K 31 = none) (h33 : K 33 = none) (m : Nat) (h : Rdr S b N0 s i f lv acc) (hl : acc.length ≤ 3000) (hi : i < s.length) (hs : s.length ≤ 300)
 (j : Nat) (d : UInt8) (hd : (s[i] = 92 ∧ j = i + 2 ∧ ∃ h1 : i + 1 < s.length, s[i + 1] = d ∧ special d = true) ∨ (special s[i] = false ∧ j = i + 1 ∧ s[i] = d)) :
 ∃ T lv', (ev E0 K (m + 4)).f 17 [.ptr b 0] S = some (.ret (.tuple [.bool false, .bool true]), T) ∧ Rdr T b N0 s j false lv' (acc ++ [takeT d]) ∧ Grew (fun x => N0 ≤ x) S T := by
 have ho := h.on
 have hne : s[i] ≠ 94 ∧ s[i] ≠ 36 ∧ s[i] ≠ 46 ∧ s[i] ≠ 91 ∧ s[i] ≠ 42 := by
  rcases hd with ⟨e, _⟩ | ⟨e, _⟩
  · rw [e]; decide
  · unfold special at e
    simp only [Bool.or_eq_false_iff, beq_eq_false_iff_ne] at e
    exact ⟨e.1.1.2, e.1.2, e.1.1.1.1.1.1, e.1.1.1.1.2, e.1.1.1.1.1.2⟩
 obtain ⟨S1, a1, a2, a3⟩ := h.putI (i + 1)
 obtain ⟨S2, b1, b2, b3⟩ := a2.putF false
 have on2 := b2.on
 obtain ⟨S3, g3, hlit⟩ := lit_run on2 s[i] (.ptr b 0) ⟨hne.2.2.1, hne.2.2.2.1⟩
 have h3 : Rdr S3 b N0 s (i + 1) false lv acc := b2.grew (fun _ _ _ h => h) g3
 have gg : Grew (fun x => N0 ≤ x) S S3 := (a3.trans b3).trans (g3.mono fun _ _ h => h.elim)
 suffices hmain : ∃ T lv', F17 (ev E0 K (m + 3)) rounds (.ptr b 0) S = some (.ret (.tuple [.bool false, .bool true]), T) ∧ Rdr T b N0 s j false lv' (acc ++ [takeT d]) ∧ Grew (fun x => N0 ≤ x) S T by
  obtain ⟨T, lv', q1, q2, q3⟩ := hmain
  exact ⟨T, lv', ev_read (c := C17) (d := B17) (by kernel_rfl) (by kernel_rfl) (annot_isOf C17 _ (by kernel_rfl)) h17 q1, q2, q3⟩
 rw [F17_eq]
 simp only [nilP, faPg, Nat.zero_add, oB]
 rw [h.o2, oB]
 dsimp only
 rw [onS_rd, h.o3, oB]
 dsimp only
 rw [ixS_sv s .i64 i hi, oB, onS_rd, h.o5, oB]
 dsimp only
 rw [endP_rd (by rfl), onS_rd, relog_onS ho, h.l3, oB]
 dsimp only
 rw [binV_ii, intsV_add, wrap_succ (by omega), oB, a1, oB]
 dsimp only
 rw [b1, oB]
 dsimp only
 rw [binV_ii, intsV_eql, show (94 : Int) = (((94 : UInt8).toNat : Nat) : Int) from rfl, u8_dec, beq_false_of_ne hne.1, oB, guardV_t, oB, cond_false, oB, pickV_bool, cond_false, oB, ifK_bool, cond_false, binV_ii, intsV_eql, show (36 : Int) = (((36 : UInt8).toNat : Nat) : Int) from rfl, u8_dec, beq_false_of_ne hne.2.1, oB]
 simp only [guardV_t, guardV_f, guardV_no, oB, cond_false, pickV_bool, callD_ret, onS_onS]
 rw [endP_rd (by rfl), relog_onS on2, ifK_bool, cond_false]
 have key : ∀ {R : V × St → Rs} {G : Prop}, (∀ T lv', R (if s[i] = 92 then .tuple [.fn (.func 26) [.ptr b 0] [], .bool true] else .tuple [.nilfn, .bool false], S3) = some (.ret (.tuple [.bool false, .bool true]), T) → Rdr T b N0 s j false lv' (acc ++ [takeT d]) → Grew (fun x => N0 ≤ x) S T → G) → True := fun _ => trivial
 rcases hd with ⟨e92, hj, h1, hd1, hd2⟩ | ⟨e, hj, hd1⟩
 · obtain ⟨T, lv', q1, q2, q3⟩ := stroke_run h26 h18 h13 h27 h31 h33 m h3 hl h1 hs (by rw [hd1]; exact hd2)
   refine ⟨T, lv', (hlit _).trans ?_, by rw [hj, ← hd1]; exact q2, gg.trans q3⟩
   rw [if_pos e92, show extractV (.tuple [.fn (.func 26) [.ptr b 0] [], .bool true]) 0 = some (.fn (.func 26) [.ptr b 0] []) from rfl, show extractV (.tuple [.fn (.func 26) [.ptr b 0] [], .bool true]) 1 = some (.bool true) from rfl, oB, oB, ifK_bool, cond_true, callK_fn body26.1 body26.2]
   show callP ((ev E0 K (m + 3)).f 26 [.ptr b 0] S3) _ = _
   rw [q1, callP_ret]
 · have hn92 : s[i] ≠ 92 := fun e' => by rw [e'] at e; exact absurd e (by decide)
   obtain ⟨T, lv', q1, q2, q3⟩ := single_run h13 h27 (m + 1) h3 hl d
   refine ⟨T, lv', (hlit _).trans ?_, by rw [hj]; exact q2, gg.trans q3⟩
   rw [if_neg hn92, show extractV (.tuple [.nilfn, .bool false]) 0 = some .nilfn from rfl, show extractV (.tuple [.nilfn, .bool false]) 1 = some (.bool false) from rfl, oB, oB, ifK_bool, cond_false, binV_ii, intsV_neq, show (42 : Int) = (((42 : UInt8).toNat : Nat) : Int) from rfl, u8_dec, beq_false_of_ne hne.2.2.2.2, oB, Bool.not_false, guardV_f, Bool.not_true, oB, cond_false, oB, pickV_bool, cond_true, oB, show ev E0 K (m + 3) = ev E0 K (m + 2 + 1) from rfl, must_run h18, callP_ret, hd1, show ev E0 K (m + 2 + 1) = ev E0 K (m + 1 + 2) from rfl, q1, callP_ret]
end
end Go.Proofs.Ytachpdpmoihjmaa.W
namespace Go.Proofs.Ytachpdpmoihjmaa.W
open Go.Proofs.Ytachpdpmoihjmaa.Ev
def esc : List UInt8 → List UInt8
 | [] => []
 | c :: t => if special c then 92 :: c :: esc t else c :: esc t
theorem esc_star : ∀ t, hasPre (esc t) [42] = false
 | [] => rfl
 | c :: t => by
  rw [esc]
  unfold hasPre
  by_cases h : special c = true
  · rw [if_pos h]
    simp
  · rw [if_neg h]
    have hc : c ≠ 42 := fun e => h (by rw [e]; decide)
    simp [hc]
theorem esc_head {s r : List UInt8} {c : UInt8} {i : Nat} (h : s.drop i = esc (c :: r)) : ∃ (hi : i < s.length) (j : Nat), ((s[i] = 92 ∧ j = i + 2 ∧ ∃ h1 : i + 1 < s.length, s[i + 1] = c ∧ special c = true) ∨ (special s[i] = false ∧ j = i + 1 ∧ s[i] = c)) ∧ s.drop j = esc r ∧ j ≤ s.length := by
 rw [esc] at h
 by_cases hc : special c = true
 · rw [if_pos hc] at h
   obtain ⟨hi, h1, h2, _⟩ := drop_at h
   obtain ⟨hi2, h3, h4, _⟩ := drop_at h2
   exact ⟨hi, i + 2, .inl ⟨h1, rfl, hi2, h3, hc⟩, h4, by omega⟩
 · rw [if_neg hc] at h
   obtain ⟨hi, h1, h2, _⟩ := drop_at h
   rw [Bool.not_eq_true] at hc
   exact ⟨hi, i + 1, .inr ⟨by rw [h1]; exact hc, rfl, h1⟩, h2, by omega⟩
section
variable {S : St} {b N0 i : Nat} {s : List UInt8} {f : Bool} {lv : V} {acc : List (Tr V)}
theorem L12_spec {K : FuncId → Option KF} (h16 : K 16 = none) (h23 : K 23 = none) (h30 : K 30 = none) (h17 : K 17 = none) (h26 : K 26 = none) (h18 : K 18 = none) (h13 : K 13 = none) (h27 : K 27 = none) (h31 : K 31 = none) (h33 : K 33 = none) (m N : Nat) (hs : s.length ≤ 300) :
 ∀ (r : List UInt8) (i k : Nat) (f v3 : Bool) (lv : V) (acc : List (Tr V)) (S : St), Rdr S b N0 s i f lv acc → s.drop i = esc r → i ≤ s.length → acc.length + r.length ≤ 3000 → r.length < k →
 ∃ T i' lv' v', L12_13 (ev E0 K (m + 4)) N (R12_6 (ev E0 K (m + 4)) N (finN E0 (ev E0 K (m + 4)) Try.f12) noEx) (exB 0 (R12_6 (ev E0 K (m + 4)) N (finN E0 (ev E0 K (m + 4)) Try.f12) noEx) noEx) k (.ptr b 0) (.bool v3) S = some (.ret (.bool v'), T) ∧ Rdr T b N0 s i' false lv' (acc ++ r.map takeT) ∧ Grew (fun x => N0 ≤ x) S T
 | r, i, 0, f, v3, lv, acc, S, _, _, _, _, hk => by omega
 | [], i, k + 1, f, v3, lv, acc, S, h, hr, hi, hl, hk => by
  have ho := h.on
  have hge : s.length ≤ i := drop_end (by rw [hr]; rfl)
  obtain ⟨T, a1, a2, a3⟩ := h.putF false
  refine ⟨T, i, lv, v3, ?_, by simpa using a2, a3⟩
  rw [L12_13_eq]
  simp only [nilP, faPg, Nat.zero_add, oB]
  rw [h.o3, oB]
  dsimp only
  rw [onS_rd, h.o2, oB]
  dsimp only
  rw [lnStr_sv, oB]
  dsimp only
  rw [binV_ii, intsV_lss, dec_ge hge, oB]
  simp only [guardV_t, guardV_f, guardV_no, oB, cond_false, pickV_bool, callD_ret, onS_onS, onS_rd]
  rw [endP_rd (by rfl), relog_onS ho, ifK_bool, cond_false, exB_same, R12_6_eq]
  simp only [nilP, faPg, Nat.zero_add, oB]
  rw [a1, oB]
 | c :: r, i, k + 1, f, v3, lv, acc, S, h, hr, hi, hl, hk => by
  have ho := h.on
  obtain ⟨hlt, j, hd, hj, hjl⟩ := esc_head hr
  rw [List.length_cons] at hl
  obtain ⟨S1, lv1, a1, a2, a3⟩ := piece_run h17 h26 h18 h13 h27 h31 h33 m h (by omega) hlt hs j c hd
  obtain ⟨T, i', lv', v', b1, b2, b3⟩ := L12_spec h16 h23 h30 h17 h26 h18 h13 h27 h31 h33 m N hs r j k false false lv1 (acc ++ [takeT c]) S1 a2 hj hjl (by rw [List.length_append, List.length_singleton]; omega) (by simp at hk; omega)
  refine ⟨T, i', lv', v', ?_, by rw [List.map_cons]; simpa using b2, a3.trans b3⟩
  rw [L12_13_eq]
  simp only [nilP, faPg, Nat.zero_add, oB, Nat.add_zero]
  rw [h.o3, oB]
  dsimp only
  rw [onS_rd, h.o2, oB]
  dsimp only
  rw [lnStr_sv, oB]
  dsimp only
  rw [binV_ii, intsV_lss, dec_lt hlt, oB, guardV_t, oB, cond_true, oB, oB, cond_true, nilP, oB, oB, cond_true, faPg, Nat.zero_add, oB, oB, cond_true]
  simp only [onS_rd, onS_onS]
  rw [h.o4, oB, oB, cond_true]
  dsimp only
  rw [binV_ii, intsV_eql, decide_eq_true rfl, oB]
  simp only [guardV_t, guardV_f, guardV_no, oB, cond_false, cond_true, pickV_bool, callD_ret, onS_onS, onS_rd, Bool.not_true]
  rw [endP_rd (by rfl), relog_onS ho, ifK_bool, cond_true, h.l0, oB]
  dsimp only
  rw [h.steps.len, oB]
  dsimp only
  rw [a1, callP_ret, extractV_tuple, extractV_tuple, show ([.bool false, .bool true] : List V)[0]? = some (.bool false) from rfl, show ([.bool false, .bool true] : List V)[1]? = some (.bool true) from rfl, oB, oB, guardV_t, oB, cond_true, oB, oB, cond_true, show ev E0 K (m + 4) = ev E0 K (m + 1 + 3) from rfl, at_run h16 h23 h30 (m + 1) a2 hjl, hj, esc_star, callP_ret, pickV_bool, cond_true, oB, ifK_bool, cond_false]
  cases v3 with
  | true =>
   rw [cond_true, oB, cond_true, oB]
   exact b1
  | false =>
   rw [cond_false, oB, cond_false, oB]
   exact b1
end
section
variable {self : EV} {a : Ac} {p0 p1 : Nat} {S : St}
theorem lv6 (h2 : evO E0 a (.tmp 2) = some (.ptr p0 0)) (h3 : evO E0 a (.tmp 3) = some (.ptr p1 0)) (ho : S.on = false) {u v : V} (hp0 : AgAt S p0 22 1 (one u)) (hp1 : AgAt S p1 23 1 (one v)) :
 lvK E0 self Try.f6 a [] .ret S = some (.ret (.tuple [u, v]), S) := by
 have h : lvK E0 self Try.f6 a [] .ret S = (evO E0 a (.tmp 2)).bind fun v => (ldRes E0 22 v S).bind fun p => (evO E0 a (.tmp 3)).bind fun w => (ldRes E0 23 w p.2).bind fun q => some (.ret (.tuple [p.1, q.1]), q.2) := by kernel_rfl
 rw [h, h2, oB, show ldRes E0 22 (.ptr p0 0) S = ldr1 (.ptr p0 0) S by kernel_rfl, hp0.ldr_one ho, oB, h3, oB]
 dsimp only
 rw [show ldRes E0 23 (.ptr p1 0) S = ldr1 (.ptr p1 0) S by kernel_rfl, hp1.ldr_one ho, oB]
theorem fin6 (hd : a.defers = [ad 11 [] [.ptr p0 0, .ptr p1 0]]) (h2 : evO E0 a (.tmp 2) = some (.ptr p0 0)) (h3 : evO E0 a (.tmp 3) = some (.ptr p1 0)) (ho : S.on = false) {u v : V} (hp0 : AgAt S p0 22 1 (one u)) (hp1 : AgAt S p1 23 1 (one v)) :
 finR E0 self Try.f6 a S = some (.ret (.tuple [u, v]), S) := by
 rw [finR_defer hd]
 refine lvK_sound (ALe.refl a) ?_
 rw [E11r, show binV E0 .neq 20 false true .niliface .niliface = some (.bool false) by kernel_rfl, oB, ifK_bool, cond_false]
 exact lv6 h2 h3 ho hp0 hp1
end
theorem build44 (s : List UInt8) : buildV E0 44 [(1, sv s)] = some (vAgg (r6 .nilslice s 0 false)) := by kernel_rfl
end Go.Proofs.Ytachpdpmoihjmaa.W
namespace Go.Proofs.Ytachpdpmoihjmaa.W
open Go.Proofs.Ytachpdpmoihjmaa.Ev
structure Sp where
 tr : Tr V
 p : UInt8 → Bool
 ok : Stp tr p 0 0
noncomputable def stepsT (t : List Sp) : List (Tr V) := t.map Sp.tr ++ [TK 6]
theorem stepsT_take {t : List Sp} {k : Nat} (h : k < t.length) : (stepsT t)[k]? = some t[k].tr := by
 unfold stepsT
 rw [List.getElem?_append_left (by rw [List.length_map]; exact h), List.getElem?_map, List.getElem?_eq_getElem h]; rfl
theorem stepsT_done (t : List Sp) : (stepsT t)[t.length]? = some (TK 6) := by
 unfold stepsT
 rw [List.getElem?_append_right (by rw [List.length_map]; exact Nat.le_refl _), List.length_map, Nat.sub_self]; rfl
structure Rx (S : St) (b r : Nat) (t : List Sp) : Prop where
 on : S.on = false
 hb : b < S.next
 hr : r < S.next
 bx : ∃ s i f, Bx S b 44 (r6 (.oslice r 0 (t.length + 1) 258) s i f)
 row : RowAt S r 50 258 (stepsT t)
theorem Rx.of {S : St} {b N0 i : Nat} {s : List UInt8} {f : Bool} {lv : V} {t : List Sp} (h : Rdr S b N0 s i f lv (t.map Sp.tr ++ [TK 6])) : ∃ r, Rx S b r t ∧ N0 ≤ r := by
 rcases h.steps with ⟨h1, _⟩ | ⟨_, r, h2, h3, h4, h5⟩
 · simp at h1
 · refine ⟨r, ⟨h.on, h.hi, h5, ⟨s, i, f, ?_⟩, h3⟩, h4⟩
   have := h.bx
   rw [h2] at this
   rw [show (t.map Sp.tr ++ [TK 6]).length = t.length + 1 by simp] at this
   exact this
section
variable {S : St} {b r : Nat} {t : List Sp}
theorem Rx.grew {W : Nat → Prop} {T : St} (h : Rx S b r t) (hw1 : ¬ W b) (hw2 : ¬ W r) (g : Grew W S T) : Rx T b r t := by
 obtain ⟨s, i, f, hbx⟩ := h.bx
 exact ⟨g.on.trans h.on, Nat.lt_of_lt_of_le h.hb g.next, Nat.lt_of_lt_of_le h.hr g.next, ⟨s, i, f, hbx.grew h.hb hw1 g⟩, h.row.grew h.hr hw2 g⟩
theorem Rx.l0 (h : Rx S b r t) : ld1 (.ptr b 0) S = some (.oslice r 0 (t.length + 1) 258, S) := by
 obtain ⟨s, i, f, hbx⟩ := h.bx
 exact Bx.ld1 h.on hbx 0 (by show 0 < 6; decide) big6
theorem Rx.l1 (h : Rx S b r t) : ld1 (.ptr b 1) S = some (.int .i64 0, S) := by
 obtain ⟨s, i, f, hbx⟩ := h.bx
 exact Bx.ld1 h.on hbx 1 (by show 1 < 6; decide) big6
theorem Rx.o0 (h : Rx S b r t) : ld1 (.ptr b 0) (onS S) = some (.oslice r 0 (t.length + 1) 258, rd S b 0 1) := by
 obtain ⟨s, i, f, hbx⟩ := h.bx
 exact Bx.ld1On h.on hbx 0 (by show 0 < 6; decide) big6
theorem ixP_st (r n k : Nat) (h : k < n) : ixP 258 (.oslice r 0 n 258) (.int .i64 (k : Int)) = some (.ptr r (k * 258)) := by
 have h0 : ixP 258 (.oslice r 0 n 258) (.int .i64 (k : Int)) = bif Nat.blt k n then some (.ptr r (0 + k * 258)) else none := rfl
 rw [h0, blt_true.2 h, cond_true, Nat.zero_add]
theorem row_ld {e : Nat} {l : List (Tr V)} (ho : S.on = false) (h : RowAt S r e 258 l) {k j : Nat} {u : Tr V} {v : V} (hk : l[k]? = some u) (hj : j < 258) (hv : u.get j = some v) : ld1 (.ptr r (k * 258 + j)) S = some (v, S) := by
 obtain ⟨c, h1, h2⟩ := h.row
 have hlt := (List.getElem?_eq_some_iff.1 hk).1
 have hfit := h.fit
 show ld S r (k * 258 + j) = _
 unfold ld
 rw [h1]
 simp only
 rw [blt_true.2 (show k * 258 + j < 258 * l.length by
  have : (k + 1) * 258 ≤ l.length * 258 := Nat.mul_le_mul_right _ hlt
  omega), blt_true.2 hfit, Bool.and_self, cond_true, show (k * 258 + j) / 258 = k by omega, show (k * 258 + j) % 258 = j by omega, h2 k u hk, oB, hv, oB, note_off ho]
theorem row_ldOn {e : Nat} {l : List (Tr V)} (h : RowAt S r e 258 l) {k j : Nat} {u : Tr V} {v : V} (hk : l[k]? = some u) (hj : j < 258) (hv : u.get j = some v) : ld1 (.ptr r (k * 258 + j)) (onS S) = some (v, rd S r (k * 258 + j) 1) := by
 obtain ⟨c, h1, h2⟩ := h.row
 have hlt := (List.getElem?_eq_some_iff.1 hk).1
 have hfit := h.fit
 show ld (onS S) r (k * 258 + j) = _
 unfold ld
 rw [show (onS S).heap.get r = _ from h1]
 simp only
 rw [blt_true.2 (show k * 258 + j < 258 * l.length by
  have : (k + 1) * 258 ≤ l.length * 258 := Nat.mul_le_mul_right _ hlt
  omega), blt_true.2 hfit, Bool.and_self, cond_true, show (k * 258 + j) / 258 = k by omega, show (k * 258 + j) % 258 = j by omega, h2 k u hk, oB, hv, oB]
 rfl
theorem row_ldA {e : Nat} {l : List (Tr V)} (ho : S.on = false) (h : RowAt S r e 258 l) {k : Nat} {u : Tr V} (hk : l[k]? = some u) : ldA 258 (.ptr r (k * 258)) S = some (.agg 258 u, S) := by
 show (ldK S r (k * 258) 258).bind _ = _
 rw [h.ldK ho hk, oB]
theorem ixP_sl (x n i : Nat) (h : i < n) : ixP 1 (.slice x 0 n n) (.int .i64 (i : Int)) = some (.ptr x i) := by
 have h0 : ixP 1 (.slice x 0 n n) (.int .i64 (i : Int)) = bif Nat.blt i n then some (.ptr x (0 + i * 1)) else none := rfl
 rw [h0, blt_true.2 h, cond_true, Nat.mul_one, Nat.zero_add]
theorem lnS_sl (x n : Nat) : lnS (.slice x 0 n n) S = some (.int .i64 (n : Int), S) := rfl
def intsT (F : List Int) : List (Tr V) := F.map fun z => one (.int .i64 z)
theorem fr_ld (ho : S.on = false) {x e : Nat} {F : List Int} (h : RowAt S x e 1 (intsT F)) {k : Nat} {z : Int} (hk : F[k]? = some z) : ld1 (.ptr x k) S = some (.int .i64 z, S) := by
 show ld S x k = _
 exact h.ld1 ho (by unfold intsT; rw [List.getElem?_map, hk]; rfl)
theorem fr_st (ho : S.on = false) {x e : Nat} {F : List Int} (h : RowAt S x e 1 (intsT F)) {k : Nat} (hk : k < F.length) (z : Int) : ∃ T, stP 1 (.ptr x k) (.int .i64 z) S = some (.tuple [], T) ∧ RowAt T x e 1 (intsT (F.set k z)) ∧ Grew (fun y => y = x) S T ∧ T.next = S.next := by
 obtain ⟨T, a1, a2, a3, a4⟩ := h.stK ho (i := k) (by unfold intsT; rw [List.length_map]; exact hk) (one (.int .i64 z))
 rw [Nat.mul_one] at a1
 refine ⟨T, ?_, ?_, a3, a4⟩
 · show vu (stK S x k 1 (one (.int .i64 z))) = _
   rw [a1]; rfl
 · unfold intsT at a2 ⊢
   rw [List.map_set]
   exact a2
theorem make60 (ho : S.on = false) (n : Nat) (hn : n ≤ 20000) : ∃ T, makeSliceK E0 60 (.int .i64 (n : Int)) (.int .i64 (n : Int)) S = some (.slice S.next 0 n n, T) ∧ RowAt T S.next 3 1 (intsT (List.replicate n 0)) ∧ Grew (fun _ => False) S T ∧ T.next = S.next + 1 := by
 have hr := rowAt_makeRow (s := S) (e := 3) (z := 1) (n := n) (v := .int .i64 0) ho (by decide) (by unfold big; omega)
 refine ⟨makeRow S 3 1 (.int .i64 0) n, ?_, by unfold intsT; rw [List.map_replicate]; exact hr, grew_nw ho _ _, rfl⟩
 unfold makeSliceK
 rw [show sliceElem E0 60 = some (3, 1, 8) by kernel_rfl, oB, show natOf (.int .i64 (n : Int)) = some n from rfl, oB, oB]
 unfold makeAtK
 rw [show Nat.ble n n = true from ble_true.2 (Nat.le_refl _), blt_true.2 (show n * (8 + 1 + 1) < maxCells by unfold maxCells; omega), Bool.and_self, cond_true, show zeroT E0 3 = some (.int .i64 0) by kernel_rfl, oB]
 rfl
theorem L20_spec (self : EV) (N : Nat) (nk : Ac → St → Rs) (ek : Nat → Ac → St → Rs) (x n : Nat) : ∀ (m i k : Nat) (S : St), i + m = n → m < k → S.on = false → x < S.next → RowAt S x 3 1 (intsT (List.replicate i (-1) ++ List.replicate m 0)) →
 ∃ T, L20_14 self N nk ek k (.slice x 0 n n) (.int .i64 (n : Int)) (.int .i64 (i : Int)) S = ek 0 (fr 21 [(3, .slice x 0 n n)]) T ∧ RowAt T x 3 1 (intsT (List.replicate n (-1))) ∧ Grew (fun y => y = x) S T
 | m, i, 0, S, _, hk, _, _, _ => by omega
 | 0, i, k + 1, S, hi, _, ho, _, hr => by
  refine ⟨S, ?_, by rw [← hi]; simpa using hr, Grew.refl _ _⟩
  rw [L20_14_eq, binV_ii, intsV_lss, dec_ge (by omega), oB, ifK_bool, cond_false]
 | m + 1, i, k + 1, S, hi, hk, ho, hx, hr => by
  obtain ⟨S1, a1, a2, a3, a4⟩ := fr_st ho hr (k := i) (by simp) (-1)
  have he : (List.replicate i (-1) ++ List.replicate (m + 1) 0 : List Int).set i (-1) = List.replicate (i + 1) (-1) ++ List.replicate m 0 := by
   rw [List.set_append, if_neg (by simp), List.length_replicate, Nat.sub_self, List.replicate_succ, List.set_cons_zero, List.replicate_succ', List.append_assoc]
   rfl
  rw [he] at a2
  obtain ⟨T, b1, b2, b3⟩ := L20_spec self N nk ek x n m (i + 1) k S1 (by omega) (by omega) (a3.on.trans ho) (by omega) a2
  refine ⟨T, ?_, b2, a3.trans b3⟩
  rw [L20_14_eq, binV_ii, intsV_lss, dec_lt (by omega), oB, ifK_bool, cond_true, ixP_sl x n i (by omega), oB, a1, oB, binV_ii, intsV_add]
  by_cases hbig : i < 9223372036854775807
  · rw [wrap_succ hbig, oB]
    exact b1
  · exfalso
    have := hr.fit
    unfold intsT big at this
    simp at this
    omega
theorem blank_run {K : FuncId → Option KF} (h20 : K 20 = none) (m : Nat) (h : Rx S b r t) (ht : t.length ≤ 100) :
 ∃ T, (ev E0 K (m + 1)).f 20 [.ptr b 0] S = some (.ret (.slice S.next 0 (t.length + 1) (t.length + 1)), T) ∧ RowAt T S.next 3 1 (intsT (List.replicate (t.length + 1) (-1))) ∧ Grew (fun _ => False) S T ∧ S.next < T.next := by
 obtain ⟨S1, a1, a2, a3, a4⟩ := make60 h.on (t.length + 1) (by omega)
 obtain ⟨T, b1, b2, b3⟩ := L20_spec (ev E0 K m) rounds (R20_8 (ev E0 K m) rounds (finN E0 (ev E0 K m) Try.f20) noEx) (exB 0 (R20_8 (ev E0 K m) rounds (finN E0 (ev E0 K m) Try.f20) noEx) noEx) S.next (t.length + 1) (t.length + 1) 0 rounds S1 (by omega) (by unfold rounds; omega) (a3.on.trans h.on) (by omega) (by simpa using a2)
 refine ⟨T, ev_read (c := C20) (d := B20) (by kernel_rfl) (by kernel_rfl) (annot_isOf C20 _ (by kernel_rfl)) h20 (?_ : F20 (ev E0 K m) rounds (.ptr b 0) S = _), b2, a3.own (Nat.le_refl _) b3, by have := b3.next; omega⟩
 rw [F20_eq]
 simp only [nilP, faPg, Nat.zero_add, oB]
 rw [h.l0, oB]
 dsimp only
 rw [show lnS (.oslice r 0 (t.length + 1) 258) S = some (.int .i64 ((t.length + 1 : Nat) : Int), S) from rfl, oB]
 dsimp only
 rw [a1, oB]
 dsimp only
 rw [lnS_sl, oB]
 dsimp only
 rw [show ((0 : Nat) : Int) = 0 from rfl] at b1
 rw [b1, exB_same, R20_8_eq]
theorem F28_z : ∃ Z : Tr V, ∀ (self : EV) (N : Nat) (x0 x1 x2 x3 : V) (S : St), F28 self N x0 x1 x2 x3 S =
(nilCheckV x0).bind fun t7 =>
(faP 0 false 1 t7).bind fun t8 =>
(ld1 t8 S).bind fun p9 =>
(ixP 258 p9.1 x1).bind fun t11 =>
(ldA 258 t11 p9.2).bind fun p12 =>
(some (nwP 50 258 Z p12.2)).bind fun p13 =>
(stP 258 p13.1 p12.1 p13.2).bind fun p14 =>
(faP 256 false 1 p13.1).bind fun t15 =>
(ld1 t15 p14.2).bind fun p16 =>
(binV E0 .eql 3 false true p16.1 (.int .i64 1)).bind fun t17 =>
ifK t17 (
(binV E0 .gtr 3 false true x2 (.int .i64 0)).bind fun t20 =>
ifK t20 (
some (.ret .nilslice, p16.2)) (
(binV E0 .add 3 false true x1 (.int .i64 1)).bind fun t24 =>
(bsP 3 1 1 (one (.int .i64 0)) [(0, t24)] p16.2).bind fun p25 =>
some (.ret p25.1, p25.2))) (
(binV E0 .eql 3 false true p16.1 (.int .i64 2)).bind fun t22 =>
ifK t22 (
(binV E0 .lss 3 false false x2 x3).bind fun t26 =>
ifK t26 (
some (.ret .nilslice, p16.2)) (
(binV E0 .add 3 false true x1 (.int .i64 1)).bind fun t24 =>
(bsP 3 1 1 (one (.int .i64 0)) [(0, t24)] p16.2).bind fun p25 =>
some (.ret p25.1, p25.2))) (
(binV E0 .eql 3 false true p16.1 (.int .i64 3)).bind fun t28 =>
ifK t28 (
(binV E0 .add 3 false true x1 (.int .i64 1)).bind fun t31 =>
(faP 257 false 1 p13.1).bind fun t32 =>
(ld1 t32 p16.2).bind fun p33 =>
(bsP 3 1 2 (one (.int .i64 0)) [(0, t31), (1, p33.1)] p33.2).bind fun p34 =>
some (.ret p34.1, p34.2)) (
(binV E0 .eql 3 false true p16.1 (.int .i64 4)).bind fun t36 =>
ifK t36 (
(faP 257 false 1 p13.1).bind fun t38 =>
(ld1 t38 p16.2).bind fun p39 =>
(bsP 3 1 1 (one (.int .i64 0)) [(0, p39.1)] p39.2).bind fun p40 =>
some (.ret p40.1, p40.2)) (
(binV E0 .eql 3 false true p16.1 (.int .i64 0)).bind fun t42 =>
ifK t42 (
ifK t42 (
some (.ret .nilslice, p16.2)) (
(binV E0 .add 3 false true x1 (.int .i64 1)).bind fun t24 =>
(bsP 3 1 1 (one (.int .i64 0)) [(0, t24)] p16.2).bind fun p25 =>
some (.ret p25.1, p25.2))) (
(binV E0 .eql 3 false true p16.1 (.int .i64 6)).bind fun t45 =>
ifK t45 (
some (.ret .nilslice, p16.2)) (
(binV E0 .add 3 false true x1 (.int .i64 1)).bind fun t24 =>
(bsP 3 1 1 (one (.int .i64 0)) [(0, t24)] p16.2).bind fun p25 =>
some (.ret p25.1, p25.2))))))) := ⟨_, fun self N x0 x1 x2 x3 S => F28_eq self N x0 x1 x2 x3 S⟩
theorem kind_at (t : List Sp) (k : Nat) (hk : k ≤ t.length) : ∃ u, (stepsT t)[k]? = some u ∧ u.get 256 = some (.int .i64 (if k < t.length then 0 else 6)) := by
 by_cases h : k < t.length
 · exact ⟨_, stepsT_take h, by rw [if_pos h]; exact (t[k].ok).kind⟩
 · have : k = t.length := by omega
   subst this
   exact ⟨_, stepsT_done t, by rw [if_neg h]; exact kind_6⟩
theorem goes_run {K : FuncId → Option KF} (h28 : K 28 = none) (m : Nat) (h : Rx S b r t) {k : Nat} (hk : k ≤ t.length) (x2 x3 : V) :
 ∃ T, (ev E0 K (m + 1)).f 28 [.ptr b 0, .int .i64 (k : Int), x2, x3] S = some (.ret .nilslice, T) ∧ Grew (fun _ => False) S T := by
 obtain ⟨Z, hZ⟩ := F28_z
 have ho := h.on
 obtain ⟨u, hu1, hu2⟩ := kind_at t k hk
 obtain ⟨a1, a2, a3⟩ := ag_new ho 50 258 Z
 have on1 : (nwP 50 258 Z S).2.on = false := nw_on ho _
 obtain ⟨S2, b1, b2, b3, b4⟩ := a1.stA on1 big258 u
 have on2 := b3.on.trans on1
 have g2 : Grew (fun _ => False) S S2 := a2.own (Nat.le_refl _) b3
 refine ⟨S2, ev_read (c := C28) (d := B28) (by kernel_rfl) (by kernel_rfl) (annot_isOf C28 _ (by kernel_rfl)) h28 (?_ : F28 (ev E0 K m) rounds (.ptr b 0) (.int .i64 (k : Int)) x2 x3 S = _), g2⟩
 rw [hZ]
 simp only [nilP, faPg, Nat.zero_add, oB]
 rw [h.l0, oB]
 dsimp only
 rw [ixP_st r (t.length + 1) k (by omega), oB, row_ldA ho h.row hu1, oB]
 dsimp only
 rw [nwP_fst, b1, oB]
 dsimp only
 rw [faPg, oB, Nat.zero_add, b2.ld1 on2 big258 (by decide) hu2, oB]
 dsimp only
 by_cases hlt : k < t.length
 · rw [if_pos hlt]; rfl
 · rw [if_neg hlt]; rfl
def entF (F : List Int) (k : Nat) (bg : Int) : List Int := if 0 ≤ F.getD k (-1) ∧ F.getD k (-1) ≤ bg then F else F.set k bg
theorem enter_run {K : FuncId → Option KF} (h21 : K 21 = none) (h28 : K 28 = none) (m : Nat) (h : Rx S b r t) {x : Nat} {F : List Int} (hF : RowAt S x 3 1 (intsT F)) (hx : x < S.next) (hxb : x ≠ b) (hxr : x ≠ r) (hl : F.length = t.length + 1) {k : Nat} (hk : k ≤ t.length) (bg : Int) (x4 x5 : V) :
 ∃ T, (ev E0 K (m + 2)).f 21 [.ptr b 0, .slice x 0 (t.length + 1) (t.length + 1), .int .i64 (k : Int), .int .i64 bg, x4, x5] S = some (.ret (.tuple []), T) ∧ RowAt T x 3 1 (intsT (entF F k bg)) ∧ Grew (fun y => y = x) S T := by
 have ho := h.on
 have hkl : k < F.length := by omega
 have hz : F[k]? = some F[k] := List.getElem?_eq_getElem hkl
 have hgd : F.getD k (-1) = F[k] := by rw [List.getD_eq_getElem?_getD, hz]; rfl
 suffices hm : ∃ T, F21 (ev E0 K (m + 1)) rounds (.ptr b 0) (.slice x 0 (t.length + 1) (t.length + 1)) (.int .i64 (k : Int)) (.int .i64 bg) x4 x5 S = some (.ret (.tuple []), T) ∧ RowAt T x 3 1 (intsT (entF F k bg)) ∧ Grew (fun y => y = x) S T by
  obtain ⟨T, q1, q2, q3⟩ := hm
  exact ⟨T, ev_read (c := C21) (d := B21) (by kernel_rfl) (by kernel_rfl) (annot_isOf C21 _ (by kernel_rfl)) h21 q1, q2, q3⟩
 unfold entF
 rw [hgd]
 have go : ¬ (0 ≤ F[k] ∧ F[k] ≤ bg) → ∃ T, ((ixP 1 (.slice x 0 (t.length + 1) (t.length + 1)) (.int .i64 (k : Int))).bind fun t16 =>
(stP 1 t16 (.int .i64 bg) S).bind fun p17 =>
callP ((ev E0 K (m + 1)).f 28 [.ptr b 0, .int .i64 (k : Int), x4, x5] p17.2) fun t22 S22 =>
(lnS t22 S22).bind fun p23 =>
L21_25 (ev E0 K (m + 1)) rounds (finN E0 (ev E0 K (m + 1)) Try.f21) (exB 0 (finN E0 (ev E0 K (m + 1)) Try.f21) noEx) rounds (.ptr b 0) (.slice x 0 (t.length + 1) (t.length + 1)) (.int .i64 bg) x4 x5 t22 p23.1 (.int .i64 0) p23.2) = some (.ret (.tuple []), T) ∧ RowAt T x 3 1 (intsT (F.set k bg)) ∧ Grew (fun y => y = x) S T := fun _ => by
  obtain ⟨S1, a1, a2, a3, a4⟩ := fr_st ho hF hkl bg
  have h1 : Rx S1 b r t := h.grew (fun e => hxb e.symm) (fun e => hxr e.symm) a3
  obtain ⟨S2, b1, b2⟩ := goes_run h28 m h1 hk x4 x5
  refine ⟨S2, ?_, a2.grew (by omega) (fun h => h) b2, a3.trans (b2.mono fun _ _ h => h.elim)⟩
  rw [ixP_sl x _ k (by omega), oB, a1, oB]
  dsimp only
  rw [b1, callP_ret, show lnS .nilslice S2 = some (.int .i64 0, S2) from rfl, oB]
  dsimp only
  rw [show rounds = rounds - 1 + 1 by unfold rounds; omega, L21_25_eq, binV_ii, intsV_lss, show decide ((0 : Int) < 0) = false from rfl, oB, ifK_bool, cond_false, exB_same]
  rfl
 rw [F21_eq, ixP_sl x _ k (by omega), oB, fr_ld ho hF hz, oB]
 dsimp only
 rw [binV_ii, intsV_geq, oB, guardV_t, oB]
 by_cases h0 : 0 ≤ F[k]
 · rw [decide_eq_true h0, cond_true, oB, oB, cond_true, oB, oB, cond_true, ixP_sl x _ k (by omega), oB, oB, cond_true, fr_ld ho hF hz, oB, oB, cond_true, oB, oB, cond_true]
   dsimp only
   rw [binV_ii, intsV_leq, oB, pickV_bool, cond_true, oB, ifK_bool]
   by_cases h1 : F[k] ≤ bg
   · rw [decide_eq_true h1, cond_true, if_pos ⟨h0, h1⟩]
     exact ⟨S, rfl, hF, Grew.refl _ _⟩
   · rw [decide_eq_false h1, cond_false, if_neg (fun h => h1 h.2)]
     have := go (fun h => h1 h.2)
     rw [ixP_sl x _ k (by omega)] at this
     exact this
 · rw [decide_eq_false h0, cond_false, oB, oB, cond_false, oB, oB, cond_false, oB, oB, cond_false, oB, oB, cond_false, oB, oB, cond_false, oB, pickV_bool, cond_false, oB, ifK_bool, cond_false, if_neg (fun h => h0 h.1)]
   have := go (fun h => h0 h.1)
   rw [ixP_sl x _ k (by omega)] at this
   exact this
end
end Go.Proofs.Ytachpdpmoihjmaa.W
namespace Go.Proofs.Ytachpdpmoihjmaa.W
open Go.Proofs.Ytachpdpmoihjmaa.Ev
def nxL (c : UInt8) : List Sp → List Int → List Int
 | x :: t, z :: F => (if 0 ≤ z ∧ x.p c = true then z else -1) :: nxL c t F
 | _, _ => []
def nx (c : UInt8) (t : List Sp) (F : List Int) : List Int := -1 :: nxL c t F
def lvL (c : UInt8) : List Sp → List Int → Bool
 | x :: t, z :: F => (decide (0 ≤ z) && x.p c) || lvL c t F
 | _, _ => false
theorem nxL_len (c : UInt8) : ∀ (t : List Sp) (F : List Int), t.length ≤ F.length → (nxL c t F).length = t.length
 | [], F, _ => rfl
 | x :: t, [], h => by simp at h
 | x :: t, z :: F, h => by rw [nxL, List.length_cons, nxL_len c t F (by simpa using h), List.length_cons]
theorem entF_set (A B : List Int) (z : Int) (bg : Int) (hz : z < 0) : entF (A ++ z :: B) A.length bg = A ++ bg :: B := by
 unfold entF
 rw [show (A ++ z :: B).getD A.length (-1) = z by simp [List.getD_eq_getElem?_getD], if_neg (by omega), List.set_append, if_neg (by omega), Nat.sub_self]
 rfl
section
variable {S : St} {b r : Nat} {t : List Sp}
theorem take_has (c : UInt8) (x : Sp) : x.tr.get c.toNat = some (.bool (x.p c)) := x.ok.has c
theorem L14_spec {K : FuncId → Option KF} (h21 : K 21 = none) (h28 : K 28 = none) (m N : Nat) (nk : Ac → St → Rs) (ek : Nat → Ac → St → Rs) {T : List UInt8} {at_ : Nat} (hat : at_ < T.length) (hT : T.length ≤ 100) (v6 v7 : V) {x y : Nat} {F : List Int} (hlen : F.length = t.length + 1) (ht : t.length ≤ 100) :
 ∀ (q : List Sp) (G A : List Int) (k j : Nat) (lv : Bool) (S : St), Rx S b r t → RowAt S x 3 1 (intsT F) → RowAt S y 3 1 (intsT (A ++ List.replicate q.length (-1))) → x < S.next → y < S.next → x ≠ y → y ≠ b → y ≠ r → t.drop k = q → F.drop k = G → A.length = k + 1 → k ≤ t.length → q.length + 1 < j →
 ∃ U, L14_76 (ev E0 K (m + 2)) N nk ek j (.ptr b 0) (sv T) v6 v7 (.int .i64 (at_ : Int)) (.slice y 0 (t.length + 1) (t.length + 1)) (.bool lv) (.slice x 0 (t.length + 1) (t.length + 1)) (.int .i64 ((t.length + 1 : Nat) : Int)) (.int .i64 (k : Int)) S
  = ek 2 (fr 116 [(0, .ptr b 0), (1, sv T), (6, v6), (7, v7), (9, .int .i64 (at_ : Int)), (11, .slice y 0 (t.length + 1) (t.length + 1)), (12, .bool (lv || lvL T[at_] q G))]) U ∧ RowAt U y 3 1 (intsT (A ++ nxL T[at_] q G)) ∧ Grew (fun z => z = y) S U
 | q, G, A, k, 0, lv, S, _, _, _, _, _, _, _, _, _, _, _, _, hj => by omega
 | [], G, A, k, j + 1, lv, S, h, hx, hy, hxn, hyn, hxy, hyb, hyr, hq, hG, hA, hk, hj => by
  have ho := h.on
  have hkn : k = t.length := by have := List.drop_eq_nil_iff.1 hq; omega
  subst hkn
  have hzk : t.length < F.length := by omega
  have hG1 : G = [F[t.length]] := by
   rw [← hG, List.drop_eq_getElem_cons hzk, List.drop_eq_nil_of_le (by omega)]
  have hz : F[t.length]? = some F[t.length] := List.getElem?_eq_getElem hzk
  obtain ⟨u, hu1, hu2⟩ := kind_at t t.length (Nat.le_refl _)
  rw [if_neg (by omega)] at hu2
  have fin : ∀ j, 0 < j → L14_76 (ev E0 K (m + 2)) N nk ek j (.ptr b 0) (sv T) v6 v7 (.int .i64 (at_ : Int)) (.slice y 0 (t.length + 1) (t.length + 1)) (.bool lv) (.slice x 0 (t.length + 1) (t.length + 1)) (.int .i64 ((t.length + 1 : Nat) : Int)) (.int .i64 ((t.length + 1 : Nat) : Int)) S
   = ek 2 (fr 116 [(0, .ptr b 0), (1, sv T), (6, v6), (7, v7), (9, .int .i64 (at_ : Int)), (11, .slice y 0 (t.length + 1) (t.length + 1)), (12, .bool lv)]) S := fun j hj => by
   rw [show j = j - 1 + 1 by omega, L14_76_eq, binV_ii, intsV_lss, dec_ge (Nat.le_refl _), oB, ifK_bool, cond_false]
  refine ⟨S, ?_, by simpa [nxL] using hy, Grew.refl _ _⟩
  rw [show (lv || lvL T[at_] [] G) = lv by simp [lvL], ← fin j (by simp at hj; omega)]
  rw [L14_76_eq, binV_ii, intsV_lss, dec_lt (by omega), oB, ifK_bool, cond_true, ixP_sl x _ _ (by omega), oB, fr_ld ho hx hz, oB]
  dsimp only
  rw [binV_ii, intsV_geq, oB]
  by_cases h0 : 0 ≤ F[t.length]
  · rw [decide_eq_true h0]
    simp only [guardV_t, oB, cond_true, nilP, faPg, Nat.zero_add, h.o0, ixP_st r (t.length + 1) t.length (by omega), onS_rd, row_ldOn h.row hu1 (j := 256) (by omega) hu2, binV_ii, intsV_eql, pickV_bool, show decide ((6 : Int) = 0) = false from rfl, cond_false, guardV_no, onS_onS, ifK_bool]
    rw [relog_onS ho, intsV_add, wrap_succ (by omega), oB]
  · rw [decide_eq_false h0]
    simp only [guardV_t, oB, cond_false, pickV_bool, guardV_no, onS_onS, ifK_bool]
    rw [relog_onS ho, binV_ii, intsV_add, wrap_succ (by omega), oB]
 | c :: q, G, A, k, j + 1, lv, S, h, hx, hy, hxn, hyn, hxy, hyb, hyr, hq, hG, hA, hk, hj => by
  have ho := h.on
  obtain ⟨hkt, hc, hd, _⟩ := drop_at hq
  have hzk : k < F.length := by omega
  have hz : F[k]? = some F[k] := List.getElem?_eq_getElem hzk
  have hG1 : G = F[k] :: F.drop (k + 1) := by rw [← hG, List.drop_eq_getElem_cons hzk]
  have hu1 := stepsT_take hkt
  have hu2 : t[k].tr.get 256 = some (.int .i64 0) := (t[k].ok).kind
  have hu3 : t[k].tr.get T[at_].toNat = some (.bool (c.p T[at_])) := (take_has T[at_] t[k]).trans (by rw [hc])
  have hdz : decide ((0 : Int) = 0) = true := rfl
  have hD := row_ldOn h.row hu1 (j := 256) (by omega) hu2
  have hB : T[at_].toNat < 256 := T[at_].toNat_lt
  have hB2 : T[at_].toNat < 258 := Nat.lt_of_lt_of_le hB (by decide)
  have hD2 := row_ldOn h.row hu1 hB2 hu3
  have hix := ixA_ptr 256 1 false 1 .u8 (b := r) (off := k * 258) hB
  have hA2 : A ++ List.replicate (c :: q).length (-1) = A ++ (-1) :: List.replicate q.length (-1) := by rw [List.length_cons, List.replicate_succ]
  have no : (decide (0 ≤ F[k]) && c.p T[at_]) = false → ∃ U, L14_76 (ev E0 K (m + 2)) N nk ek j (.ptr b 0) (sv T) v6 v7 (.int .i64 (at_ : Int)) (.slice y 0 (t.length + 1) (t.length + 1)) (.bool lv) (.slice x 0 (t.length + 1) (t.length + 1)) (.int .i64 ((t.length + 1 : Nat) : Int)) (.int .i64 ((k + 1 : Nat) : Int)) S
   = ek 2 (fr 116 [(0, .ptr b 0), (1, sv T), (6, v6), (7, v7), (9, .int .i64 (at_ : Int)), (11, .slice y 0 (t.length + 1) (t.length + 1)), (12, .bool (lv || lvL T[at_] (c :: q) G))]) U ∧ RowAt U y 3 1 (intsT (A ++ nxL T[at_] (c :: q) G)) ∧ Grew (fun z => z = y) S U := fun hno => by
   obtain ⟨U, a1, a2, a3⟩ := L14_spec h21 h28 m N nk ek hat hT v6 v7 hlen ht q (F.drop (k + 1)) (A ++ [-1]) (k + 1) j lv S h hx (by rw [List.append_assoc]; rw [hA2] at hy; exact hy) hxn hyn hxy hyb hyr hd rfl (by simp [hA]) (by omega) (by simp at hj; omega)
   refine ⟨U, ?_, ?_, a3⟩
   · rw [a1, hG1, lvL, hno, Bool.false_or]
   · rw [hG1, nxL, if_neg (by
      intro hh
      rw [decide_eq_true hh.1, Bool.true_and] at hno
      exact absurd hh.2 (by rw [hno]; decide))]
     rw [List.append_assoc] at a2
     exact a2
  rw [L14_76_eq, binV_ii, intsV_lss, dec_lt (by omega), oB, ifK_bool, cond_true, ixP_sl x _ _ (by omega), oB, fr_ld ho hx hz, oB]
  dsimp only
  rw [binV_ii, intsV_geq, oB]
  by_cases h0 : 0 ≤ F[k]
  · rw [decide_eq_true h0]
    simp only [guardV_t, oB, cond_true, nilP, faPg, Nat.zero_add, Nat.add_zero, h.o0, ixP_st r (t.length + 1) k (by omega), onS_rd, hD, binV_ii, intsV_eql, pickV_bool, hdz, decide_true, ixS_sv T .i64 at_ hat, hix, Nat.mul_one, hD2, onS_onS, ifK_bool]
    rw [relog_onS ho]
    by_cases he : c.p T[at_] = true
    · rw [he, cond_true, intsV_add, wrap_succ (by omega), oB, intsV_add, wrap_succ (by omega), oB, lnStr_sv, oB]
      dsimp only
      obtain ⟨S1, b1, b2, b3⟩ := enter_run h21 h28 m h hy hyn hyb hyr (by simp [hA]; have := congrArg List.length hq; simp at this; omega) (k := k + 1) (by omega) F[k] (.int .i64 ((at_ + 1 : Nat) : Int)) (.int .i64 (T.length : Int))
      rw [hA2, ← hA, entF_set _ _ _ _ (by omega)] at b2
      obtain ⟨U, a1, a2, a3⟩ := L14_spec h21 h28 m N nk ek hat hT v6 v7 hlen ht q (F.drop (k + 1)) (A ++ [F[k]]) (k + 1) j true S1 (h.grew (fun e => hyb e.symm) (fun e => hyr e.symm) b3) (hx.grew hxn hxy b3) (by rw [List.append_assoc]; exact b2) (Nat.lt_of_lt_of_le hxn b3.next) (Nat.lt_of_lt_of_le hyn b3.next) hxy hyb hyr hd rfl (by simp [hA]) (by omega) (by simp at hj; omega)
      refine ⟨U, ?_, ?_, b3.trans a3⟩
      · rw [b1, callP_ret, oB, a1, hG1, lvL, he, decide_eq_true h0]
        simp
      · rw [hG1, nxL, if_pos ⟨h0, he⟩]
        rw [List.append_assoc] at a2
        exact a2
    · rw [Bool.not_eq_true] at he
      rw [he, cond_false, intsV_add, wrap_succ (by omega), oB]
      exact no (by rw [he]; simp)
  · rw [decide_eq_false h0]
    simp only [guardV_t, oB, cond_false, pickV_bool, guardV_no, onS_onS, ifK_bool]
    rw [relog_onS ho, binV_ii, intsV_add, wrap_succ (by omega), oB]
    exact no (by rw [decide_eq_false h0]; rfl)
end
end Go.Proofs.Ytachpdpmoihjmaa.W
namespace Go.Proofs.Ytachpdpmoihjmaa.W
open Go.Proofs.Ytachpdpmoihjmaa.Ev
theorem big2 : 2 < big := by unfold big; decide
noncomputable def tr2 (a e : Int) : Tr V := Tr.ofListFrom .nil [.int .i64 a, .int .i64 e] 0
noncomputable def spT : Option (Int × Int) → Tr V
 | none => tr2 0 0
 | some p => tr2 p.1 p.2
theorem build_30 (a e : Int) : buildV E0 30 [(0, .int .i64 a), (1, .int .i64 e)] = some (.agg 2 (tr2 a e)) := by kernel_rfl
theorem tr2_0 (a e : Int) : (tr2 a e).get 0 = some (.int .i64 a) := rfl
def okB : Option (Int × Int) → Int → Bool
 | none, _ => true
 | some p, z => decide (z ≤ p.1)
def hit (n : Nat) (at_ : Int) (F : List Int) (o : Option (Int × Int)) : Option (Int × Int) := if 0 ≤ F.getD n (-1) ∧ okB o (F.getD n (-1)) = true then some (F.getD n (-1), at_) else o
def entO (o : Option (Int × Int)) (F : List Int) (at_ : Int) : List Int := match o with | none => entF F 0 at_ | some _ => F
def whM (t : List Sp) : List UInt8 → Nat → List Int → Option (Int × Int) → Option (Int × Int)
 | [], a, F, o => hit t.length (a : Int) (entO o F (a : Int)) o
 | c :: q, a, F, o =>
  let F1 := entO o F (a : Int)
  let o1 := hit t.length (a : Int) F1 o
  bif (!o1.isSome || lvL c t F1) then whM t q (a + 1) (nx c t F1) o1 else o1
theorem entF_len (F : List Int) (k : Nat) (bg : Int) : (entF F k bg).length = F.length := by
 unfold entF
 split
 · rfl
 · exact List.length_set
theorem nx_len {c : UInt8} {t : List Sp} {F : List Int} (h : F.length = t.length + 1) : (nx c t F).length = t.length + 1 := by
 unfold nx
 rw [List.length_cons, nxL_len c t F (by omega)]
section
variable {S : St} {b r : Nat} {t : List Sp}
noncomputable def tail14 (self : EV) (N : Nat) (nk : Ac → St → Rs) (ek : Nat → Ac → St → Rs) (n : Nat) (v0 v1 v6 v7 v8 v9 : V) (S : St) : Rs :=
 callP (self.f 20 [v0] S) fun t63 S63 =>
 (unV .not v7).bind fun t65 =>
 (lnS v8 S63).bind fun p74 =>
 L14_76 self N (R14_68 self N (fun a s => projK [0, 1, 6, 7, 8, 9] a fun a => (fun a s => projK [0, 1, 6, 7, 8, 9] a fun a => (R14_18 self N (N14_13 self N nk ek n) ek) a s) a s) (exB 1 (R14_18 self N (N14_13 self N nk ek n) ek) ek)) (exB 2 (R14_68 self N (fun a s => projK [0, 1, 6, 7, 8, 9] a fun a => (fun a s => projK [0, 1, 6, 7, 8, 9] a fun a => (R14_18 self N (N14_13 self N nk ek n) ek) a s) a s) (exB 1 (R14_18 self N (N14_13 self N nk ek n) ek) ek)) (exB 1 (R14_18 self N (N14_13 self N nk ek n) ek) ek)) N v0 v1 v6 v7 v9 t63 t65 v8 p74.1 (.int .i64 0) p74.2
theorem tail_eq (self : EV) (N : Nat) (nk : Ac → St → Rs) (ek : Nat → Ac → St → Rs) (n : Nat) (v0 v1 v6 v7 v8 v9 : V) (S : St) : tail14 self N nk ek n v0 v1 v6 v7 v8 v9 S =
 callP (self.f 20 [v0] S) fun t63 S63 =>
 (unV .not v7).bind fun t65 =>
 (lnS v8 S63).bind fun p74 =>
 L14_76 self N (R14_68 self N (fun a s => projK [0, 1, 6, 7, 8, 9] a fun a => (fun a s => projK [0, 1, 6, 7, 8, 9] a fun a => (R14_18 self N (N14_13 self N nk ek n) ek) a s) a s) (exB 1 (R14_18 self N (N14_13 self N nk ek n) ek) ek)) (exB 2 (R14_68 self N (fun a s => projK [0, 1, 6, 7, 8, 9] a fun a => (fun a s => projK [0, 1, 6, 7, 8, 9] a fun a => (R14_18 self N (N14_13 self N nk ek n) ek) a s) a s) (exB 1 (R14_18 self N (N14_13 self N nk ek n) ek) ek)) (exB 1 (R14_18 self N (N14_13 self N nk ek n) ek) ek)) N v0 v1 v6 v7 v9 t63 t65 v8 p74.1 (.int .i64 0) p74.2 := rfl
theorem exB1_0 (nk : Ac → St → Rs) (ek : Nat → Ac → St → Rs) (a : Ac) (s : St) : exB 1 nk ek 0 a s = ek 0 a s := rfl
theorem proj14 (f : Ac → St → Rs) (v0 v1 v6 v7 v8 v9 : V) (S : St) : (fun a s => projK [0, 1, 6, 7, 8, 9] a fun a => (fun a s => projK [0, 1, 6, 7, 8, 9] a fun a => f a s) a s) (fr 116 [(0, v0), (1, v1), (6, v6), (7, v7), (8, v8), (9, v9)]) S = f (fr 116 [(0, v0), (1, v1), (6, v6), (7, v7), (8, v8), (9, v9)]) S := by kernel_rfl
theorem tail_run {K : FuncId → Option KF} (h20 : K 20 = none) (h21 : K 21 = none) (h28 : K 28 = none) (m N : Nat) (hN : 300 < N) (nk : Ac → St → Rs) (ek : Nat → Ac → St → Rs) (j : Nat) {T : List UInt8} {at_ N0 : Nat} (hat : at_ < T.length) (hT : T.length ≤ 100) (ht : t.length ≤ 100) {x p : Nat} {F : List Int} (o : Option (Int × Int)) (hlen : F.length = t.length + 1)
 (h : Rx S b r t) (hb : b < N0) (hr : r < N0) (hF : RowAt S x 3 1 (intsT F)) (hp : AgAt S p 30 2 (spT o)) (hxn : x < S.next) (hpn : p < S.next) (hx0 : N0 ≤ x) (hp0 : N0 ≤ p) :
 ∃ U y, tail14 (ev E0 K (m + 2)) N nk ek j (.ptr b 0) (sv T) (.ptr p 0) (.bool o.isSome) (.slice x 0 (t.length + 1) (t.length + 1)) (.int .i64 (at_ : Int)) S = (bif (!o.isSome || lvL T[at_] t F) then L14_13 (ev E0 K (m + 2)) N nk ek j (.ptr b 0) (sv T) (.ptr p 0) (.bool o.isSome) (.slice y 0 (t.length + 1) (t.length + 1)) (.int .i64 ((at_ + 1 : Nat) : Int)) U else ek 0 (fr 116 [(6, .ptr p 0), (7, .bool o.isSome)]) U) ∧
  Rx U b r t ∧ RowAt U y 3 1 (intsT (nx T[at_] t F)) ∧ AgAt U p 30 2 (spT o) ∧ y < U.next ∧ N0 ≤ y ∧ y ≠ p ∧ p < U.next ∧ Grew (fun z => N0 ≤ z) S U := by
 have hS0 : N0 ≤ S.next := by omega
 obtain ⟨S1, a1, a2, a3, a4⟩ := blank_run h20 (m + 1) h ht
 have h1 : Rx S1 b r t := h.grew (fun h => h) (fun h => h) a3
 obtain ⟨U, b1, b2, b3⟩ := L14_spec h21 h28 m N (R14_68 (ev E0 K (m + 2)) N (fun a s => projK [0, 1, 6, 7, 8, 9] a fun a => (fun a s => projK [0, 1, 6, 7, 8, 9] a fun a => (R14_18 (ev E0 K (m + 2)) N (N14_13 (ev E0 K (m + 2)) N nk ek j) ek) a s) a s) (exB 1 (R14_18 (ev E0 K (m + 2)) N (N14_13 (ev E0 K (m + 2)) N nk ek j) ek) ek)) (exB 2 (R14_68 (ev E0 K (m + 2)) N (fun a s => projK [0, 1, 6, 7, 8, 9] a fun a => (fun a s => projK [0, 1, 6, 7, 8, 9] a fun a => (R14_18 (ev E0 K (m + 2)) N (N14_13 (ev E0 K (m + 2)) N nk ek j) ek) a s) a s) (exB 1 (R14_18 (ev E0 K (m + 2)) N (N14_13 (ev E0 K (m + 2)) N nk ek j) ek) ek)) (exB 1 (R14_18 (ev E0 K (m + 2)) N (N14_13 (ev E0 K (m + 2)) N nk ek j) ek) ek)) hat hT (.ptr p 0) (.bool o.isSome) (x := x) (y := S.next) (F := F) hlen ht t F [-1] 0 N (!o.isSome) S1 h1 (hF.grew hxn (fun h => h) a3) (by simpa [List.replicate_succ] using a2) (Nat.lt_of_lt_of_le hxn a3.next) a4 (by omega) (by omega) (by omega) rfl rfl rfl (by omega) (by omega)
 have g : Grew (fun z => N0 ≤ z) S U := (a3.mono fun _ _ h => h.elim).trans (b3.mono fun z _ hz => by omega)
 refine ⟨U, S.next, ?_, h1.grew (by omega) (by omega) b3, b2, (hp.grew hpn (fun h => h) a3).grew (by omega) (by omega) b3, Nat.lt_of_lt_of_le a4 b3.next, hS0, by omega, Nat.lt_of_lt_of_le hpn g.next, g⟩
 rw [tail_eq, show ev E0 K (m + 2) = ev E0 K (m + 1 + 1) from rfl, a1, callP_ret, unV_not, oB, lnS_sl, oB]
 dsimp only
 rw [show ((0 : Nat) : Int) = 0 from rfl] at b1
 rw [b1, exB_same, R14_68_eq, unV_not, oB, ifK_bool]
 cases hc : (!o.isSome || lvL T[at_] t F) with
 | true =>
  rw [Bool.not_true, cond_false, cond_true]
  refine (proj14 (R14_18 (ev E0 K (m + 2)) N (N14_13 (ev E0 K (m + 2)) N nk ek j) ek) _ _ _ _ _ _ U).trans ?_
  rw [R14_18_eq, binV_ii, intsV_add, wrap_succ (by omega), oB, N14_13_eq]
 | false =>
  rw [Bool.not_false, cond_true, cond_false, exB1_0]
end
end Go.Proofs.Ytachpdpmoihjmaa.W
