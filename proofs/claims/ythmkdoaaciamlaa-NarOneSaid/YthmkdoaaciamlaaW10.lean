/-
  WHAT THE FUNCTIONS COME TO: each is read by the evaluator, printed, and told as a function of data, part 10 of 13 (no condition).
-/
import Derived.Test.YthmkdoaaciamlaaW9
namespace Go.Proofs.Ythmkdoaaciamlaa.W
open Go.Proofs.Ythmkdoaaciamlaa.Ev
def WSt.left (full : List UInt8) (w : WSt) : List UInt8 := w.at_.left full
def wTake (full : List UInt8) (w : WSt) (n : Nat) : WSt :=
 if n = 0 ∨ (w.left full).length < n then ⟨.nil, true⟩ else match w.at_ with
 | .pos off => ⟨if off + n < full.length then .pos (off + n) else .empty, w.lost⟩
 | a => ⟨a, w.lost⟩
noncomputable def wOut (r : Nat) (full : List UInt8) (w : WSt) (n : Nat) : V :=
 if n = 0 ∨ (w.left full).length < n then .nilslice else match w.at_ with
 | .pos off => .oslice r off n 1
 | _ => .nilslice
def WOk (x : Rs) (S : St) (b r : Nat) (full : List UInt8) (v : V) (w : WSt) : Prop := ∃ S', x = some (.ret v, S') ∧ WAt S' b r full w ∧ Grew (fun x => x = b) S S' ∧ S'.next = S.next
theorem lf_len {full : List UInt8} {a : Lf} (h : 0 < (a.left full).length) : ∃ off, a = .pos off := by
 cases a with
 | pos off => exact ⟨off, rfl⟩
 | empty => simp [Lf.left] at h
 | nil => simp [Lf.left] at h
theorem wTake_left {full : List UInt8} {w : WSt} {n : Nat} (h0 : n ≠ 0) (hn : n ≤ (w.left full).length) : (wTake full w n).left full = (w.left full).drop n ∧ (wTake full w n).lost = w.lost := by
 obtain ⟨a, lo⟩ := w
 unfold WSt.left at *
 simp only at *
 obtain ⟨off, rfl⟩ := lf_len (full := full) (a := a) (by omega)
 unfold wTake WSt.left
 rw [if_neg (by simp only; omega)]
 simp only [Lf.left, List.length_drop] at hn
 simp only
 by_cases h : off + n < full.length
 · rw [if_pos h]
   simp only [Lf.left, List.drop_drop, and_self]
 · rw [if_neg h]
   simp only [Lf.left, List.drop_drop, and_true]
   rw [List.drop_eq_nil_of_le (by omega)]
theorem wTake_ok {full : List UInt8} {w : WSt} (n : Nat) (h : w.at_.ok full) : (wTake full w n).at_.ok full := by
 unfold wTake
 split
 · trivial
 · obtain ⟨a, lo⟩ := w
   cases a with
   | pos off =>
    simp only
    split
    · simp only [Lf.ok]; omega
    · trivial
   | empty => trivial
   | nil => trivial
theorem F48_spec (self : EV) (b r : Nat) (full : List UInt8) (w : WSt) (x1 : V) (n : Nat) (S : St) (hW : WAt S b r full w) (hc : callK E0 self x1 [w.at_.v r full] S = some (.ret (.int .i64 (n : Int)), S)) :
 WOk (F48 self rounds (.ptr b 0) x1 S) S b r full (wOut r full w n) (wTake full w n) := by
 rw [F48_eq, show binV E0 .eql 54 false true (.ptr b 0) .nilptr = some (.bool false) by kernel_rfl, oB, ifK_bool, cond_false, show nilCheckV (.ptr b 0) = some (.ptr b 0) from rfl, oB, faP_ptr, oB, Nat.zero_add, hW.ld0, oB]
 dsimp only
 rw [hc, callP_ret, binV_ii, intsV_leq, oB, guardV_f, oB]
 have h1 := hW.st0 .nil
 have hW1 := hW.put ⟨.nil, w.lost⟩ trivial (fun h => h.elim)
 have h2 := hW1.st1 true
 have hW2 := hW1.put ⟨.nil, true⟩ trivial (fun h => h.elim)
 have lose : ∀ (e : n = 0 ∨ (w.left full).length < n), WOk ((stP 1 (.ptr b 0) .nilslice S).bind fun p26 => (some (.ptr b 0)).bind fun t27 => (faP 1 false 1 t27).bind fun t28 => (stP 1 t28 (.bool true) p26.2).bind fun p29 => some (.ret .nilslice, p29.2)) S b r full (wOut r full w n) (wTake full w n) := fun e => by
  unfold wOut wTake
  rw [if_pos e, if_pos e, show (V.nilslice) = Lf.nil.v r full from rfl, h1, oB, oB, faP_ptr, oB, Nat.zero_add]
  dsimp only
  rw [h2, oB]
  exact ⟨_, rfl, hW2, (grew_put b _).trans (grew_put b _), rfl⟩
 by_cases h0 : n = 0
 · rw [decide_eq_true (show (n : Int) ≤ 0 by omega), Bool.not_true, cond_false, oB, oB, cond_false, oB, oB, cond_false, oB, oB, cond_false, oB, oB, cond_false, oB, oB, cond_false, oB, oB, cond_false, oB, pickV_bool, cond_true, oB, ifK_bool, cond_true, oB, faP_ptr, oB, Nat.zero_add]
   exact lose (.inl h0)
 · rw [decide_eq_false (show ¬ (n : Int) ≤ 0 by omega), Bool.not_false, cond_true, oB, oB, cond_true, oB, oB, cond_true, show nilCheckV (.ptr b 0) = some (.ptr b 0) from rfl, oB, oB, cond_true, faP_ptr, oB, oB, cond_true, Nat.zero_add, hW.ld0, oB, oB, cond_true]
   dsimp only
   rw [lnS_lf _ hW.ok, oB, oB, cond_true]
   dsimp only
   rw [binV_ii, intsV_gtr, oB, pickV_bool, cond_false, oB, ifK_bool]
   by_cases hn : (w.left full).length < n
   · have hn' : (w.at_.left full).length < n := hn
     rw [decide_eq_true (show ((w.at_.left full).length : Int) < (n : Int) by omega), cond_true, oB, faP_ptr, oB, Nat.zero_add]
     exact lose (.inr hn)
   · have hn' : ¬ (w.at_.left full).length < n := hn
     rw [decide_eq_false (show ¬ ((w.at_.left full).length : Int) < (n : Int) by omega), cond_false, oB, faP_ptr, oB, Nat.zero_add, hW.ld0, oB]
     dsimp only
     unfold wOut
     have hT : wTake full w n = match w.at_ with
      | .pos off => ⟨if off + n < full.length then .pos (off + n) else .empty, w.lost⟩
      | a => ⟨a, w.lost⟩ := by
      unfold wTake
      rw [if_neg (by omega)]
     rw [if_neg (by omega)]
     obtain ⟨off, ha⟩ := lf_len (full := full) (a := w.at_) (by omega)
     rw [ha] at hT hn' ⊢
     simp only at hT ⊢
     have hok := hW.ok
     rw [ha] at hok
     simp only [Lf.ok] at hok
     simp only [Lf.left, List.length_drop] at hn'
     have hputok := wTake_ok n hW.ok
     have hsrc := hW.src (by rw [ha]; trivial)
     have hrw := hsrc.row
     rw [hT] at hputok ⊢
     rw [show Lf.v r full (.pos off) = .oslice r off (full.length - off) 1 from rfl, os_hi hW.on hrw off _ n (by omega) (by omega), oB, oB, faP_ptr, oB, Nat.zero_add]
     dsimp only
     rw [hW.ld0, ha, oB]
     dsimp only
     rw [show Lf.v r full (.pos off) = .oslice r off (full.length - off) 1 from rfl, os_lo hW.on hrw off n hok (by omega) (by omega), oB, oB, faP_ptr, oB, Nat.zero_add]
     dsimp only
     rw [hW.st0, oB]
     exact ⟨_, rfl, hW.put _ hputok (fun _ => by rw [ha]; trivial), grew_put b _, rfl⟩
def wNum (full : List UInt8) (w : WSt) : Nat × WSt := (numV ((w.left full).take (rowK (w.left full))) 0, wTake full w (rowK (w.left full)))
theorem L47_spec (self : EV) (N : Nat) (nk : Ac → St → Rs) (ek : Nat → Ac → St → Rs) (r off k : Nat) (full : List UInt8) (S : St) (ho : S.on = false) (hrow : RowAt S r 5 1 (full.map byteC)) (hfit : full.length ≤ 100000) (hk : off + k ≤ full.length) :
 ∀ (l : List UInt8) (i v n : Nat), ((full.drop off).take k).drop i = l → l.length < n →
 L47_8 self N nk ek n (.int .u64 (v : Int)) (.oslice r off k 1) (.int .i64 (k : Int)) (.int .i64 (i : Int)) S = ek 0 (fr 20 [(2, .int .u64 (numV l v : Int))]) S
 | l, i, v, 0, _, hn => by omega
 | [], i, v, n + 1, hi, hn => by
  have := drop_end hi
  rw [List.length_take, List.length_drop] at this
  rw [L47_8_eq, binV_ii, intsV_lss, dec_ge (by omega), oB, ifK_bool, cond_false]
  rfl
 | c :: l, i, v, n + 1, hi, hn => by
  obtain ⟨hlt, hc, hr, _⟩ := drop_at hi
  rw [List.length_take, List.length_drop] at hlt
  rw [List.getElem_take, List.getElem_drop] at hc
  rw [L47_8_eq, binV_ii, intsV_lss, dec_lt (by omega), oB, ifK_bool, cond_true, ixP_os off _ i (by omega), oB, row_ld ho hrow (off + i) (by omega), oB]
  dsimp only
  rw [hc, binV_ii, intsV_mul, oB, binV_ii, intsV_rem _ _ _ (by decide), oB, cvI_int, oB]
  dsimp only
  rw [mod8, show (v : Int) * (128 : Int) = ((128 * v : Nat) : Int) by omega, wrapU, binV_ii, intsV_add, show ((128 * v % 18446744073709551616 : Nat) : Int) + ((c.toNat % 128 : Nat) : Int) = ((128 * v % 18446744073709551616 + c.toNat % 128 : Nat) : Int) by omega, wrapU, oB, binV_ii, intsV_add, wrap_succ (by omega), oB]
  rw [show (128 * v % 18446744073709551616 + c.toNat % 128) % 18446744073709551616 = (128 * v + c.toNat % 128) % 18446744073709551616 by omega]
  exact L47_spec self N nk ek r off k full S ho hrow hfit hk l (i + 1) _ n hr (by simp at hn; omega)
structure WK (K : FuncId → Option KF) : Prop where
 k69 : K 69 = none
 k48 : K 48 = none
 k47 : K 47 = none
 k49 : K 49 = none
 k28 : K 28 = none
 k53 : K 53 = none
 k30 : K 30 = none
 k27 : K 27 = none
theorem num_run {K : FuncId → Option KF} (hK : WK K) (n b r : Nat) (full : List UInt8) (w : WSt) (S : St) (hW : WAt S b r full w) : WOk ((ev E0 K (n + 3)).f 47 [.ptr b 0] S) S b r full (.int .u64 ((wNum full w).1 : Int)) (wNum full w).2 := by
 have h69 : callK E0 (ev E0 K (n + 1)) (.fn (.func 69) [] []) [w.at_.v r full] S = some (.ret (.int .i64 (rowK (w.left full) : Int)), S) := by
  show (ev E0 K (n + 1)).f 69 [w.at_.v r full] S = _
  exact ev_read (c := C69) (d := B69) (by kernel_rfl) (by kernel_rfl) (annot_isOf C69 _ (by kernel_rfl)) hK.k69 (F69_spec (ev E0 K n) r full w.at_ hW.ok S hW.on (fun hp => (hW.src hp).row) hW.fit)
 obtain ⟨S1, a1, a2, a3, a4⟩ := F48_spec (ev E0 K (n + 1)) b r full w (.fn (.func 69) [] []) (rowK (w.left full)) S hW h69
 have h48 : (ev E0 K (n + 2)).f 48 [.ptr b 0, .fn (.func 69) [] []] S = some (.ret (wOut r full w (rowK (w.left full))), S1) := ev_read (c := C48) (d := B48) (by kernel_rfl) (by kernel_rfl) (annot_isOf C48 _ (by kernel_rfl)) hK.k48 a1
 refine ⟨S1, ev_read (c := C47) (d := B47) (by kernel_rfl) (by kernel_rfl) (annot_isOf C47 _ (by kernel_rfl)) hK.k47 (?_ : F47 (ev E0 K (n + 2)) rounds (.ptr b 0) S = _), a2, a3, a4⟩
 have hle := rowK_le (w.left full)
 rw [F47_eq, h48, callP_ret]
 unfold wOut wNum
 by_cases h0 : rowK (w.left full) = 0
 · rw [if_pos (.inl h0), lnS_nil, oB, h0]
   dsimp only
   rw [show rounds = (rounds - 1) + 1 by unfold rounds; omega, L47_8_eq, binV_ii, intsV_lss, show decide ((0 : Int) < 0) = false from rfl, oB, ifK_bool, cond_false, show (rounds - 1) + 1 = rounds by unfold rounds; omega, exB_same, R47_1_eq, List.take_zero]
   rfl
 · rw [if_neg (by omega)]
   obtain ⟨off, ha⟩ := lf_len (full := full) (a := w.at_) (by unfold WSt.left at hle h0; omega)
   rw [ha]
   simp only
   rw [lnS_oslice, oB]
   dsimp only
   have hl : w.left full = full.drop off := by unfold WSt.left; rw [ha]; rfl
   have hrow1 : RowAt S1 r 5 1 (full.map byteC) := (hW.src (by rw [ha]; trivial)).row.grew (hW.src (by rw [ha]; trivial)).rlt (hW.src (by rw [ha]; trivial)).ne a3
   rw [hl] at hle h0 ⊢
   rw [List.length_drop] at hle
   have := L47_spec (ev E0 K (n + 2)) rounds (R47_1 (ev E0 K (n + 2)) rounds (finN E0 (ev E0 K (n + 2)) Try.f47) noEx) (exB 0 (R47_1 (ev E0 K (n + 2)) rounds (finN E0 (ev E0 K (n + 2)) Try.f47) noEx) noEx) r off (rowK (full.drop off)) full S1 a2.on hrow1 a2.fit (by omega) ((full.drop off).take (rowK (full.drop off))) 0 0 rounds (by rw [List.drop_zero]) (by rw [List.length_take, List.length_drop]; have := a2.fit; unfold rounds; omega)
   rw [show ((0 : Nat) : Int) = 0 from rfl] at this
   rw [this, exB_same, R47_1_eq]
end Go.Proofs.Ythmkdoaaciamlaa.W
namespace Go.Proofs.Ythmkdoaaciamlaa.W
open Go.Proofs.Ythmkdoaaciamlaa.Ev
section
variable {s : St}
theorem one_new (ho : s.on = false) (e : Nat) (z v : V) (h1 : v.size = 1) (h2 : v.cells = one v) (h3 : isTuple v = false) : ∃ t, stP 1 (.ptr s.next 0) v (nwP e 1 (one z) s).2 = some (.tuple [], t) ∧ Bx t s.next e [v] ∧ Grew (fun _ => False) s t ∧ t.next = s.next + 1 := by
 have hg := grew_nw ho (fun _ => False) (.cells e 1 1 false (Tr.ofListFrom .nil [one z] 0))
 have hget : (nwP e 1 (one z) s).2.heap.get s.next = some (.cells e 1 1 false (Tr.ofListFrom .nil [one z] 0)) := by
  show (newCells s e 1 [one z]).heap.get s.next = _
  unfold newCells
  rw [nw_get, if_pos rfl]; rfl
 have hon : (nwP e 1 (one z) s).2.on = false := nw_on ho _
 refine ⟨(nwP e 1 (one z) s).2.put s.next (bxO e [v]), ?_, bx_put s.next e [v], hg.own (Nat.le_refl _) (grew_put _ _), rfl⟩
 show vu (bif Nat.beq v.size 1 && !isTuple v then stK (nwP e 1 (one z) s).2 s.next 0 1 v.cells else none) = _
 rw [h1, h2, h3]
 have : stK (nwP e 1 (one z) s).2 s.next 0 1 (one v) = some ((nwP e 1 (one z) s).2.put s.next (bxO e [v])) := by
  unfold stK
  rw [hget]
  simp only [show Nat.ble (0 + 1) (1 * 1) = true from rfl, blt_true.2 (show 1 * 1 < big by unfold big; decide), Bool.and_self, Bool.not_false, cond_true]
  unfold elemTo
  simp only [show Nat.beq 1 1 = true from rfl, Nat.zero_mod, show Nat.beq 0 0 = true from rfl, Bool.and_self, cond_true, Nat.zero_div, Tr.setC_eq, set_one, oB, note_off hon]
  rfl
 rw [this]; rfl
theorem conv_nil : convertV E0 37 9 .nilslice s = some (sv [], s) := by
 unfold convertV
 rw [und37, und9]
 simp only [oB, isUnsafe, Bool.or_self, cond_false, und5, lenV]
 rfl
theorem conv_os (ho : s.on = false) {r : Nat} {full : List UInt8} (h : RowAt s r 5 1 (full.map byteC)) (off n : Nat) (hle : off + n ≤ full.length) : convertV E0 37 9 (.oslice r off n 1) s = some (sv ((full.drop off).take n), s) := by
 have hlen : ((full.drop off).take n).length = n := by rw [List.length_take, List.length_drop]; omega
 unfold convertV
 rw [und37, und9]
 simp only [oB, isUnsafe, Bool.or_self, cond_false, und5, lenV]
 have := firstV_row ho h hle
 unfold firstV
 simp only
 rw [this]
 simp only [oB, packV_bytes]
 rfl
end
theorem F49_spec (self : EV) (r : Nat) (full : List UInt8) (a : Lf) (hok : a.ok full) (hfit : full.length ≤ 100000) (m n : Nat) (hn : n < 18446744073709551616) (S : St) (ho : S.on = false) (hb : Bx S m 71 [.int .u64 (n : Int)]) :
 F49 self rounds (a.v r full) (.ptr m 0) S = some (.ret (.int .i64 ((min n ((a.left full).length + 1) : Nat) : Int)), S) := by
 have hl : (a.left full).length ≤ 100000 := by
  cases a with
  | pos off => simp only [Lf.left, List.length_drop]; omega
  | empty => simp [Lf.left]
  | nil => simp [Lf.left]
 rw [F49_eq, Bx.ld1 ho hb 0 (by show 0 < 1; decide) big1, oB]
 dsimp only
 rw [lnS_lf a hok, oB]
 dsimp only
 rw [cvI_int, oB]
 dsimp only
 rw [wrap_u64 (by omega) (by omega), binV_ii, intsV_add, show ((a.left full).length : Int) + 1 = (((a.left full).length + 1 : Nat) : Int) by omega, wrap_u64 (by omega) (by omega), oB]
 rw [show ([V.int .u64 (n : Int)] : List V)[0]'(by show 0 < 1; decide) = .int .u64 (n : Int) from rfl, foldK_min, oB]
 dsimp only
 rw [cvI_int, show min (n : Int) (((a.left full).length + 1 : Nat) : Int) = ((min n ((a.left full).length + 1) : Nat) : Int) by omega, wrap_i64 (by omega) (by omega), oB]
def wText (full : List UInt8) (w : WSt) : List UInt8 × WSt :=
 if (wNum full w).1 = 0 then ([], (wNum full w).2) else if ((wNum full w).2.left full).length < (wNum full w).1 then ([], ⟨.nil, true⟩) else (((wNum full w).2.left full).take (wNum full w).1, wTake full (wNum full w).2 (wNum full w).1)
theorem wNum_lt (full : List UInt8) (w : WSt) : (wNum full w).1 < 18446744073709551616 := numV_lt _ _ (by omega)
theorem text_run {K : FuncId → Option KF} (hK : WK K) (n b r : Nat) (full : List UInt8) (w : WSt) (S : St) (hb : b < S.next) (hW : WAt S b r full w) :
 ∃ S', (ev E0 K (n + 4)).f 28 [.ptr b 0] S = some (.ret (sv (wText full w).1), S') ∧ WAt S' b r full (wText full w).2 ∧ Grew (fun x => x = b) S S' := by
 obtain ⟨S1, a1, a2, a3, a4⟩ := num_run hK n b r full w S hW
 have hlt := wNum_lt full w
 suffices h : ∃ S', F28 (ev E0 K (n + 3)) rounds (.ptr b 0) S = some (.ret (sv (wText full w).1), S') ∧ WAt S' b r full (wText full w).2 ∧ Grew (fun x => x = b) S S' by
  obtain ⟨S', h1, h2, h3⟩ := h
  exact ⟨S', ev_read (c := C28) (d := B28) (by kernel_rfl) (by kernel_rfl) (annot_isOf C28 _ (by kernel_rfl)) hK.k28 h1, h2, h3⟩
 obtain ⟨S2, b1, b2, b3, b4⟩ := one_new a2.on 71 (.int .u64 0) (.int .u64 ((wNum full w).1 : Int)) rfl rfl rfl
 have hW2 := a2.grew (by omega) (fun h => h) (fun _ _ _ h => h) b3
 have on2 := hW2.on
 rw [F28_eq, a1, callP_ret, oB, nwP_fst, b1, oB]
 dsimp only
 rw [Bx.ld1 on2 b2 0 (by show 0 < 1; decide) big1, oB]
 dsimp only
 rw [show ([V.int .u64 ((wNum full w).1 : Int)] : List V)[0]'(by show 0 < 1; decide) = .int .u64 ((wNum full w).1 : Int) from rfl, binV_ii, intsV_eql, oB, ifK_bool]
 unfold wText
 by_cases h0 : (wNum full w).1 = 0
 · rw [decide_eq_true (show ((wNum full w).1 : Int) = 0 by omega), cond_true, if_pos h0]
   exact ⟨S2, rfl, hW2, a3.trans (Grew.of0 b3)⟩
 · rw [decide_eq_false (show ¬ ((wNum full w).1 : Int) = 0 by omega), cond_false, if_neg h0]
   have h49 : callK E0 (ev E0 K (n + 2)) (.fn (.func 49) [] [.ptr S1.next 0]) [(wNum full w).2.at_.v r full] S2 = some (.ret (.int .i64 ((min (wNum full w).1 (((wNum full w).2.left full).length + 1) : Nat) : Int)), S2) := by
    show (ev E0 K (n + 2)).f 49 [(wNum full w).2.at_.v r full, .ptr S1.next 0] S2 = _
    exact ev_read (c := C49) (d := B49) (by kernel_rfl) (by kernel_rfl) (annot_isOf C49 _ (by kernel_rfl)) hK.k49 (F49_spec (ev E0 K (n + 1)) r full (wNum full w).2.at_ hW2.ok hW2.fit S1.next _ hlt S2 on2 b2)
   obtain ⟨S3, c1, c2, c3, c4⟩ := F48_spec (ev E0 K (n + 2)) b r full (wNum full w).2 (.fn (.func 49) [] [.ptr S1.next 0]) _ S2 hW2 h49
   have h48 : (ev E0 K (n + 3)).f 48 [.ptr b 0, .fn (.func 49) [] [.ptr S1.next 0]] S2 = some (.ret _, S3) := ev_read (c := C48) (d := B48) (by kernel_rfl) (by kernel_rfl) (annot_isOf C48 _ (by kernel_rfl)) hK.k48 c1
   rw [h48, callP_ret]
   by_cases hbig : ((wNum full w).2.left full).length < (wNum full w).1
   · have hm : min (wNum full w).1 (((wNum full w).2.left full).length + 1) = ((wNum full w).2.left full).length + 1 := by omega
     rw [hm] at c2 ⊢
     unfold wOut
     unfold wTake at c2
     rw [if_pos (.inr (by omega))] at c2 ⊢
     rw [if_pos hbig, conv_nil, oB]
     exact ⟨S3, rfl, c2, (a3.trans (Grew.of0 b3)).trans c3⟩
   · have hm : min (wNum full w).1 (((wNum full w).2.left full).length + 1) = (wNum full w).1 := by omega
     rw [hm] at c2 ⊢
     unfold wOut
     rw [if_neg (by omega), if_neg hbig]
     obtain ⟨off, ha⟩ := lf_len (full := full) (a := (wNum full w).2.at_) (by unfold WSt.left at hbig; omega)
     rw [ha]
     simp only
     have hl : (wNum full w).2.left full = full.drop off := by unfold WSt.left; rw [ha]; rfl
     rw [hl] at hbig ⊢
     rw [List.length_drop] at hbig
     rw [conv_os c2.on ((hW2.src (by rw [ha]; trivial)).row.grew (hW2.src (by rw [ha]; trivial)).rlt (hW2.src (by rw [ha]; trivial)).ne c3) off _ (by omega), oB]
     exact ⟨S3, rfl, c2, (a3.trans (Grew.of0 b3)).trans c3⟩
theorem ok_run {K : FuncId → Option KF} (hK : WK K) (n b r : Nat) (full : List UInt8) (w : WSt) (S : St) (hW : WAt S b r full w) : (ev E0 K (n + 1)).f 53 [.ptr b 0] S = some (.ret (.bool (!w.lost)), S) := by
 refine ev_read (c := C53) (d := B53) (by kernel_rfl) (by kernel_rfl) (annot_isOf C53 _ (by kernel_rfl)) hK.k53 (?_ : F53 (ev E0 K n) rounds (.ptr b 0) S = _)
 rw [F53_eq, show binV E0 .neq 54 false true (.ptr b 0) .nilptr = some (.bool true) by kernel_rfl, oB, guardV_t, oB, cond_true, oB, oB, cond_true, show nilCheckV (.ptr b 0) = some (.ptr b 0) from rfl, oB, oB, cond_true, faP_ptr, oB, oB, cond_true, Nat.zero_add, hW.ldl, oB, oB, cond_true]
 dsimp only
 rw [unV_not, oB, pickV_bool, cond_true, oB]
theorem wend_run {K : FuncId → Option KF} (hK : WK K) (n b r : Nat) (full : List UInt8) (w : WSt) (S : St) (hW : WAt S b r full w) : (ev E0 K (n + 2)).f 30 [.ptr b 0] S = some (.ret (.bool (!w.lost && decide ((w.left full).length = 0))), S) := by
 refine ev_read (c := C30) (d := B30) (by kernel_rfl) (by kernel_rfl) (annot_isOf C30 _ (by kernel_rfl)) hK.k30 (?_ : F30 (ev E0 K (n + 1)) rounds (.ptr b 0) S = _)
 rw [F30_eq, ok_run hK n b r full w S hW, callP_ret, guardV_t, oB]
 cases w.lost with
 | true =>
  rw [Bool.not_true, cond_false, oB, oB, cond_false, oB, oB, cond_false, oB, oB, cond_false, oB, oB, cond_false, oB, oB, cond_false, oB, pickV_bool, cond_false, oB]
  rfl
 | false =>
  rw [Bool.not_false, cond_true, oB, oB, cond_true, show nilCheckV (.ptr b 0) = some (.ptr b 0) from rfl, oB, oB, cond_true, faP_ptr, oB, oB, cond_true, Nat.zero_add, hW.ld0, oB, oB, cond_true]
  dsimp only
  rw [lnS_lf _ hW.ok, oB, oB, cond_true]
  dsimp only
  rw [binV_ii, intsV_eql, oB, pickV_bool, cond_true, oB, Bool.true_and, show decide (((w.at_.left full).length : Int) = 0) = decide ((w.left full).length = 0) by rw [decide_eq_decide]; unfold WSt.left; omega]
noncomputable def wrongV : V := .iface 51 (vAgg [])
theorem must_run {K : FuncId → Option KF} (hK : WK K) (n : Nat) (c : Bool) (S : St) : (ev E0 K (n + 1)).f 27 [.bool c] S = some (if c = true then .ret (.tuple []) else .pan wrongV, S) := by
 refine ev_read (c := C27) (d := B27) (by kernel_rfl) (by kernel_rfl) (annot_isOf C27 _ (by kernel_rfl)) hK.k27 (?_ : F27 (ev E0 K n) rounds (.bool c) S = _)
 rw [F27_eq, unV_not, oB, ifK_bool]
 cases c with
 | true => rfl
 | false =>
  rw [Bool.not_false, cond_true, show buildV E0 51 [] = some (vAgg []) by kernel_rfl, oB]
  rfl
end Go.Proofs.Ythmkdoaaciamlaa.W
namespace Go.Proofs.Ythmkdoaaciamlaa.W
open Go.Proofs.Ythmkdoaaciamlaa.Ev
section
variable {s : St}
theorem nw_lg (ho : s.on = false) (l : List LE) (o : O) : nw (s.lg l) o = (nw s o).lg ({ b := s.next, lo := 0, hi := big, w := true } :: l) := by
 unfold nw
 rw [note_off ho, note_lg]
 rfl
theorem newCells_lg (ho : s.on = false) (l : List LE) (e z : Nat) (ts : List (Tr V)) : newCells (s.lg l) e z ts = (newCells s e z ts).lg ({ b := s.next, lo := 0, hi := big, w := true } :: l) := by
 unfold newCells
 exact nw_lg ho l _
theorem ap_first_lg (ho : s.on = false) (l0 : List LE) {b : Nat} {t : Tr V} (h : RowAt s b 24 5 [t]) : ∃ u l, apP 24 5 72 .nilslice (.slice b 0 1 1) (s.lg l0) = some (.oslice s.next 0 1 5, u.lg l) ∧ RowAt u s.next 24 5 [t] ∧ Grew (fun _ => False) s u ∧ u.next = s.next + 1 := by
 have hld := h.ldN ho 1 0 (by simp)
 simp only [Nat.zero_mul, List.drop_zero] at hld
 obtain ⟨_, l1, h1⟩ := ldN_lg ho b 5 1 0 hld l0
 refine ⟨newCells s 24 5 [t], { b := s.next, lo := 0, hi := big, w := true } :: l1, ?_, rowAt_newCells ho (by omega) (by unfold big; simp), grew_nw ho _ _, rfl⟩
 unfold apP
 simp only [lenV, oB, show Nat.blt ((0 + 1) * (72 + 5 + 1)) maxCells = true from rfl, cond_true]
 unfold appendV firstV
 simp only [h1, oB, show Nat.beq 1 0 = false from rfl, cond_false]
 rw [newCells_lg ho]
 rfl
theorem ap_more_lg (ho : s.on = false) (l0 : List LE) {b r : Nat} {t : Tr V} {l : List (Tr V)} (h : RowAt s b 24 5 [t]) (hr : RowAt s r 24 5 l) (hl : l.length ≤ 3000) : ∃ u l', apP 24 5 72 (.oslice r 0 l.length 5) (.slice b 0 1 1) (s.lg l0) = some (.oslice s.next 0 (l.length + 1) 5, u.lg l') ∧ RowAt u s.next 24 5 (l ++ [t]) ∧ Grew (fun x => x = r) s u ∧ u.next = s.next + 1 := by
 obtain ⟨c, hc1, hc2⟩ := hr.row
 have hfit := hr.fit
 have hld := h.ldN ho 1 0 (by simp)
 simp only [Nat.zero_mul, List.drop_zero] at hld
 obtain ⟨_, l1, h1⟩ := ldN_lg ho b 5 1 0 hld l0
 refine ⟨nw (s.put r .dead) (.cells 24 5 (l.length + 1) false (c.set t l.length)), ({ b := s.next, lo := 0, hi := big, w := true } :: { b := r, lo := 0, hi := big, w := true } :: { b := r, lo := big - 1, hi := big, w := false } :: l1), ?_, ?_, ?_, rfl⟩
 · unfold apP
   have hm : Nat.blt ((l.length + 1) * (72 + 5 + 1)) maxCells = true := by rw [blt_true]; unfold maxCells; omega
   simp only [lenV, oB, hm, cond_true]
   unfold appendV firstV
   simp only [h1, oB, show Nat.beq 5 5 = true from rfl, cond_true]
   unfold sizeB
   rw [show (s.lg l1).heap.get r = _ from hc1]
   have hb : Nat.ble (0 + (l.length + 1) * 5) (5 * l.length) = false := by
    cases hh : Nat.ble (0 + (l.length + 1) * 5) (5 * l.length) with
    | false => rfl
    | true => rw [ble_true] at hh; omega
   simp only [blt_true.2 hfit, cond_true, oB, note_lg, hb, cond_false]
   unfold growV
   rw [show (s.lg ({ b := r, lo := big - 1, hi := big, w := false } :: l1)).heap.get r = _ from hc1]
   simp only [show Nat.beq 24 24 = true from rfl, Bool.not_true, Bool.or_self, cond_false, show Nat.beq 5 5 = true from rfl, show Nat.beq 0 0 = true from rfl, Nat.beq_refl, blt_true.2 hfit, Bool.and_self, cond_true]
   rw [show List.take 1 [t] = [t] from rfl]
   unfold addLC addLC
   rw [Tr.setC_eq]
   unfold setO
   rw [note_lg, put_lg, nw_lg (s := s.put r .dead) ho]
   rfl
 · have hnx : (s.put r .dead).next = s.next := rfl
   have := rowAt_nw (s := s.put r .dead) (e := 24) (z := 5) (n := l.length + 1) (c := c.set t l.length) (l := l ++ [t]) ho (by omega) (by simp) (by unfold big; omega) fun i u h => by
    rw [Tr.get_set]
    by_cases hi : i = l.length
    · subst hi
      rw [if_pos rfl]
      simpa using h
    · rw [if_neg hi]
      have hlt := (List.getElem?_eq_some_iff.1 h).1
      rw [List.length_append, List.length_singleton] at hlt
      rw [List.getElem?_append_left (by omega)] at h
      exact hc2 i u h
   exact this
 · exact ⟨by show s.next ≤ s.next + 1; omega, (nw_on (s := s.put r .dead) ho _).trans ho.symm, fun x hx hw => by
    rw [nw_get, if_neg (by show x ≠ s.next; omega), put_get, if_neg hw]⟩
end
theorem pairs52 {n kb x y a c : Nat} (h1 : n ≠ x) (h2 : kb ≠ x) (h3 : y ≠ n) (l7 : List LE) :
 pairsOk [[], [], [], [⟨n, 4, 5, false⟩], [⟨kb, 0, 5, false⟩], [], [⟨x, 0, big, true⟩], l7, [], [⟨y, a, c, true⟩], [], [], [⟨n, 4, 5, true⟩]] [(3, [4, 6]), (4, [5, 6]), (5, [6]), (9, [12])] = true := by
 have e1 : Nat.beq n x = false := beq_false.2 h1
 have e2 : Nat.beq kb x = false := beq_false.2 h2
 have e3 : Nat.beq y n = false := beq_false.2 h3
 simp [pairsOk, clashAny, logOf, clash, clash1, meet, Nat.beq]
 exact ⟨e1, e2, e3⟩
theorem ld1On' {s : St} {b e : Nat} {l : List V} (h : Bx s b e l) (i : Nat) (hi : i < l.length) (hl : l.length < big) : Go.Proofs.Ythmkdoaaciamlaa.Ev.ld1 (.ptr b i) (onS s) = some (l[i], rd s b i 1) := by
 show ld (onS s) b i = _
 rw [Bx.ldb (s := onS s) h hi hl]; rfl
theorem kid_add {S : St} (ho : S.on = false) {n kb N0 : Nat} {v5 : V} {acc : List Nd} {y : Nd} (hn : Bx S n 24 (c5 [] 2 false [] v5)) (hk : Bx S kb 24 (cellsN y)) (hs : SliceIs S N0 v5 acc) (hN : N0 ≤ S.next) (hnN : n < N0) (hkb : kb < S.next) (hl : acc.length ≤ 3000) :
 ∃ S' v', (∀ K : St → Rs, ((ld1 (.ptr n 4) (onS S)).bind fun p53 =>
(ldA 5 (.ptr kb 0) (onS p53.2)).bind fun p54 =>
(lnS p53.1 (onS p54.2)).bind fun p55 =>
(bsP 24 5 1 (Tr.ofListFrom .nil [(sv []), (.int .i64 0), (.bool false), (sv []), .nilslice] 0) [(0, (vAgg [(sv []), (.int .i64 0), (.bool false), (sv []), .nilslice]))] (onS p55.2)).bind fun p56 =>
(apP 24 5 72 p53.1 p56.1 (onS p56.2)).bind fun p57 =>
(ixP 5 p57.1 p55.1).bind fun t58 =>
(stP 5 t58 p54.1 (onS p57.2)).bind fun p59 =>
(nilCheckV (.ptr n 0)).bind fun t60 =>
(faP 4 false 1 t60).bind fun t61 =>
(stP 1 t61 p57.1 (onS p59.2)).bind fun p62 =>
endP [(3, [4, 6]), (4, [5, 6]), (5, [6]), (9, [12])] S [[], [], [], p53.2.log, p54.2.log, p55.2.log, p56.2.log, p57.2.log, [], p59.2.log, [], [], p62.2.log] p62.2 K) = K S') ∧
  Bx S' n 24 (c5 [] 2 false [] v') ∧ SliceIs S' N0 v' (acc ++ [y]) ∧ Grew (fun x => x = n ∨ N0 ≤ x) S S' := by
 obtain ⟨S1, a1, a2, a3, a4⟩ := bsP_node ho (Tr.ofListFrom .nil [(sv []), (.int .i64 0), (.bool false), (sv []), .nilslice] 0) noN
 have on1 := a3.on.trans ho
 have hbs : bsP 24 5 1 (Tr.ofListFrom .nil [(sv []), (.int .i64 0), (.bool false), (sv []), .nilslice] 0) [(0, (vAgg [(sv []), (.int .i64 0), (.bool false), (sv []), .nilslice]))] (onS S) = some (.slice S.next 0 1 1, S1.lg [⟨S.next, 0, big, true⟩]) := by
  rw [noN, encN_c5] at a1
  unfold bsP at a1 ⊢
  simp only [oI, oS, pM] at a1
  obtain ⟨l, e1, _, e2⟩ := a1
  have e1' : fillE 1 5 (Tr.tab 1 1 fun _ => (Tr.ofListFrom .nil [(sv []), (.int .i64 0), (.bool false), (sv []), .nilslice] 0)) [(0, (vAgg [(sv []), (.int .i64 0), (.bool false), (sv []), .nilslice]))] = some l := e1
  rw [e1', oB, show onS S = S.lg [] from rfl, nw_lg ho, e2]
  rfl
 have hap : ∃ S2 l2, apP 24 5 72 v5 (.slice S.next 0 1 1) (S1.lg []) = some (.oslice S1.next 0 (acc.length + 1) 5, S2.lg l2) ∧ RowAt S2 S1.next 24 5 (acc.map treeN ++ [treeN noN]) ∧ Grew (fun x => N0 ≤ x) S1 S2 ∧ S2.next = S1.next + 1 := by
  rcases hs with ⟨rfl, rfl⟩ | ⟨hne, r, rfl, hr, hNr, hrn⟩
  · obtain ⟨u, l, k1, k2, k3, k4⟩ := ap_first_lg on1 [] a2
    exact ⟨u, l, k1, k2, Grew.of0 k3, k4⟩
  · obtain ⟨u, l, k1, k2, k3, k4⟩ := ap_more_lg on1 [] a2 (hr.grew hrn (fun h => h) a3) (by simpa using hl)
    rw [List.length_map] at k1
    exact ⟨u, l, k1, k2, k3.mono fun x _ hx => by rw [hx]; exact hNr, k4⟩
 obtain ⟨S2, l2, b1, b2, b3, b4⟩ := hap
 have on2 := b3.on.trans on1
 have hn2 := (hn.grew (by omega) (fun h => h) a3).grew (by omega) (by omega) b3
 obtain ⟨S3, c1, c2, c3, c4⟩ := b2.stK on2 (i := acc.length) (by simp) (treeN y)
 have on3 := c3.on.trans on2
 have hn3 := hn2.grew (by omega) (by omega) c3
 have hst3 : stP 5 (.ptr S1.next (0 + acc.length * 5)) (encN y) (S2.lg []) = some (.tuple [], S3.lg [⟨S1.next, acc.length * 5, acc.length * 5 + 5, true⟩]) := by
  rw [encN_tree, Nat.zero_add]
  show vu (stK (S2.lg []) S1.next (acc.length * 5) 5 (treeN y)) = _
  have : stK (S2.lg []) S1.next (acc.length * 5) 5 (treeN y) = some (S3.lg [⟨S1.next, acc.length * 5, acc.length * 5 + 5, true⟩]) := by
   unfold stK at c1 ⊢
   rw [show (S2.lg []).heap.get S1.next = S2.heap.get S1.next from rfl]
   split at c1
   · rename_i e esz m ro c hb
     try rw [hb]
     try simp only
     cases hc : (Nat.ble (acc.length * 5 + 5) (esz * m) && Nat.blt (esz * m) big && !ro) with
     | false => rw [hc] at c1; cases c1
     | true =>
      rw [hc] at c1
      simp only [cond_true, oI, oS] at c1 ⊢
      obtain ⟨c', hc', rfl⟩ := c1
      refine ⟨c', hc', ?_⟩
      rw [note_lg, put_lg, note_off on2]
   · cases c1
  rw [this]; rfl
 have hst4 := bx_st5 (i := 4) (v := .oslice S1.next 0 (acc.length + 1) 5) on3 hn3 rfl (m := c5 [] 2 false [] (.oslice S1.next 0 (acc.length + 1) 5)) rfl (by omega) (set5_4 _ _ _ _ _ _) rfl rfl rfl
 have hn4 := bx_put (s := S3) n 24 (c5 [] 2 false [] (.oslice S1.next 0 (acc.length + 1) 5))
 have g4 := grew_put (s := S3) n (bxO 24 (c5 [] 2 false [] (.oslice S1.next 0 (acc.length + 1) 5)))
 have n4 : (S3.put n (bxO 24 (c5 [] 2 false [] (.oslice S1.next 0 (acc.length + 1) 5)))).next = S3.next := rfl
 have hlog4 : stP 1 (.ptr n 4) (.oslice S1.next 0 (acc.length + 1) 5) (S3.lg []) = some (.tuple [], (S3.put n (bxO 24 (c5 [] 2 false [] (.oslice S1.next 0 (acc.length + 1) 5)))).lg [⟨n, 4, 5, true⟩]) := by
  generalize hS4 : S3.put n (bxO 24 (c5 [] 2 false [] (.oslice S1.next 0 (acc.length + 1) 5))) = S4 at hst4
  have h1 : vu (stK S3 n 4 1 (one (.oslice S1.next 0 (acc.length + 1) 5))) = some (.tuple [], S4) := hst4
  show vu (stK (S3.lg []) n 4 1 (one (.oslice S1.next 0 (acc.length + 1) 5))) = _
  cases hk : stK S3 n 4 1 (one (.oslice S1.next 0 (acc.length + 1) 5)) with
  | none => rw [hk] at h1; cases h1
  | some S4' =>
   rw [hk] at h1
   have e4 : S4' = S4 := by
    have : some (V.tuple [], S4') = some (V.tuple [], S4) := h1
    simpa using this
   subst e4
   have : stK (S3.lg []) n 4 1 (one (.oslice S1.next 0 (acc.length + 1) 5)) = some (S4'.lg [⟨n, 4, 5, true⟩]) := by
    unfold stK at hk ⊢
    rw [show (S3.lg []).heap.get n = S3.heap.get n from rfl]
    split at hk
    · rename_i e esz m ro c hb
      try rw [hb]
      try simp only
      cases hc : (Nat.ble (4 + 1) (esz * m) && Nat.blt (esz * m) big && !ro) with
      | false => rw [hc] at hk; cases hk
      | true =>
       rw [hc] at hk
       simp only [cond_true, oI, oS] at hk ⊢
       obtain ⟨c', hc', h⟩ := hk
       refine ⟨c', hc', ?_⟩
       rw [note_lg, put_lg, ← h, note_off on3]
    · cases hk
   rw [this]; rfl
 generalize S3.put n (bxO 24 (c5 [] 2 false [] (.oslice S1.next 0 (acc.length + 1) 5))) = S4 at hst4 hn4 g4 n4 hlog4
 have on4 := g4.on.trans on3
 obtain ⟨r1, r2, r3⟩ := relog_lg ho [⟨n, 4, 5, true⟩] [[], [], [], (rd S n 4 1).log, (rd S kb 0 5).log, (onS S).log, (S1.lg [⟨S.next, 0, big, true⟩]).log, (S2.lg l2).log, [], (S3.lg [⟨S1.next, acc.length * 5, acc.length * 5 + 5, true⟩]).log, [], [], (S4.lg [⟨n, 4, 5, true⟩]).log] on4
 refine ⟨relog S (S4.lg [⟨n, 4, 5, true⟩]) [[], [], [], (rd S n 4 1).log, (rd S kb 0 5).log, (onS S).log, (S1.lg [⟨S.next, 0, big, true⟩]).log, (S2.lg l2).log, [], (S3.lg [⟨S1.next, acc.length * 5, acc.length * 5 + 5, true⟩]).log, [], [], (S4.lg [⟨n, 4, 5, true⟩]).log], .oslice S1.next 0 (acc.length + 1) 5, fun K => ?_, ?_, ?_, ?_⟩
 · rw [ld1On' hn 4 (by rw [c5_len]; omega) (by rw [c5_len]; exact big5), oB]
   dsimp only
   rw [onS_rd, Bx.ldAOn (n := 5) hk rfl big5, oB]
   dsimp only
   rw [onS_rd, show (c5 [] 2 false [] v5)[4]'(by rw [c5_len]; omega) = v5 from rfl]
   have hln : lnS v5 (onS S) = some (.int .i64 (acc.length : Int), onS S) := by
    rcases hs with ⟨rfl, rfl⟩ | ⟨_, r, rfl, _⟩ <;> rfl
   rw [hln, oB]
   dsimp only
   rw [onS_onS, hbs, oB]
   dsimp only
   rw [onS_of_lg, onS_lg, b1, oB]
   dsimp only
   rw [show ixP 5 (.oslice S1.next 0 (acc.length + 1) 5) (.int .i64 (acc.length : Int)) = some (.ptr S1.next (0 + acc.length * 5)) by
    unfold ixP
    rw [natOf_cast, oB]
    unfold elemPtr
    simp only [blt_true.2 (show acc.length < acc.length + 1 by omega), cond_true], oB, onS_of_lg, onS_lg, ← encN_cells, hst3, oB]
   dsimp only
   rw [show nilCheckV (.ptr n 0) = some (.ptr n 0) from rfl, oB, faP_ptr, oB, Nat.zero_add, onS_of_lg, onS_lg, hlog4, oB]
   dsimp only
   refine endP_of ?_
   exact pairs52 (n := n) (kb := kb) (x := S.next) (y := S1.next) (a := acc.length * 5) (c := acc.length * 5 + 5) (by omega) (by omega) (by omega) l2
 · show (relog S _ _).heap.get n = _
   rw [r1]; exact hn4
 · refine .inr ⟨by simp, S1.next, by rw [List.length_append]; rfl, ?_, by omega, by rw [r2]; omega⟩
   have hrow := c2.grew (by omega) (by omega) g4
   rw [show (List.map treeN acc ++ [treeN noN]).set acc.length (treeN y) = acc.map treeN ++ [treeN y] by simp [List.set_append]] at hrow
   rw [List.map_append]
   exact hrow.same r1
 · have gg : Grew (fun x => x = n ∨ N0 ≤ x) S S4 := (Grew.of0 a3).trans ((b3.mono fun x _ hx => .inr hx).trans ((c3.mono fun x _ hx => .inr (by omega)).trans (g4.mono fun x _ hx => .inl hx)))
   exact ⟨by rw [r2]; exact gg.next, by rw [r3, ho], fun x hx hw => by rw [r1]; exact gg.keep x hx hw⟩
end Go.Proofs.Ythmkdoaaciamlaa.W
namespace Go.Proofs.Ythmkdoaaciamlaa.W
open Go.Proofs.Ythmkdoaaciamlaa.Ev
abbrev Wn := Option Nd × Nat × WSt
def fileW (full : List UInt8) (dp : Nat) (w : WSt) : Wn := if (wNum full w).1 ≤ 1 then (some (.mk [] 1 (decide ((wNum full w).1 = 1)) (wText full (wNum full w).2).1 []), dp, (wText full (wNum full w).2).2) else (none, dp, (wNum full w).2)
def linkW (full : List UInt8) (dp : Nat) (w : WSt) : Wn := (some (.mk [] 3 false (wText full w).1 []), dp, (wText full w).2)
def kidsW (f : WSt → Wn) (full : List UInt8) (dp : Nat) : Nat → WSt → List Nd → Option (List Nd) × Nat × WSt
 | 0, w, acc => (some acc, dp, w)
 | n + 1, w, acc => match f (wText full w).2 with
  | (none, e, w') => (none, e, w')
  | (some y, _, w') => kidsW f full dp n w' (acc ++ [nameIt y (wText full w).1])
def dirW (f : Option (WSt → Wn)) (full : List UInt8) (dp : Nat) (w : WSt) : Wn := match f with
 | none => (none, dp, (wNum full w).2)
 | some f => if 2000 < (wNum full w).1 then (none, dp, (wNum full w).2) else match kidsW f full (dp + 1) (wNum full w).1 (wNum full w).2 [] with
  | (none, e, w') => (none, e, w')
  | (some l, _, w') => (some (.mk [] 2 false [] l), dp, w')
def notLost : Wn → Wn
 | (some y, e, w) => if w.lost = true then (none, e, w) else (some y, e, w)
 | x => x
def oneW (f : Option (WSt → Wn)) (full : List UInt8) (dp : Nat) (w : WSt) : Wn :=
 notLost (if (wNum full w).1 = 1 then fileW full dp (wNum full w).2 else if (wNum full w).1 = 3 then linkW full dp (wNum full w).2 else if (wNum full w).1 = 2 then dirW f full dp (wNum full w).2 else (none, dp, (wNum full w).2))
def readW (full : List UInt8) : Nat → WSt → Wn
 | 0 => oneW none full 13
 | d + 1 => oneW (some (readW full d)) full (13 - (d + 1))
structure Wdg (e : EV) : Prop where
 num : ∀ (b r : Nat) (full : List UInt8) (w : WSt) (S : St), WAt S b r full w → WOk (e.f 47 [.ptr b 0] S) S b r full (.int .u64 ((wNum full w).1 : Int)) (wNum full w).2
 text : ∀ (b r : Nat) (full : List UInt8) (w : WSt) (S : St), b < S.next → WAt S b r full w → ∃ S', e.f 28 [.ptr b 0] S = some (.ret (sv (wText full w).1), S') ∧ WAt S' b r full (wText full w).2 ∧ Grew (fun x => x = b) S S'
 ok : ∀ (b r : Nat) (full : List UInt8) (w : WSt) (S : St), WAt S b r full w → e.f 53 [.ptr b 0] S = some (.ret (.bool (!w.lost)), S)
 must : ∀ (c : Bool) (S : St), e.f 27 [.bool c] S = some (if c = true then .ret (.tuple []) else .pan wrongV, S)
theorem wdg_known {K : FuncId → Option KF} (hK : WK K) (n : Nat) : Wdg (ev E0 K (n + 4)) where
 num b r full w S h := num_run hK (n + 1) b r full w S h
 text b r full w S hb h := text_run hK n b r full w S hb h
 ok b r full w S h := ok_run hK (n + 3) b r full w S h
 must c S := must_run hK (n + 3) c S
abbrev CAt (S : St) (c b dp : Nat) : Prop := Bx S c 57 [.ptr b 0, .int .i64 (dp : Int)]
structure Frame (S : St) (c b n : Nat) : Prop where
 cb : c ≠ b
 bn : b < n
 cn : c < n
 nS : n < S.next
def Touch (c b n : Nat) (x : Nat) : Prop := x = b ∨ x = c ∨ n ≤ x
def GOk (x : Rs) (S : St) (c b r n N0 : Nat) (full : List UInt8) (p : Wn) : Prop :=
 (p.1 = none → ∃ S', x = some (.pan wrongV, S') ∧ WAt S' b r full p.2.2 ∧ CAt S' c b p.2.1 ∧ Grew (Touch c b n) S S') ∧
 (∀ y, p.1 = some y → ∃ S' k e d v5 acc, x = some (.ret (.tuple []), S') ∧ y = .mk [] k e d acc ∧ WAt S' b r full p.2.2 ∧ CAt S' c b p.2.1 ∧ Bx S' n 24 (c5 [] k e d v5) ∧ SliceIs S' N0 v5 acc ∧ Grew (Touch c b n) S S')
section
variable {S : St}
theorem CAt.ld0 (ho : S.on = false) {c b dp : Nat} (h : CAt S c b dp) : ld1 (.ptr c 0) S = some (.ptr b 0, S) := Bx.ld1 ho h 0 (by show 0 < 2; decide) big2
theorem CAt.ldd (ho : S.on = false) {c b dp : Nat} (h : CAt S c b dp) : ld1 (.ptr c 1) S = some (.int .i64 (dp : Int), S) := Bx.ld1 ho h 1 (by show 1 < 2; decide) big2
end
theorem not_pos {full : List UInt8} {w : WSt} (h : ¬ w.at_.isPos) : w.left full = [] := by
 unfold WSt.left
 cases ha : w.at_ with
 | pos off => rw [ha] at h; exact absurd trivial h
 | empty => rfl
 | nil => rfl
theorem wNum_none {full : List UInt8} {w : WSt} (h : w.left full = []) : wNum full w = (0, ⟨.nil, true⟩) := by
 unfold wNum
 rw [h, show rowK ([] : List UInt8) = 0 from rfl]
 rfl
theorem wText_none {full : List UInt8} {w : WSt} (h : w.left full = []) : wText full w = ([], ⟨.nil, true⟩) := by
 unfold wText
 rw [wNum_none h]
 rfl
theorem wNum_pos {full : List UInt8} {w : WSt} (h : (wNum full w).2.at_.isPos) : w.at_.isPos := by
 rcases Classical.em w.at_.isPos with h1 | h1
 · exact h1
 · rw [wNum_none (not_pos h1)] at h; exact h.elim
theorem wText_pos {full : List UInt8} {w : WSt} (h : (wText full w).2.at_.isPos) : w.at_.isPos := by
 rcases Classical.em w.at_.isPos with h1 | h1
 · exact h1
 · rw [wText_none (not_pos h1)] at h; exact h.elim
theorem F50_spec (self : EV) (hW : Wdg self) (c b r n N0 dp : Nat) (full : List UInt8) (w : WSt) (S : St) (hf : Frame S c b n) (h : WAt S b r full w) (hc : CAt S c b dp) (hn : Bx S n 24 (c5 [] 1 false [] .nilslice)) (hrn : w.at_.isPos → r < n) :
 GOk (F50 self rounds (.ptr c 0) (.ptr n 0) S) S c b r n N0 full (fileW full dp w) := by
 obtain ⟨cb, bn, cn, nS⟩ := hf
 obtain ⟨S1, a1, a2, a3, a4⟩ := hW.num b r full w S h
 have hc1 : CAt _ c b dp := hc.grew (by omega) (by omega) a3
 have hn1 := hn.grew (by omega) (by omega) a3
 have hF := F50_eq self rounds (.ptr c 0) (.ptr n 0) S
 rw [show nilCheckV (.ptr c 0) = some (.ptr c 0) from rfl, oB, faP_ptr, oB, Nat.zero_add, hc.ld0 h.on, oB] at hF
 dsimp only at hF
 rw [a1, callP_ret, binV_ii, intsV_leq, oB, hW.must] at hF
 unfold fileW
 by_cases h1 : (wNum full w).1 ≤ 1
 · rw [if_pos h1]
   rw [decide_eq_true (show ((wNum full w).1 : Int) ≤ 1 by omega), if_pos rfl, callP_ret, binV_ii, intsV_eql, oB, oB, faP_ptr, oB, Nat.zero_add, hc1.ld0 a2.on, oB] at hF
   dsimp only at hF
   obtain ⟨S2, b1, b2, b3⟩ := hW.text b r full (wNum full w).2 S1 (by omega) a2
   have hc2 : CAt _ c b dp := hc1.grew (by omega) (by omega) b3
   have hn2 := hn1.grew (by omega) (by omega) b3
   have n2 := b3.next
   have hst := bx_st5 (i := 2) (v := .bool (decide (((wNum full w).1 : Int) = 1))) b2.on hn2 rfl (m := c5 [] 1 (decide (((wNum full w).1 : Int) = 1)) [] .nilslice) rfl (by omega) (set5_2 _ _ _ _ _ _) rfl rfl rfl
   have g3 := grew_put (s := S2) n (bxO 24 (c5 [] 1 (decide (((wNum full w).1 : Int) = 1)) [] .nilslice))
   have hn3 := bx_put (s := S2) n 24 (c5 [] 1 (decide (((wNum full w).1 : Int) = 1)) [] .nilslice)
   generalize S2.put n (bxO 24 (c5 [] 1 (decide (((wNum full w).1 : Int) = 1)) [] .nilslice)) = S3 at hst g3 hn3
   have hw3 := b2.grew (by omega) (by omega) (fun hp _ _ => by have := hrn (wNum_pos (wText_pos hp)); omega) g3
   have n3 := g3.next
   have hst4 := bx_st5 (i := 3) (v := sv (wText full (wNum full w).2).1) hw3.on hn3 rfl (m := c5 [] 1 (decide (((wNum full w).1 : Int) = 1)) (wText full (wNum full w).2).1 .nilslice) rfl (by omega) (set5_3 _ _ _ _ _ _) rfl rfl rfl
   have g4 := grew_put (s := S3) n (bxO 24 (c5 [] 1 (decide (((wNum full w).1 : Int) = 1)) (wText full (wNum full w).2).1 .nilslice))
   have hn4 := bx_put (s := S3) n 24 (c5 [] 1 (decide (((wNum full w).1 : Int) = 1)) (wText full (wNum full w).2).1 .nilslice)
   generalize S3.put n (bxO 24 (c5 [] 1 (decide (((wNum full w).1 : Int) = 1)) (wText full (wNum full w).2).1 .nilslice)) = S4 at hst4 g4 hn4
   refine ⟨fun h => (by cases h), fun y hy => ?_⟩
   simp only [oS] at hy
   subst hy
   refine ⟨S4, 1, decide (((wNum full w).1 : Int) = 1), (wText full (wNum full w).2).1, .nilslice, [], ?_, by rw [show decide ((wNum full w).1 = 1) = decide (((wNum full w).1 : Int) = 1) by rw [decide_eq_decide]; omega], hw3.grew (by omega) (by omega) (fun hp _ _ => by have := hrn (wNum_pos (wText_pos hp)); omega) g4, (hc2.grew (by omega) (by omega) g3).grew (by omega) (by omega) g4, hn4, .inl ⟨rfl, rfl⟩,
    (a3.mono fun x _ hx => .inl hx).trans ((b3.mono fun x _ hx => .inl hx).trans ((g3.mono fun x _ hx => .inr (.inr (by omega))).trans (g4.mono fun x _ hx => .inr (.inr (by omega)))))⟩
   rw [hF, b1, callP_ret, show nilCheckV (.ptr n 0) = some (.ptr n 0) from rfl, oB, faP_ptr, oB, Nat.zero_add, hst, oB, oB, faP_ptr, oB, Nat.zero_add]
   dsimp only
   rw [hst4, oB]
 · rw [if_neg h1]
   rw [decide_eq_false (show ¬ ((wNum full w).1 : Int) ≤ 1 by omega), if_neg (by simp), callP_pan] at hF
   refine ⟨fun _ => ⟨S1, hF, a2, hc1, a3.mono fun x _ hx => .inl hx⟩, fun y hy => (by cases hy)⟩
theorem F51_spec (self : EV) (hW : Wdg self) (c b r n N0 dp : Nat) (full : List UInt8) (w : WSt) (S : St) (hf : Frame S c b n) (h : WAt S b r full w) (hc : CAt S c b dp) (hn : Bx S n 24 (c5 [] 3 false [] .nilslice)) (hrn : w.at_.isPos → r < n) :
 GOk (F51 self rounds (.ptr c 0) (.ptr n 0) S) S c b r n N0 full (linkW full dp w) := by
 obtain ⟨cb, bn, cn, nS⟩ := hf
 obtain ⟨S1, a1, a2, a3⟩ := hW.text b r full w S (by omega) h
 have hc1 : CAt _ c b dp := hc.grew (by omega) (by omega) a3
 have hn1 := hn.grew (by omega) (by omega) a3
 have n1 := a3.next
 have hst := bx_st5 (i := 3) (v := sv (wText full w).1) a2.on hn1 rfl (m := c5 [] 3 false (wText full w).1 .nilslice) rfl (by omega) (set5_3 _ _ _ _ _ _) rfl rfl rfl
 have g2 := grew_put (s := S1) n (bxO 24 (c5 [] 3 false (wText full w).1 .nilslice))
 have hn2 := bx_put (s := S1) n 24 (c5 [] 3 false (wText full w).1 .nilslice)
 generalize S1.put n (bxO 24 (c5 [] 3 false (wText full w).1 .nilslice)) = S2 at hst g2 hn2
 refine ⟨fun h => (by cases h), fun y hy => ?_⟩
 simp only [linkW, oS] at hy
 subst hy
 have hw2 := a2.grew (by omega) (by omega) (fun hp _ _ => by have := hrn (wText_pos hp); omega) g2
 refine ⟨S2, 3, false, (wText full w).1, .nilslice, [], ?_, rfl, hw2, hc1.grew (by omega) (by omega) g2, hn2, .inl ⟨rfl, rfl⟩, (a3.mono fun x _ hx => .inl hx).trans (g2.mono fun x _ hx => .inr (.inr (by omega)))⟩
 rw [F51_eq, show nilCheckV (.ptr c 0) = some (.ptr c 0) from rfl, oB, faP_ptr, oB, Nat.zero_add, hc.ld0 h.on, oB]
 dsimp only
 rw [a1, callP_ret, show nilCheckV (.ptr n 0) = some (.ptr n 0) from rfl, oB, faP_ptr, oB, Nat.zero_add, hst, oB]
end Go.Proofs.Ythmkdoaaciamlaa.W
namespace Go.Proofs.Ythmkdoaaciamlaa.W
open Go.Proofs.Ythmkdoaaciamlaa.Ev
theorem kidsW_pos {f : WSt → Wn} {full : List UInt8} (hf : ∀ w, (f w).2.2.at_.isPos → w.at_.isPos) (dp : Nat) : ∀ (n : Nat) (w : WSt) (acc : List Nd), (kidsW f full dp n w acc).2.2.at_.isPos → w.at_.isPos
 | 0, w, acc, h => h
 | n + 1, w, acc, h => by
  rw [kidsW] at h
  have h1 := hf (wText full w).2
  split at h
  · rename_i e w' hw
    rw [hw] at h1
    exact wText_pos (h1 h)
  · rename_i y e w' hw
    rw [hw] at h1
    exact wText_pos (h1 (kidsW_pos hf dp n w' _ h))
theorem notLost_st (p : Wn) : (notLost p).2.2 = p.2.2 ∧ (notLost p).2.1 = p.2.1 := by
 obtain ⟨o, e, w⟩ := p
 cases o with
 | none => exact ⟨rfl, rfl⟩
 | some y =>
  rw [notLost]
  split <;> exact ⟨rfl, rfl⟩
theorem oneW_pos {f : Option (WSt → Wn)} {full : List UInt8} (hf : ∀ g, f = some g → ∀ w, (g w).2.2.at_.isPos → w.at_.isPos) (dp : Nat) (w : WSt) (h : (oneW f full dp w).2.2.at_.isPos) : w.at_.isPos := by
 unfold oneW at h
 rw [(notLost_st _).1] at h
 split at h
 · unfold fileW at h
   split at h
   · exact wNum_pos (wNum_pos (wText_pos h))
   · exact wNum_pos (wNum_pos h)
 · split at h
   · exact wNum_pos (wText_pos h)
   · split at h
     · unfold dirW at h
       split at h
       · exact wNum_pos (wNum_pos h)
       · rename_i g
         split at h
         · exact wNum_pos (wNum_pos h)
         · have hk := kidsW_pos (full := full) (hf g rfl) (dp + 1) (wNum full (wNum full w).2).1 (wNum full (wNum full w).2).2 []
           split at h
           · rename_i e w' hw
             rw [hw] at hk
             exact wNum_pos (wNum_pos (hk h))
           · rename_i l e w' hw
             rw [hw] at hk
             exact wNum_pos (wNum_pos (hk h))
     · exact wNum_pos h
theorem readW_pos (full : List UInt8) : ∀ (d : Nat) (w : WSt), (readW full d w).2.2.at_.isPos → w.at_.isPos
 | 0, w, h => oneW_pos (fun g hg => by cases hg) _ w h
 | d + 1, w, h => oneW_pos (fun g hg => by cases hg; exact readW_pos full d) _ w h
theorem oneW_dp {f : Option (WSt → Wn)} {full : List UInt8} {dp : Nat} {w : WSt} {y : Nd} (h : (oneW f full dp w).1 = some y) : (oneW f full dp w).2.1 = dp := by
 have key : ∀ p : Wn, (notLost p).1 = some y → p.1 = some y := fun p hp => by
  obtain ⟨o, e, w⟩ := p
  cases o with
  | none => exact hp
  | some z =>
   rw [notLost] at hp
   split at hp
   · cases hp
   · exact hp
 unfold oneW at h ⊢
 rw [(notLost_st _).2]
 have h := key _ h
 split at h
 · rename_i hc
   rw [if_pos hc]
   unfold fileW
   split <;> rfl
 · rename_i hc
   rw [if_neg hc]
   split at h
   · rename_i hc
     rw [if_pos hc]; rfl
   · rename_i hc
     rw [if_neg hc]
     split at h
     · rename_i hc
       rw [if_pos hc]
       unfold dirW at h ⊢
       split
       · rfl
       · split
         · rfl
         · rename_i hb
           simp only at h
           rw [if_neg hb] at h
           split
           · rename_i hw
             rw [hw] at h
             cases h
           · rfl
     · cases h
theorem readW_dp (full : List UInt8) (d : Nat) (hd : d ≤ 13) (w : WSt) (y : Nd) (h : (readW full d w).1 = some y) : (readW full d w).2.1 = 13 - d := by
 cases d with
 | zero => exact oneW_dp h
 | succ d => exact oneW_dp h
noncomputable def outWn : Option Nd → En
 | some y => .ret (encN y)
 | none => .pan wrongV
def NodeCall (e : EV) (c b r m : Nat) (full : List UInt8) : Prop := ∀ (w : WSt) (S : St), WAt S b r full w → CAt S c b (13 - m) → c < S.next → b < S.next →
 ∃ S', e.f 29 [.ptr c 0] S = some (outWn (readW full m w).1, S') ∧ WAt S' b r full (readW full m w).2.2 ∧ CAt S' c b (readW full m w).2.1 ∧ Grew (fun x => x = b ∨ x = c) S S' ∧ S'.next = S.next
theorem L52_spec (self : EV) (hW : Wdg self) (N : Nat) (nk : Ac → St → Rs) (ek : Nat → Ac → St → Rs) (c b r n N0 m : Nat) (hm : m ≤ 12) (full : List UInt8) (cb : c ≠ b) (bn : b < n) (cn : c < n) (nN : n < N0) (h29 : NodeCall self c b r m full) (k : Nat) (hk : k ≤ 2000) :
 ∀ (rest i fuel : Nat) (w : WSt) (acc : List Nd) (v5 : V) (S : St), i + rest = k → rest < fuel → acc.length = i → WAt S b r full w → CAt S c b (13 - m) → Bx S n 24 (c5 [] 2 false [] v5) → SliceIs S N0 v5 acc → N0 ≤ S.next → (w.at_.isPos → r < n) →
 ∀ o e w', kidsW (readW full m) full (13 - m) rest w acc = (o, e, w') →
  (o = none → ∃ S', L52_35 self N nk ek fuel (.ptr c 0) (.ptr n 0) (.int .u64 (k : Int)) (.int .u64 (i : Int)) S = some (.pan wrongV, S') ∧ WAt S' b r full w' ∧ CAt S' c b e ∧ Grew (Touch c b n) S S') ∧
  (∀ l, o = some l → ∃ S' v', L52_35 self N nk ek fuel (.ptr c 0) (.ptr n 0) (.int .u64 (k : Int)) (.int .u64 (i : Int)) S = ek 0 (fr 60 [(0, .ptr c 0)]) S' ∧ WAt S' b r full w' ∧ CAt S' c b (13 - m) ∧ Bx S' n 24 (c5 [] 2 false [] v') ∧ SliceIs S' N0 v' l ∧ N0 ≤ S'.next ∧ Grew (Touch c b n) S S')
 | rest, i, 0, w, acc, v5, S, _, hf, _, _, _, _, _, _, _, _, _, _, _ => by omega
 | 0, i, fuel + 1, w, acc, v5, S, hi, hf, hacc, h, hc, hn, hs, hN, hrn, o, e, w', hk' => by
  rw [kidsW] at hk'
  simp only [pM] at hk'
  obtain ⟨rfl, rfl, rfl⟩ := hk'
  refine ⟨fun h => (by cases h), fun l hl => ?_⟩
  simp only [oS] at hl
  subst hl
  refine ⟨S, v5, ?_, h, hc, hn, hs, hN, Grew.refl _ _⟩
  rw [L52_35_eq, binV_ii, intsV_lss, dec_ge (by omega), oB, ifK_bool, cond_false]
 | rest + 1, i, fuel + 1, w, acc, v5, S, hi, hf, hacc, h, hc, hn, hs, hN, hrn, o, e, w', hk' => by
  obtain ⟨S1, a1, a2, a3⟩ := hW.text b r full w S (by omega) h
  have n1 := a3.next
  have hc1 : CAt S1 c b (13 - m) := hc.grew (by omega) (by omega) a3
  have hn1 := hn.grew (by omega) (by omega) a3
  have hs1 := hs.grew (fun r h1 h2 => by omega) a3
  obtain ⟨S2, d1, d2, d3, d4, d5⟩ := h29 (wText full w).2 S1 a2 hc1 (by omega) (by omega)
  have hn2 := hn1.grew (by omega) (by omega) d4
  have hs2 := hs1.grew (fun r h1 h2 => by omega) d4
  have hL := L52_35_eq self N nk ek fuel (.ptr c 0) (.ptr n 0) (.int .u64 (k : Int)) (.int .u64 (i : Int)) S
  rw [binV_ii, intsV_lss, dec_lt (by omega), oB, ifK_bool, cond_true, show nilCheckV (.ptr c 0) = some (.ptr c 0) from rfl, oB, faP_ptr, oB, Nat.zero_add, hc.ld0 h.on, oB] at hL
  dsimp only at hL
  rw [a1, callP_ret, d1] at hL
  have gW : Grew (Touch c b n) S S2 := (a3.mono fun x _ hx => .inl hx).trans (d4.mono fun x _ hx => by rcases hx with hx | hx; exact .inl hx; exact .inr (.inl hx))
  rw [kidsW] at hk'
  have hpos := readW_pos full m (wText full w).2
  cases ho : readW full m (wText full w).2 with
  | mk o1 p1 =>
   obtain ⟨e1, w1⟩ := p1
   have hdp := readW_dp full m (by omega) (wText full w).2
   rw [ho] at hk' hL d2 d3 hpos hdp
   simp only at d2 d3 hpos hdp
   cases o1 with
   | none =>
    simp only [pM] at hk'
    obtain ⟨rfl, rfl, rfl⟩ := hk'
    simp only [outWn, callP_pan] at hL
    exact ⟨fun _ => ⟨S2, hL, d2, d3, gW⟩, fun l hl => (by cases hl)⟩
   | some y =>
    simp only at hk'
    have he1 := hdp y rfl
    subst he1
    simp only [outWn, callP_ret, oB, nwP_fst] at hL
    obtain ⟨S3, x1, x2, x3, x4⟩ := node_new d2.on (Tr.ofListFrom .nil [(sv []), (.int .i64 0), (.bool false), (sv []), .nilslice] 0) y
    have hw3 := d2.grew (by omega) (fun h => h) (fun _ _ _ h => h) x3
    have hc3 : CAt S3 c b (13 - m) := d3.grew (by omega) (fun h => h) x3
    have hn3 := hn2.grew (by omega) (fun h => h) x3
    have hs3 := hs2.grew (fun _ _ _ h => h) x3
    have hst := bx_st5 (i := 0) (v := sv (wText full w).1) hw3.on x2.bx (by rfl) (m := cellsN (nameIt y (wText full w).1)) (by rfl) (by omega) (set5_0 _ _ _ _ _ _) rfl rfl rfl
    have g4 := grew_put (s := S3) S2.next (bxO 24 (cellsN (nameIt y (wText full w).1)))
    have hk4 := bx_put (s := S3) S2.next 24 (cellsN (nameIt y (wText full w).1))
    have e4 : (S3.put S2.next (bxO 24 (cellsN (nameIt y (wText full w).1)))).next = S3.next := rfl
    generalize S3.put S2.next (bxO 24 (cellsN (nameIt y (wText full w).1))) = S4 at hst g4 hk4 e4
    have hw4 := hw3.grew (by omega) (by omega) (fun hp _ _ => by have := hrn (wText_pos (hpos hp)); omega) g4
    have hc4 : CAt S4 c b (13 - m) := hc3.grew (by omega) (by omega) g4
    have hn4 := hn3.grew (by omega) (by omega) g4
    have hs4 : SliceIs S4 N0 v5 acc := by
     rcases hs2 with h | ⟨h1, r, h2, h3, h4, h5⟩
     · exact .inl h
     · exact .inr ⟨h1, r, h2, (h3.grew h5 (fun h => h) x3).grew (by omega) (by omega) g4, h4, by omega⟩
    obtain ⟨S5, v', u1, u2, u3, u4⟩ := kid_add hw4.on hn4 hk4 hs4 (by omega) nN (by omega) (by omega)
    have u4n := u4.next
    have hw5 := hw4.grew (by omega) (by omega) (fun hp _ _ => by have := hrn (wText_pos (hpos hp)); omega) u4
    have hc5 : CAt S5 c b (13 - m) := hc4.grew (by omega) (by omega) u4
    rw [x1, oB] at hL
    dsimp only at hL
    rw [faP_ptr, oB, Nat.zero_add, hst, oB] at hL
    dsimp only at hL
    have step : L52_35 self N nk ek (fuel + 1) (.ptr c 0) (.ptr n 0) (.int .u64 (k : Int)) (.int .u64 (i : Int)) S = L52_35 self N nk ek fuel (.ptr c 0) (.ptr n 0) (.int .u64 (k : Int)) (.int .u64 ((i + 1 : Nat) : Int)) S5 := by
     rw [hL, show nilCheckV (.ptr n 0) = some (.ptr n 0) from rfl, oB, faP_ptr, oB, Nat.zero_add]
     refine Eq.trans (u1 _) ?_
     rw [binV_ii, intsV_add, show (i : Int) + 1 = ((i + 1 : Nat) : Int) by omega, wrap_u64 (by omega) (by omega), oB]
    have gS : Grew (Touch c b n) S S5 := (gW.trans (Grew.of0 x3)).trans ((g4.mono fun x _ hx => .inr (.inr (by omega))).trans (u4.mono fun x _ hx => .inr (.inr (by omega))))
    rw [step]
    obtain ⟨c1, c2⟩ := L52_spec self hW N nk ek c b r n N0 m hm full cb bn cn nN h29 k hk rest (i + 1) fuel w1 (acc ++ [nameIt y (wText full w).1]) v' S5 (by omega) (by omega) (by rw [List.length_append, hacc]; rfl) hw5 hc5 u2 u3 (by omega) (fun hp => hrn (wText_pos (hpos hp))) o e w' hk'
    refine ⟨fun h => ?_, fun l h => ?_⟩
    · obtain ⟨S', q1, q2, q3, q4⟩ := c1 h
      exact ⟨S', q1, q2, q3, gS.trans q4⟩
    · obtain ⟨S', v'', q1, q2, q3, q4, q5, q6, q7⟩ := c2 l h
      exact ⟨S', v'', q1, q2, q3, q4, q5, q6, gS.trans q7⟩
end Go.Proofs.Ythmkdoaaciamlaa.W
