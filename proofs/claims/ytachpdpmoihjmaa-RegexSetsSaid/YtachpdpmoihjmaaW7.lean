/-
  WHAT THE FUNCTIONS COME TO: each is read by the evaluator, printed, and told as a function of data, part 7 of 7 (no condition).
-/
import Derived.Test.YtachpdpmoihjmaaW6
import Derived.WalkKit
import Derived.ProofKit
import Derived.OpenShut
import Derived.Carry
import Derived.ChangeMaps5
namespace Go.Proofs.Ytachpdpmoihjmaa.W
open Go.Proofs.Ytachpdpmoihjmaa.Ev
theorem und33 : und E0 33 = some (.slice 5) := by kernel_rfl
theorem und5 : und E0 5 = some (.int .u8) := by kernel_rfl
theorem whole_one (x : Sp) (c : UInt8) : whole [x] [c] 0 = if x.p c = true then some (0, 1) else none := by
 unfold whole
 simp only [List.drop_zero, List.length_singleton]
 rw [whM]
 simp only [List.replicate, entO, entF, hit, List.getD_cons_zero, List.getD_cons_succ, okB]
 cases hp : x.p c with
 | true => simp [whM, nx, nxL, lvL, entO, entF, hit, okB, hp]
 | false => simp [whM, nx, nxL, lvL, entO, entF, hit, okB, hp]
section
variable {S : St}
theorem row2_ld (ho : S.on = false) {x : Nat} {a e : Int} (h : RowAt S x 30 2 [tr2 a e]) {j : Nat} (hj : j < 2) {v : V} (hv : (tr2 a e).get j = some v) : ld1 (.ptr x j) S = some (v, S) := by
 obtain ⟨c, h1, h2⟩ := h.row
 have hfit := h.fit
 show ld S x j = _
 unfold ld
 rw [h1]
 simp only
 rw [blt_true.2 (show j < 2 * [tr2 a e].length by show j < 2 * 1; omega), blt_true.2 hfit, Bool.and_self, cond_true, show j / 2 = 0 by omega, show j % 2 = j by omega, h2 0 _ rfl, oB, hv, oB, note_off ho]
theorem digit_step (self : EV) (N : Nat) (nk : Ac → St → Rs) (ek : Nat → Ac → St → Rs) (f : Nat) (ho : S.on = false) {x : Nat} {a e : Int} (h : RowAt S x 30 2 [tr2 a e]) {j : Nat} (hj : j < 2) {n : Nat} (hn : n < 10) (hv : (tr2 a e).get j = some (.int .i64 (n : Int))) (out : List UInt8) (ho2 : out.length ≤ 100) :
 ∃ U, L10_42 self N nk ek (f + 1) (.slice x 0 1 1) (sv out) (.int .i64 0) (.int .i64 (j : Int)) S = L10_42 self N nk ek f (.slice x 0 1 1) (sv (out ++ [UInt8.ofNat (48 + n)])) (.int .i64 0) (.int .i64 ((j + 1 : Nat) : Int)) U ∧ Grew (fun _ => False) S U := by
 obtain ⟨U, a1, a2, a3, a4⟩ := bsP_byte (s := S) ho 5 (UInt8.ofNat (48 + n))
 refine ⟨U, ?_, a3⟩
 have hix : ixA 2 1 false 1 (.ptr x 0) (.int .i64 (j : Int)) = some (.ptr x j) := by
  rw [ixA_ptr 2 1 false 1 .i64 hj, Nat.zero_add, Nat.mul_one]
 have e1 : IntKind.u8.wrap (n : Int) = (n : Int) := wrap_u8 (by omega) (by omega)
 have e2 : IntKind.u8.wrap (48 + (n : Int)) = ((UInt8.ofNat (48 + n)).toNat : Int) := by
  rw [wrap_u8 (by omega) (by omega), UInt8.toNat_ofNat']; omega
 rw [L10_42_eq, binV_ii, intsV_lss, show decide ((j : Int) < 2) = true by rw [decide_eq_true_eq]; omega, oB, ifK_bool, cond_true, ixP2_0, oB, hix, oB, row2_ld ho h hj hv, oB]
 dsimp only
 rw [binV_ii, intsV_lss, show decide ((n : Int) < 0) = false by rw [decide_eq_false_iff_not]; omega, oB, ifK_bool, cond_false, binV_ii, intsV_lss, show decide ((n : Int) < 10) = true by rw [decide_eq_true_eq]; omega, oB, ifK_bool, cond_true, cvI_int, e1, oB]
 dsimp only
 rw [binV_ii, intsV_add, e2, oB, a1, oB]
 dsimp only
 rw [convert_row (a3.on.trans ho) und33 und5 und9 a2 (by simp), oB]
 dsimp only
 rw [show ((List.drop 0 [UInt8.ofNat (48 + n)]).take 1) = [UInt8.ofNat (48 + n)] from rfl, plus_sv _ _ _ _ (by simp; omega), oB, binV_ii, intsV_add, wrap_succ (by omega), oB]
theorem two_digits (self : EV) (N : Nat) (nk : Ac → St → Rs) (ek : Nat → Ac → St → Rs) (f : Nat) (ho : S.on = false) {x : Nat} (h : RowAt S x 30 2 [tr2 0 1]) (hx : x < S.next) :
 ∃ U, L10_42 self N nk ek (f + 3) (.slice x 0 1 1) (sv []) (.int .i64 0) (.int .i64 0) S = ek 2 (fr 75 [(9, .slice x 0 1 1), (11, sv [48, 49]), (12, .int .i64 0)]) U ∧ Grew (fun _ => False) S U := by
 obtain ⟨S1, a1, a2⟩ := digit_step self N nk ek (f + 2) ho h (j := 0) (by omega) (n := 0) (by omega) rfl [] (by simp)
 have h1 : RowAt S1 x 30 2 [tr2 0 1] := h.grew hx (fun h => h) a2
 obtain ⟨S2, b1, b2⟩ := digit_step self N nk ek (f + 1) (a2.on.trans ho) h1 (j := 1) (by omega) (n := 1) (by omega) rfl [48] (by simp)
 refine ⟨S2, ?_, a2.trans b2⟩
 rw [show ((0 : Nat) : Int) = 0 from rfl, show ([] : List UInt8) ++ [UInt8.ofNat (48 + 0)] = [48] from rfl] at a1
 rw [show [48] ++ [UInt8.ofNat (48 + 1)] = [48, 49] from rfl] at b1
 rw [a1, b1, L10_42_eq, binV_ii, intsV_lss, show decide (((1 + 1 : Nat) : Int) < 2) = false from rfl, oB, ifK_bool, cond_false]
def foundS (b : Bool) : List UInt8 := if b then [48, 49] else [110, 111]
theorem found_run {K : FuncId → Option KF} (hK : ∀ f, f ≠ 9 → K f = none) (m : Nat) {s : List UInt8} {p : UInt8 → Bool} (hE : SetE s p) (hlen : s.length ≤ 100) (c : UInt8) (S : St) (ho : S.on = false) :
 ∃ U, (ev E0 K (m + 8)).f 10 [sv s, sv [c], .int .i64 0] S = some (.ret (sv (foundS (p c))), U) ∧ U.on = false := by
 obtain ⟨S1, b, i, lv, tr, a1, a2, a3, a4⟩ := set_compile hK m hE hlen S ho
 obtain ⟨r, hx, _⟩ := Rx.of (t := [⟨tr, p, a2⟩]) a3
 have hw := whole_one ⟨tr, p, a2⟩ c
 have hres : whole [⟨tr, p, a2⟩] [c] 0 = none ∨ ∃ i e : Nat, i ≤ e ∧ e ≤ [c].length ∧ whole [⟨tr, p, a2⟩] [c] 0 = some ((i : Int), (e : Int)) := by
  rw [hw]
  cases hp : p c with
  | true => exact .inr ⟨0, 1, by omega, by simp, by simp [hp]⟩
  | false => exact .inl (by simp [hp])
 obtain ⟨S2, v, b1, b2, b3⟩ := find_run (hK 8 (by decide)) (hK 14 (by decide)) (hK 15 (by decide)) (hK 20 (by decide)) (hK 21 (by decide)) (hK 22 (by decide)) (hK 28 (by decide)) (hK 29 (by decide)) (m + 3) (fr_ := 0) (T := [c]) (by simp) (by simp) (by simp) hres hx
 have on1 := hx.on
 have on2 := b2.on.trans on1
 have key : ∀ {w U}, F10 (ev E0 K (m + 7)) rounds (sv s) (sv [c]) (.int .i64 0) S = some (.ret w, U) → (ev E0 K (m + 8)).f 10 [sv s, sv [c], .int .i64 0] S = some (.ret w, U) := fun q => ev_read (c := C10) (d := B10) (by kernel_rfl) (by kernel_rfl) (annot_isOf C10 _ (by kernel_rfl)) (hK 10 (by decide)) q
 have pre : F10 (ev E0 K (m + 7)) rounds (sv s) (sv [c]) (.int .i64 0) S = bif !(whole [⟨tr, p, a2⟩] [c] 0).isSome then some (.ret (sv [110, 111]), S2) else L10_32 (ev E0 K (m + 7)) rounds (R10_28 (ev E0 K (m + 7)) rounds (finN E0 (ev E0 K (m + 7)) Try.f10) noEx) (exB 0 (R10_28 (ev E0 K (m + 7)) rounds (finN E0 (ev E0 K (m + 7)) Try.f10) noEx) noEx) rounds v (sv []) (.int .i64 0) S2 := by
  rw [show ((0 : Nat) : Int) = 0 from rfl] at b1
  rw [F10_eq, a1, callP_ret, extractV_tuple, show ([V.ptr b 0, V.int .i64 0] : List V)[0]? = some (V.ptr b 0) from rfl, oB, extractV_tuple, show ([V.ptr b 0, V.int .i64 0] : List V)[1]? = some (V.int .i64 0) from rfl, oB, binV_ii, intsV_neq, show (!decide ((0 : Int) = 0)) = false from rfl, oB, guardV_f, oB, Bool.not_false, cond_true, oB, oB, cond_true, nil_b, oB, pickV_bool, cond_false, oB, ifK_bool, cond_false, show ev E0 K (m + 7) = ev E0 K (m + 3 + 4) from rfl, b1, callP_ret, extractV_tuple, show ([v, V.bool (whole [⟨tr, p, a2⟩] [c] 0).isSome] : List V)[0]? = some v from rfl, oB, extractV_tuple, show ([v, V.bool (whole [⟨tr, p, a2⟩] [c] 0).isSome] : List V)[1]? = some (V.bool (whole [⟨tr, p, a2⟩] [c] 0).isSome) from rfl, oB, unV_not, oB, ifK_bool]
 cases hp : p c with
 | false =>
  rw [hw, if_neg (by simp [hp])] at pre
  exact ⟨S2, key pre, on2⟩
 | true =>
  have hs1 : whole [⟨tr, p, a2⟩] [c] 0 = some (0, 1) := by rw [hw, if_pos (by simp [hp])]
  obtain ⟨x, hv, hrow, hxn⟩ := b3 _ hs1
  rw [hs1] at pre
  subst hv
  have hrow : RowAt S2 x 30 2 [tr2 0 1] := hrow
  obtain ⟨S3, d1, d2⟩ := two_digits (ev E0 K (m + 7)) rounds (R10_37 (ev E0 K (m + 7)) rounds (N10_32 (ev E0 K (m + 7)) rounds (R10_28 (ev E0 K (m + 7)) rounds (finN E0 (ev E0 K (m + 7)) Try.f10) noEx) (exB 0 (R10_28 (ev E0 K (m + 7)) rounds (finN E0 (ev E0 K (m + 7)) Try.f10) noEx) noEx) (rounds - 1)) (exB 0 (R10_28 (ev E0 K (m + 7)) rounds (finN E0 (ev E0 K (m + 7)) Try.f10) noEx) noEx)) (exB 2 (R10_37 (ev E0 K (m + 7)) rounds (N10_32 (ev E0 K (m + 7)) rounds (R10_28 (ev E0 K (m + 7)) rounds (finN E0 (ev E0 K (m + 7)) Try.f10) noEx) (exB 0 (R10_28 (ev E0 K (m + 7)) rounds (finN E0 (ev E0 K (m + 7)) Try.f10) noEx) noEx) (rounds - 1)) (exB 0 (R10_28 (ev E0 K (m + 7)) rounds (finN E0 (ev E0 K (m + 7)) Try.f10) noEx) noEx)) (exB 1 (R10_37 (ev E0 K (m + 7)) rounds (N10_32 (ev E0 K (m + 7)) rounds (R10_28 (ev E0 K (m + 7)) rounds (finN E0 (ev E0 K (m + 7)) Try.f10) noEx) (exB 0 (R10_28 (ev E0 K (m + 7)) rounds (finN E0 (ev E0 K (m + 7)) Try.f10) noEx) noEx) (rounds - 1)) (exB 0 (R10_28 (ev E0 K (m + 7)) rounds (finN E0 (ev E0 K (m + 7)) Try.f10) noEx) noEx)) (exB 0 (R10_28 (ev E0 K (m + 7)) rounds (finN E0 (ev E0 K (m + 7)) Try.f10) noEx) noEx))) (rounds - 3) on2 hrow hxn
  refine ⟨S3, key (pre.trans ?_), d2.on.trans on2⟩
  rw [show (!(some ((0 : Int), (1 : Int))).isSome) = false from rfl, cond_false]
  rw [show rounds - 3 + 3 = rounds by unfold rounds; omega] at d1
  have e0 := L10_32_eq (ev E0 K (m + 7)) rounds (R10_28 (ev E0 K (m + 7)) rounds (finN E0 (ev E0 K (m + 7)) Try.f10) noEx) (exB 0 (R10_28 (ev E0 K (m + 7)) rounds (finN E0 (ev E0 K (m + 7)) Try.f10) noEx) noEx) (rounds - 1) (.slice x 0 1 1) (sv []) (.int .i64 0) S2
  rw [show rounds - 1 + 1 = rounds by unfold rounds; omega] at e0
  rw [e0, show lnS (.slice x 0 1 1) S2 = some (.int .i64 1, S2) from rfl, oB]
  dsimp only
  rw [binV_ii, intsV_lss, show decide ((0 : Int) < 1) = true from rfl, oB, ifK_bool, cond_true, d1, exB_same, R10_37_eq, binV_ii, intsV_add, show IntKind.i64.wrap (0 + 1) = 1 from rfl, oB, N10_32_eq, show rounds - 1 = rounds - 2 + 1 by unfold rounds; omega, L10_32_eq, show lnS (.slice x 0 1 1) S3 = some (.int .i64 1, S3) from rfl, oB]
  dsimp only
  rw [binV_ii, intsV_lss, show decide ((1 : Int) < 1) = false from rfl, oB, ifK_bool, cond_false, exB_same, R10_28_eq]
  rfl
end
end Go.Proofs.Ytachpdpmoihjmaa.W
namespace Go.Proofs.Ytachpdpmoihjmaa.W
open Go.Proofs.Ytachpdpmoihjmaa.Ev Go.RowKit
theorem works_runs : saysTrue ((ev E0 (fun _ => none) 400).f 9 [] s0) = true := by decide +kernel
theorem kn9 : KnWell Try.prog E0 9 kfTrue := by
 refine ⟨specKF_loc, fun w0 ρ s w args cargs e t hR hv hg => ?_⟩
 unfold kfTrue specKF at hg
 simp only at hg
 by_cases hx : ∃ x : Unit, ([] : List V) = args
 · rw [dif_pos hx] at hg
   simp only [oS, pM] at hg
   obtain ⟨rfl, rfl⟩ := hg
   obtain ⟨_, rfl⟩ := hx
   obtain ⟨l⟩ := cargs
   cases hv
   exact (closed_walk E0_ok knOk_nil glob0 works_runs w).mono fun ce w' ⟨h1, h2⟩ => ⟨ρ, .bool true, h1, Rho.le_refl ρ, .bool true, hR.grown h2⟩
 · rw [dif_neg hx] at hg; cases hg
noncomputable def K1 := knAdd (fun _ => none) 9 kfTrue
theorem ok1 : KnOk Try.prog E0 K1 := knOk_nil.add kn9
theorem K1_none : ∀ f, f ≠ 9 → K1 f = none := fun f h => by
 unfold K1 knAdd
 rw [beq_false.2 h]; rfl
end Go.Proofs.Ytachpdpmoihjmaa.W
namespace Go.Proofs.Ytachpdpmoihjmaa.W
open Go.Proofs.Ytachpdpmoihjmaa.Ev Go.RowKit
def u8V (c : UInt8) : V := .int .u8 (c.toNat : Int)
def BytesV (v : V) (l : List UInt8) : Prop := (l = [] ∧ (v = .nilslice ∨ v = .eslice)) ∨ v = .list 1 (l.map u8V)
section
variable {S : St}
theorem bytes_len {v : V} {l : List UInt8} (h : BytesV v l) : lnS v S = some (.int .i64 (l.length : Int), S) := by
 rcases h with ⟨rfl, rfl | rfl⟩ | rfl
 · rfl
 · rfl
 · show some (V.int .i64 (((l.map u8V).length : Nat) : Int), S) = _
   rw [List.length_map]
theorem bytes_at {v : V} {l : List UInt8} (h : BytesV v l) {i : Nat} (hi : i < l.length) : ixP 1 v (.int .i64 (i : Int)) = some (.cptr (u8V l[i])) ∧ sliceV E0 33 v (some (.int .i64 (i : Int))) (some (.int .i64 ((i + 1 : Nat) : Int))) none S = some (.list 1 [u8V l[i]], S) := by
 rcases h with ⟨rfl, _⟩ | rfl
 · simp at hi
 · refine ⟨?_, ?_⟩
   · rw [ixP_list 1 (l.map u8V) .i64 i (by rw [List.length_map]; exact hi) (by decide)]
     simp
   · unfold sliceV
     rw [und33, oB]
     show (sizeT E0 5).bind _ = _
     rw [show sizeT E0 5 = some 1 by kernel_rfl, oB]
     dsimp only
     rw [show Nat.beq 1 1 = true from rfl, cond_true, bounds_lohi .i64 .i64 (Nat.le_succ i) (by rw [List.length_map]; exact hi), oB]
     dsimp only
     rw [show i + 1 - i = 1 by omega, ← List.map_drop, List.drop_eq_getElem_cons hi]
     rfl
theorem conv_list (c : UInt8) : convertV E0 33 9 (.list 1 [u8V c]) S = some (sv [c], S) := by
 have h : convertV E0 33 9 (.list 1 [u8V c]) S = (packV [byteC c]).bind fun q => some (.str q.1 q.2, S) := by kernel_rfl
 rw [h, show packV [byteC c] = some ([c].length, pack [c]) from packV_bytes [c]]; rfl
def sel (c : UInt8) : Bool := !(c == 45) && (!(c == 93) && !(c == 94))
theorem L73_spec (self : EV) (N : Nat) (nk : Ac → St → Rs) (ek : Nat → Ac → St → Rs) {v : V} {l : List UInt8} (h : BytesV v l) (c : UInt8) :
 ∀ (q : List UInt8) (i f : Nat) (out : List UInt8) (th : Bool), (l.take 12).drop i = q → i ≤ 12 → out.length ≤ 100 + i → q.length < f →
 L5_73 self N nk ek f v (u8V c) (sv out) (.bool th) (.int .i64 (i : Int)) S = ek 0 (fr 93 [(1, u8V c), (5, sv (out ++ q.filter sel)), (6, .bool (th || (q.filter sel).contains c))]) S
 | q, i, 0, out, th, _, _, _, hf => by omega
 | [], i, f + 1, out, th, hq, hi, ho, hf => by
  have hge := drop_end hq
  rw [List.length_take] at hge
  rw [L5_73_eq, bytes_len h, oB]
  dsimp only
  rw [binV_ii, intsV_lss, oB]
  have fin : ek 0 (fr 93 [(1, u8V c), (5, sv out), (6, .bool th)]) S = ek 0 (fr 93 [(1, u8V c), (5, sv (out ++ ([] : List UInt8).filter sel)), (6, .bool (th || (([] : List UInt8).filter sel).contains c))]) S := by simp
  by_cases h1 : i < l.length
  · rw [show decide ((i : Int) < (l.length : Int)) = true by rw [decide_eq_true_eq]; omega]
    simp only [guardV_t, oB, cond_true, binV_ii, intsV_lss, show decide ((i : Int) < 12) = false by rw [decide_eq_false_iff_not]; omega, pickV_bool, ifK_bool, cond_false]
    exact fin
  · rw [show decide ((i : Int) < (l.length : Int)) = false by rw [decide_eq_false_iff_not]; omega]
    simp only [guardV_t, oB, pickV_bool, ifK_bool, cond_false]
    exact fin
 | d :: q, i, f + 1, out, th, hq, hi, ho, hf => by
  obtain ⟨hlt, hd, hr, _⟩ := drop_at hq
  rw [List.length_take] at hlt
  have hil : i < l.length := by omega
  have hd : l[i] = d := by rw [← hd, List.getElem_take]
  obtain ⟨b1, b2⟩ := bytes_at (S := S) h hil
  rw [hd] at b1 b2
  have hw := wrap_succ (i := i) (by omega)
  have hld : ld1 (.cptr (u8V d)) S = some (u8V d, S) := rfl
  rw [L5_73_eq, bytes_len h, oB]
  dsimp only
  rw [binV_ii, intsV_lss, show decide ((i : Int) < (l.length : Int)) = true by rw [decide_eq_true_eq]; omega, oB]
  simp only [guardV_t, oB, cond_true, binV_ii, intsV_lss, show decide ((i : Int) < 12) = true by rw [decide_eq_true_eq]; omega, pickV_bool, ifK_bool]
  rw [b1, oB, hld, oB]
  dsimp only
  have e45 : binV E0 .eql 5 false true (u8V d) (.int .u8 45) = some (.bool (d == 45)) := by
   unfold u8V
   rw [binV_ii, intsV_eql, byte_is d 45 45 rfl]
  have e93 : binV E0 .eql 5 false true (u8V d) (.int .u8 93) = some (.bool (d == 93)) := by
   unfold u8V
   rw [binV_ii, intsV_eql, byte_is d 93 93 rfl]
  have e94 : binV E0 .eql 5 false true (u8V d) (.int .u8 94) = some (.bool (d == 94)) := by
   unfold u8V
   rw [binV_ii, intsV_eql, byte_is d 94 94 rfl]
  have ecc : binV E0 .eql 5 false false (u8V d) (u8V c) = some (.bool (d == c)) := by
   unfold u8V
   rw [binV_ii, intsV_eql, byte_is d c _ rfl]
  rw [e45, oB]
  have hsel : sel d = (!(d == 45) && (!(d == 93) && !(d == 94))) := rfl
  have skip : sel d = false → ((intsV .add .i64 (i : Int) .i64 1).bind fun t102 => L5_73 self N nk ek f v (u8V c) (sv out) (.bool th) t102 S) = ek 0 (fr 93 [(1, u8V c), (5, sv (out ++ (d :: q).filter sel)), (6, .bool (th || ((d :: q).filter sel).contains c))]) S := fun hs => by
   rw [intsV_add, hw, oB, L73_spec self N nk ek h c q (i + 1) f out th hr (by omega) (by omega) (by simp at hf; omega), List.filter_cons, hs]
   simp
  cases h1 : (d == 45) with
  | true =>
   simp only [guardV_f, Bool.not_true, oB, cond_false, pickV_bool, cond_true, ifK_bool]
   exact skip (by rw [hsel, h1]; rfl)
  | false =>
  simp only [guardV_f, Bool.not_false, oB, cond_true, pickV_bool, cond_false, b1, hld, e93]
  cases h2 : (d == 93) with
  | true =>
   simp only [guardV_f, Bool.not_true, oB, cond_false, pickV_bool, cond_true, ifK_bool]
   exact skip (by rw [hsel, h1, h2]; rfl)
  | false =>
  simp only [guardV_f, Bool.not_false, oB, cond_true, pickV_bool, cond_false, b1, hld, e94, ifK_bool]
  cases h3 : (d == 94) with
  | true =>
   rw [cond_true]
   exact skip (by rw [hsel, h1, h2, h3]; rfl)
  | false =>
  have hs : sel d = true := by rw [hsel, h1, h2, h3]; rfl
  rw [cond_false, intsV_add, hw, oB, b2, oB]
  dsimp only
  rw [conv_list, oB]
  dsimp only
  rw [plus_sv _ _ _ _ (by simp; omega), oB]
  have ih := fun th' => L73_spec self N nk ek h c q (i + 1) f (out ++ [d]) th' hr (by omega) (by simp; omega) (by simp at hf; omega)
  cases th with
  | true =>
   simp only [guardV_f, Bool.not_true, oB, cond_false, pickV_bool, cond_true]
   rw [ih true, List.filter_cons, hs, if_pos rfl]
   simp
  | false =>
   simp only [guardV_f, Bool.not_false, oB, cond_true, pickV_bool, cond_false, b1, hld, ecc]
   rw [ih (d == c), List.filter_cons, hs, if_pos rfl, List.contains_cons, Bool.false_or, show (d == c) = (c == d) from Bool.beq_comm ..]
   simp
end
end Go.Proofs.Ytachpdpmoihjmaa.W
namespace Go.Proofs.Ytachpdpmoihjmaa.W
open Go.Proofs.Ytachpdpmoihjmaa.Ev Go.RowKit
theorem works_known (m : Nat) (S : St) : (ev E0 K1 (m + 1)).f 9 [] S = some (.ret (.bool true), S) := by
 rw [ev_known (show K1 9 = some kfTrue from rfl), kfTrue_run]
theorem eq_sv (a b : List UInt8) (c d : Bool) : binV E0 .eql 9 c d (sv a) (sv b) = some (.bool (a == b)) := by rw [binV_ss, strOp_eql]
section
variable {S : St}
theorem found_set (m : Nat) {s : List UInt8} (hs : s.length ≤ 50) (hne : s ≠ []) (hsel : ∀ c ∈ s, sel c = true) (nt : Bool) (c : UInt8) (ho : S.on = false) :
 ∃ U, (ev E0 K1 (m + 8)).f 10 [sv (91 :: carets nt ++ s ++ [93]), sv [c], .int .i64 0] S = some (.ret (sv (foundS (!(s.contains c == nt)))), U) ∧ U.on = false := by
 cases s with
 | nil => exact absurd rfl hne
 | cons c0 bt =>
  have h1 : ∀ x ∈ c0 :: bt, x ≠ 45 ∧ x ≠ 93 := fun x hx => by
   have := hsel x hx
   unfold sel at this
   simp only [Bool.and_eq_true, Bool.not_eq_true', beq_eq_false_iff_ne] at this
   exact ⟨this.1, this.2.1⟩
  have h2 : c0 ≠ 94 := by
   have := hsel c0 (List.mem_cons_self ..)
   unfold sel at this
   simp only [Bool.and_eq_true, Bool.not_eq_true', beq_eq_false_iff_ne] at this
   exact this.2.2
  exact found_run K1_none m (s := 91 :: carets nt ++ (c0 :: bt) ++ [93]) (.inr ⟨nt, c0, bt, by simp, h1, h2, rfl⟩) (by
   have : (carets nt).length ≤ 1 := by unfold carets; split <;> simp
   simp at hs ⊢
   omega) c S ho
theorem found_point (m : Nat) (c : UInt8) (ho : S.on = false) : ∃ U, (ev E0 K1 (m + 8)).f 10 [sv [46], sv [c], .int .i64 0] S = some (.ret (sv [48, 49]), U) ∧ U.on = false :=
 found_run K1_none m (s := [46]) (p := fun _ => true) (.inl ⟨rfl, rfl⟩) (by simp) c S ho
theorem R3_spec (m : Nat) (nk : Ac → St → Rs) (ek : Nat → Ac → St → Rs) {s : List UInt8} (hs : s.length ≤ 50) (hsel : ∀ c ∈ s, sel c = true) (c : UInt8) (S : St) (ho : S.on = false) :
 ∃ U, R5_3 (ev E0 K1 (m + 8)) rounds nk ek (fr 93 [(1, u8V c), (5, sv s), (6, .bool (s.contains c))]) S = some (.ret (.bool true), U) := by
 obtain ⟨S1, a1, a2, a3, a4⟩ := bsP_byte (s := S) ho 5 c
 have on1 := a3.on.trans ho
 have works : ∀ S, (ev E0 K1 (m + 8)).f 9 [] S = some (.ret (.bool true), S) := fun S => works_known (m + 7) S
 rw [R5_3_eq, show u8V c = .int .u8 (c.toNat : Int) from rfl, a1, oB]
 dsimp only
 rw [convert_row on1 und33 und5 und9 a2 (by simp), oB]
 dsimp only
 rw [show ((List.drop 0 [c]).take 1) = [c] from rfl, show (sv []) = sv ([] : List UInt8) from rfl, eq_sv, oB, ifK_bool]
 by_cases hne : s = []
 · subst hne
   obtain ⟨S2, b1, b2⟩ := found_point m c on1
   refine ⟨S2, ?_⟩
   rw [beq_self_eq_true, cond_true, b1, callP_ret, eq_sv, beq_self_eq_true, oB, guardV_t, oB, cond_true, works, callP_ret, pickV_bool, cond_true, oB]
 · rw [beq_false_of_ne hne, cond_false, ifK_bool]
   have p1 : ∀ x y, binV E0 .add 9 x y (sv [91]) (sv s) = some (sv ([91] ++ s)) := fun x y => plus_sv _ _ _ _ (by simp; omega)
   have p2 : ∀ x y, binV E0 .add 9 x y (sv ([91] ++ s)) (sv [93]) = some (sv (91 :: carets false ++ s ++ [93])) := fun x y => plus_sv _ _ _ _ (by simp; omega)
   have p3 : ∀ x y, binV E0 .add 9 x y (sv [91, 94]) (sv s) = some (sv ([91, 94] ++ s)) := fun x y => plus_sv _ _ _ _ (by simp; omega)
   have p4 : ∀ x y, binV E0 .add 9 x y (sv ([91, 94] ++ s)) (sv [93]) = some (sv (91 :: carets true ++ s ++ [93])) := fun x y => plus_sv _ _ _ _ (by simp; omega)
   obtain ⟨S2, b1, b2⟩ := found_set (S := S1) m hs hne hsel false c on1
   obtain ⟨S3, c1, c2⟩ := found_set (S := S2) m hs hne hsel true c b2
   obtain ⟨S4, d1, d2⟩ := found_point m c c2
   refine ⟨S4, ?_⟩
   cases hc : s.contains c with
   | true =>
    rw [hc] at b1 c1
    replace b1 : (ev E0 K1 (m + 8)).f 10 [sv (91 :: carets false ++ s ++ [93]), sv [c], .int .i64 0] S1 = some (.ret (sv [48, 49]), S2) := b1
    replace c1 : (ev E0 K1 (m + 8)).f 10 [sv (91 :: carets true ++ s ++ [93]), sv [c], .int .i64 0] S2 = some (.ret (sv [110, 111]), S3) := c1
    rw [cond_true, p1, oB, p2, oB, b1, callP_ret, eq_sv, beq_self_eq_true, oB]
    simp only [guardV_t, oB, cond_true, p3, p4, c1, callP_ret, eq_sv, beq_self_eq_true, pickV_bool, d1, works]
   | false =>
    rw [hc] at b1 c1
    replace b1 : (ev E0 K1 (m + 8)).f 10 [sv (91 :: carets false ++ s ++ [93]), sv [c], .int .i64 0] S1 = some (.ret (sv [110, 111]), S2) := b1
    replace c1 : (ev E0 K1 (m + 8)).f 10 [sv (91 :: carets true ++ s ++ [93]), sv [c], .int .i64 0] S2 = some (.ret (sv [48, 49]), S3) := c1
    rw [cond_false, p1, oB, p2, oB, b1, callP_ret, eq_sv, beq_self_eq_true, oB]
    simp only [guardV_t, oB, cond_true, p3, p4, c1, callP_ret, eq_sv, beq_self_eq_true, pickV_bool, d1, works]
theorem law_run {v : V} {l : List UInt8} (h : BytesV v l) (c : UInt8) (S : St) (ho : S.on = false) : ∃ U, (ev E0 K1 9).f 5 [v, u8V c] S = some (.ret (.bool true), U) := by
 obtain ⟨U, hu⟩ := R3_spec 0 (finN E0 (ev E0 K1 8) Try.f5) noEx (s := (l.take 12).filter sel) (by
  have := List.length_filter_le sel (l.take 12)
  rw [List.length_take] at this
  omega) (fun c hc => (List.mem_filter.1 hc).2) c S ho
 refine ⟨U, ev_read (c := C5) (d := B5) (by kernel_rfl) (by kernel_rfl) (annot_isOf C5 _ (by kernel_rfl)) (show K1 5 = none from rfl) (?_ : F5 (ev E0 K1 8) rounds v (u8V c) S = _)⟩
 have hl := L73_spec (S := S) (ev E0 K1 8) rounds (R5_3 (ev E0 K1 8) rounds (finN E0 (ev E0 K1 8) Try.f5) noEx) (exB 0 (R5_3 (ev E0 K1 8) rounds (finN E0 (ev E0 K1 8) Try.f5) noEx) noEx) h c (l.take 12) 0 rounds [] false rfl (by omega) (by simp) (by rw [List.length_take]; unfold rounds; omega)
 rw [show ((0 : Nat) : Int) = 0 from rfl, List.nil_append, Bool.false_or] at hl
 rw [F5_eq]
 refine hl.trans ?_
 rw [exB_same]
 exact hu
theorem sets_calls (W : World) {v : V} {cv : Value} {l : List UInt8} (hv : VRel (frz W) v cv) (h : BytesV v l) (c : UInt8) : Calls Try.prog 5 #[cv, .int .u8 (c.toNat : Int)] W fun e w' => e = .returned (.bool true) ∧ Below W.heap.size W w' := by
 obtain ⟨U, hl⟩ := law_run h c s0 rfl
 refine ((ev_sim E0_ok ok1 9).call (base0 W) _ s0 W 5 [v, u8V c] #[cv, .int .u8 (c.toNat : Int)] _ U (relF W) (.cons hv (.cons (.int _ _) .nil)) hl).mono fun ce w' hce => ?_
 obtain ⟨ρ', cv, rfl, _, hv, hR⟩ := hce
 cases hv
 exact ⟨rfl, below_of_rel hR⟩
end
end Go.Proofs.Ytachpdpmoihjmaa.W
namespace Go.Proofs.Ytachpdpmoihjmaa.W
open Go.Proofs.Ytachpdpmoihjmaa.Ev
theorem u33 : Try.prog.underlying 33 = some (.slice 5) := by kernel_rfl
theorem u5 : Try.prog.underlying 5 = some (.int .u8) := by kernel_rfl
theorem c5 : Try.prog.cellsOf 5 = 1 := by kernel_rfl
theorem u8_byte {n : Int} (h : (Lit.int .u8 n).wf = true) : ∃ b : UInt8, n = (b.toNat : Int) := by
 unfold Lit.wf at h
 simp only [Bool.and_eq_true, decide_eq_true_eq] at h
 have e1 : IntKind.u8.min = 0 := by decide
 have e2 : IntKind.u8.max = 255 := by decide
 rw [e1, e2] at h
 refine ⟨UInt8.ofNat n.toNat, ?_⟩
 rw [UInt8.toNat_ofNat']
 omega
theorem mapM_range_some {α : Type} {f : Nat → Option α} : ∀ (n k : Nat) {r : List α}, ((List.range' k n).mapM f) = some r → r.length = n ∧ ∀ i, i < n → ∃ y, r[i]? = some y ∧ f (k + i) = some y
 | 0, k, r, h => by
  simp at h; subst h
  exact ⟨rfl, fun i hi => by omega⟩
 | n + 1, k, r, h => by
  rw [List.range'_succ, List.mapM_cons] at h
  simp only [Option.bind_eq_bind, oI, Option.pure_def, oS] at h
  obtain ⟨y, hy, r', hr', rfl⟩ := h
  obtain ⟨h1, h2⟩ := mapM_range_some n (k + 1) hr'
  refine ⟨by simp [h1], fun i hi => ?_⟩
  cases i with
  | zero => exact ⟨y, rfl, hy⟩
  | succ i =>
   obtain ⟨z, hz1, hz2⟩ := h2 i (by omega)
   exact ⟨z, by simpa using hz1, by rw [show k + (i + 1) = k + 1 + i by omega]; exact hz2⟩
theorem cells?_at {W : World} {a : Addr} {n : Nat} {cs : List Value} (h : W.cells? 0 a n = some cs) : cs.length = n ∧ ∀ i, i < n → ∃ y, cs[i]? = some y ∧ W.cell? (a.add i) = some y := by
 unfold World.cells? at h
 rw [if_pos (Nat.zero_le _), List.range_eq_range'] at h
 obtain ⟨h1, h2⟩ := mapM_range_some n 0 h
 exact ⟨h1, fun i hi => by
  obtain ⟨y, hy1, hy2⟩ := h2 i hi
  exact ⟨y, hy1, by rw [Nat.zero_add] at hy2; exact hy2⟩⟩
theorem add_eq {a : Addr} (h : a.spot = none) (n : Nat) : a.add n = ⟨a.block, a.off + n, none⟩ := by
 unfold Addr.add
 split
 · rename_i h0
   subst h0
   cases a
   simp only at h
   subst h
   rfl
 · rfl
theorem vrels_bytes {ρ : Rho} : ∀ l : List UInt8, VRels ρ (l.map u8V) (l.map fun c => Value.int .u8 (c.toNat : Int))
 | [] => .nil
 | _ :: l => .cons (.int _ _) (vrels_bytes l)
theorem flat_bytes (l : List UInt8) : ((l.map fun c => Value.int .u8 (c.toNat : Int)).flatMap fun cv => cv.cells.toList) = l.map fun c => Value.int .u8 (c.toNat : Int) := by
 induction l with
 | nil => rfl
 | cons c l ih => rw [List.map_cons, List.flatMap_cons, ih]; rfl
theorem pick_bytes {P : Nat → UInt8 → Prop} : ∀ (n : Nat), (∀ i, i < n → ∃ b, P i b) → ∃ l : List UInt8, l.length = n ∧ ∀ i b, l[i]? = some b → P i b
 | 0, _ => ⟨[], rfl, fun i b h => by simp at h⟩
 | n + 1, h => by
  obtain ⟨l, h1, h2⟩ := pick_bytes n fun i hi => h i (by omega)
  obtain ⟨b, hb⟩ := h n (by omega)
  refine ⟨l ++ [b], by simp [h1], fun i c hc => ?_⟩
  by_cases hi : i < n
  · rw [List.getElem?_append_left (by omega)] at hc
    exact h2 i c hc
  · have hi2 : i = n := by
     have := (List.getElem?_eq_some_iff.1 hc).1
     simp [h1] at this
     omega
    subst hi2
    rw [List.getElem?_append_right (by omega)] at hc
    simp [h1] at hc
    subst hc
    exact hb
theorem bytes_of_trod {H : Type} {enc : TypeId × Value → H} {W : World} {fuel : Nat} {cs : List Value} {x : DataW H × List MemPlace} (h : DataW.trod enc Try.prog W 0 (fun _ => true) true fuel 33 cs = some x) : ∃ (cv : Value) (v : V) (l : List UInt8), cs = [cv] ∧ VRel (frz W) v cv ∧ BytesV v l ∧ ∃ ad len cap, cv = .slice ad len cap := by
 rcases DataW.trod_slice u33 h with ⟨hv, _⟩ | ⟨a, len, cap, elems, rest, m, hm, hv, _, _, hcap, hmax, hel, hat, _⟩
 · exact ⟨_, .nilslice, [], hv, .nilslice, .inl ⟨rfl, .inl rfl⟩, _, _, _, rfl⟩
 · by_cases h0 : len = 0
   · subst h0
     exact ⟨_, .eslice, [], hv, .eslice a cap, .inl ⟨rfl, .inr rfl⟩, _, _, _, rfl⟩
   · have hAt : ∀ i, i < len → ∃ b : UInt8, W.cell? (a.add i) = some (.int .u8 (b.toNat : Int)) := fun i hi => by
      have := hat i hi
      rw [c5, List.getElem?_eq_getElem (by omega), oI] at this
      obtain ⟨cells, h1, h2⟩ := this
      obtain ⟨n, hn, _, hw⟩ := DataW.trod_int u5 h2
      obtain ⟨b, rfl⟩ := u8_byte hw
      obtain ⟨_, h3⟩ := cells?_at h1
      obtain ⟨y, hy1, hy2⟩ := h3 0 (by omega)
      rw [hn] at hy1
      simp only [List.getElem?_cons_zero, oS] at hy1
      subst hy1
      rw [Nat.mul_one, show (a.add i).add 0 = a.add i from rfl] at hy2
      exact ⟨b, hy2⟩
     obtain ⟨b0, hb0⟩ := hAt 0 (by omega)
     have hspot : a.spot = none ∧ ∃ bg ty fr, W.heap[a.block]? = some (.cells bg ty fr) := by
      rw [show a.add 0 = a from rfl] at hb0
      unfold World.cell? at hb0
      split at hb0
      · rename_i bg ty fr hh
        split at hb0
        · cases hb0
        · rename_i hsp
          exact ⟨by simpa using hsp, bg, ty, fr, hh⟩
      · cases hb0
     obtain ⟨hsp, bg, ty, fr, hheap⟩ := hspot
     obtain ⟨l, l1, l2⟩ := pick_bytes (P := fun i b => bg[a.off + i]? = some (.int .u8 (b.toNat : Int))) len fun i hi => by
      obtain ⟨b, hb⟩ := hAt i hi
      rw [add_eq hsp] at hb
      unfold World.cell? at hb
      simp only at hb
      rw [hheap] at hb
      exact ⟨b, hb⟩
     refine ⟨_, .list 1 (l.map u8V), l, hv, ?_, .inr rfl, _, _, _, rfl⟩
     refine .list (vrels_bytes l) (fun v hv => ?_) (by rw [List.length_map]; exact l1) hcap fun _ => ⟨fun cv hcv => ?_, hsp, bg, ty, fr, hheap, fun j c hj => ?_⟩
     · rw [List.mem_map] at hv
       obtain ⟨c, _, rfl⟩ := hv
       rfl
     · rw [List.mem_map] at hcv
       obtain ⟨c, _, rfl⟩ := hcv
       rfl
     · rw [flat_bytes, List.getElem?_map, Option.map_eq_some_iff] at hj
       obtain ⟨b, hb, rfl⟩ := hj
       exact l2 j b hb
end Go.Proofs.Ytachpdpmoihjmaa.W
