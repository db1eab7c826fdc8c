/-
  WHAT THE FUNCTIONS COME TO: each is read by the evaluator, printed, and told as a function of data, part 6 of 6 (no condition).
-/
import Derived.Test.YtachpdpmoihjmaaW5
namespace Go.Proofs.Ytachpdpmoihjmaa.W
open Go.Proofs.Ytachpdpmoihjmaa.Ev Go.RowKit
theorem neq30 (a e a' e' : Int) : binV E0 .neq 30 false false (.agg 2 (tr2 a e)) (.agg 2 (tr2 a' e')) = (bif iEq a a' then (bif iEq e e' then some true else some false) else some false).bind fun b => some (.bool (!b)) := by kernel_rfl
theorem neq30_same (a e : Int) : binV E0 .neq 30 false false (.agg 2 (tr2 a e)) (.agg 2 (tr2 a e)) = some (.bool false) := by
 rw [neq30, iEq_eq, iEq_eq, beq_self_eq_true, beq_self_eq_true]; rfl
theorem nev_bool (a b : Bool) : binV E0 .neq 4 false false (.bool a) (.bool b) = some (.bool (!(a == b))) := by cases a <;> cases b <;> kernel_rfl
theorem byte_is (c v : UInt8) (n : Int) (h : n = (v.toNat : Int)) : decide ((c.toNat : Int) = n) = (c == v) := by
 subst h
 by_cases e : c = v
 · subst e; simp
 · rw [beq_false_of_ne e, decide_eq_false_iff_not]
   exact fun h => e (UInt8.toNat_inj.1 (by omega))
theorem plus_sv (a b : List UInt8) (c d : Bool) (h : a.length + b.length ≤ 100000) : binV E0 .add 9 c d (sv a) (sv b) = some (sv (a ++ b)) := by
 rw [binV_ss, strOp_add _ _ (by omega)]
theorem L7_spec (self : EV) (N : Nat) (nk : Ac → St → Rs) (ek : Nat → Ac → St → Rs) (s : List UInt8) (hs : s.length ≤ 300) :
 ∀ (r : List UInt8) (i f : Nat) (out : List UInt8) (S : St), s.drop i = r → i ≤ s.length → out.length + 2 * r.length ≤ 1000 → r.length < f →
 L7_6 self N nk ek f (sv s) (sv out) (.int .i64 (i : Int)) S = ek 0 (fr 40 [(3, sv (out ++ esc r))]) S
 | r, i, 0, out, S, _, _, _, hf => by omega
 | [], i, f + 1, out, S, hr, hi, ho, hf => by
  have hge := drop_end hr
  rw [L7_6_eq, lnStr_sv, oB]
  dsimp only
  rw [binV_ii, intsV_lss, dec_ge hge, oB, ifK_bool, cond_false, esc, List.append_nil]
 | c :: r, i, f + 1, out, S, hr, hi, ho, hf => by
  obtain ⟨hlt, hc, hd, _⟩ := drop_at hr
  rw [List.length_cons] at ho
  have hw := wrap_succ (i := i) (by omega)
  have hsl : sliceV E0 9 (sv s) (some (.int .i64 (i : Int))) (some (.int .i64 ((i + 1 : Nat) : Int))) none S = some (sv [c], S) := by
   rw [slice_sv und9 s (bounds_lohi .i64 .i64 (Nat.le_succ i) hlt) hlt, show i + 1 - i = 1 by omega, List.drop_eq_getElem_cons hlt, hc]
   rfl
  have yes : special c = true → ((binV E0 .add 9 false true (sv out) (sv [92])).bind fun t19 =>
(binV E0 .add 3 false true (.int .i64 (i : Int)) (.int .i64 1)).bind fun t23 =>
(sliceV E0 9 (sv s) (some (.int .i64 (i : Int))) (some t23) none S).bind fun p24 =>
(binV E0 .add 9 false false t19 p24.1).bind fun t25 =>
(binV E0 .add 3 false true (.int .i64 (i : Int)) (.int .i64 1)).bind fun t28 =>
L7_6 self N nk ek f (sv s) t25 t28 p24.2) = ek 0 (fr 40 [(3, sv (out ++ esc (c :: r)))]) S := fun hsp => by
   rw [plus_sv _ _ _ _ (by simp; omega), oB, binV_ii, intsV_add, hw, oB, hsl, oB]
   dsimp only
   rw [plus_sv _ _ _ _ (by simp; omega), oB, oB, L7_spec self N nk ek s hs r (i + 1) f (out ++ [92] ++ [c]) S hd hlt (by simp; omega) (by simp at hf; omega), esc, if_pos hsp]
   simp
  have no : special c = false → ((binV E0 .add 3 false true (.int .i64 (i : Int)) (.int .i64 1)).bind fun t184 =>
(sliceV E0 9 (sv s) (some (.int .i64 (i : Int))) (some t184) none S).bind fun p185 =>
(binV E0 .add 9 false false (sv out) p185.1).bind fun t186 =>
(binV E0 .add 3 false true (.int .i64 (i : Int)) (.int .i64 1)).bind fun t189 =>
L7_6 self N nk ek f (sv s) t186 t189 p185.2) = ek 0 (fr 40 [(3, sv (out ++ esc (c :: r)))]) S := fun hsp => by
   rw [binV_ii, intsV_add, hw, oB, hsl, oB]
   dsimp only
   rw [plus_sv _ _ _ _ (by simp; omega), oB, oB, L7_spec self N nk ek s hs r (i + 1) f (out ++ [c]) S hd hlt (by simp; omega) (by simp at hf; omega), esc, if_neg (by rw [hsp]; decide)]
   simp
  rw [L7_6_eq, lnStr_sv, oB]
  dsimp only
  rw [binV_ii, intsV_lss, dec_lt hlt, oB, ifK_bool, cond_true, ixS_sv s .i64 i hlt, hc, oB, binV_ii, intsV_eql, byte_is c 46 46 rfl, oB, ifK_bool]
  cases h1 : (c == 46) with
  | true =>
   rw [cond_true, ifK_bool, cond_true]
   exact yes (by unfold special; rw [h1]; rfl)
  | false =>
  rw [cond_false, binV_ii, intsV_eql, byte_is c 42 42 rfl, oB, ifK_bool]
  cases h2 : (c == 42) with
  | true =>
   rw [cond_true, ifK_bool, cond_true]
   exact yes (by unfold special; rw [h1, h2]; rfl)
  | false =>
  rw [cond_false, binV_ii, intsV_eql, byte_is c 91 91 rfl, oB, ifK_bool]
  cases h3 : (c == 91) with
  | true =>
   rw [cond_true, ifK_bool, cond_true]
   exact yes (by unfold special; rw [h1, h2, h3]; rfl)
  | false =>
  rw [cond_false, binV_ii, intsV_eql, byte_is c 93 93 rfl, oB, ifK_bool]
  cases h4 : (c == 93) with
  | true =>
   rw [cond_true, ifK_bool, cond_true]
   exact yes (by unfold special; rw [h1, h2, h3, h4]; rfl)
  | false =>
  rw [cond_false, binV_ii, intsV_eql, byte_is c 94 94 rfl, oB, ifK_bool]
  cases h5 : (c == 94) with
  | true =>
   rw [cond_true, ifK_bool, cond_true]
   exact yes (by unfold special; rw [h1, h2, h3, h4, h5]; rfl)
  | false =>
  rw [cond_false, binV_ii, intsV_eql, byte_is c 36 36 rfl, oB, ifK_bool]
  cases h6 : (c == 36) with
  | true =>
   rw [cond_true, ifK_bool, cond_true]
   exact yes (by unfold special; rw [h1, h2, h3, h4, h5, h6]; rfl)
  | false =>
  rw [cond_false, binV_ii, intsV_eql, byte_is c 92 92 rfl, oB, ifK_bool]
  cases h7 : (c == 92) with
  | true =>
   rw [cond_true]
   exact yes (by unfold special; rw [h1, h2, h3, h4, h5, h6, h7]; rfl)
  | false =>
   rw [cond_false]
   exact no (by unfold special; rw [h1, h2, h3, h4, h5, h6, h7]; rfl)
theorem escaped_run {K : FuncId → Option KF} (h7 : K 7 = none) (m : Nat) (s : List UInt8) (hs : s.length ≤ 300) (S : St) : (ev E0 K (m + 1)).f 7 [sv s] S = some (.ret (sv (esc s)), S) := by
 refine ev_read (c := C7) (d := B7) (by kernel_rfl) (by kernel_rfl) (annot_isOf C7 _ (by kernel_rfl)) h7 (?_ : F7 (ev E0 K m) rounds (sv s) S = _)
 rw [F7_eq]
 have := L7_spec (ev E0 K m) rounds (R7_2 (ev E0 K m) rounds (finN E0 (ev E0 K m) Try.f7) noEx) (exB 0 (R7_2 (ev E0 K m) rounds (finN E0 (ev E0 K m) Try.f7) noEx) noEx) s hs s 0 rounds [] S rfl (Nat.zero_le _) (by simp; omega) (by unfold rounds; omega)
 rw [show ((0 : Nat) : Int) = 0 from rfl] at this
 rw [this, exB_same, R7_2_eq, List.nil_append]
end Go.Proofs.Ytachpdpmoihjmaa.W
namespace Go.Proofs.Ytachpdpmoihjmaa.W
open Go.Proofs.Ytachpdpmoihjmaa.Ev Go.RowKit
theorem works_runs : saysTrue ((ev E0 (fun _ => none) 400).f 9 [] s0) = true := by decide +kernel
theorem kn9 : KnWell Try.prog E0 9 kfTrue := by
 refine ⟨specKF_loc, fun w0 ρ s w args cargs e t hR hv hg => ?_⟩
 unfold kfTrue specKF at hg
 simp only at hg
 by_cases hx : ∃ x : Unit, ([] : List V) = args
 · rw [dif_pos hx] at hg
   simp only [oS, pM] at hg
   obtain ⟨rfl, rfl⟩ := hg
   obtain ⟨_, rfl⟩ := hx
   obtain ⟨l⟩ := cargs
   cases hv
   exact (closed_walk E0_ok knOk_nil glob0 works_runs w).mono fun ce w' ⟨h1, h2⟩ => ⟨ρ, .bool true, h1, Rho.le_refl ρ, .bool true, hR.grown h2⟩
 · rw [dif_neg hx] at hg; cases hg
noncomputable def K1 := knAdd (fun _ => none) 9 kfTrue
theorem ok1 : KnOk Try.prog E0 K1 := knOk_nil.add kn9
theorem take_min (l : List UInt8) (n : Nat) : List.take (min l.length n) l = l.take n := by
 rcases Nat.le_total l.length n with h | h
 · rw [Nat.min_eq_left h, List.take_length, List.take_of_length_le h]
 · rw [Nat.min_eq_right h]
theorem cutN (s : List UInt8) (n : Nat) (S : St) : sliceV E0 9 (sv s) none (some (.int .i64 ((min s.length n : Nat) : Int))) none S = some (sv (s.take n), S) := by
 rw [slice_sv und9 s (bounds_hi .i64 (Nat.min_le_left ..)) (Nat.min_le_left ..), List.drop_zero, Nat.sub_zero, take_min]
def ResL (t T : List UInt8) (fr : Nat) (z : Int) : Prop := (z = -1 ∧ ∀ i, fr ≤ i → ¬ St_ t T i) ∨ (∃ i, fr ≤ i ∧ St_ t T i ∧ (∀ j, fr ≤ j → j < i → ¬ St_ t T j) ∧ z = (i : Int))
theorem L79_done (self : EV) (N : Nat) (nk : Ac → St → Rs) (ek : Nat → Ac → St → Rs) {t T : List UInt8} (v5 v7 : V) (z i f : Nat) (S : St) (hf : 0 < f) (hT : T.length ≤ 100) (ht : t.length ≤ 100) (hi : i ≤ 200) :
 L3_79 self N nk ek f (sv t) (sv T) v5 v7 (.int .i64 (z : Int)) (.int .i64 (i : Int)) S = ek 2 (fr 96 [(0, sv t), (1, sv T), (5, v5), (7, v7), (8, .int .i64 (z : Int))]) S := by
 rw [show f = f - 1 + 1 by omega, L3_79_eq, lnStr_sv, oB]
 dsimp only
 rw [binV_ii, intsV_add, wrap_i64 (by omega) (by omega), oB, lnStr_sv, oB]
 dsimp only
 rw [binV_ii, intsV_leq, oB]
 cases decide ((i : Int) + (t.length : Int) ≤ (T.length : Int)) with
 | true =>
  simp only [guardV_t, oB, cond_true, binV_ii, intsV_lss, show decide ((z : Int) < 0) = false by rw [decide_eq_false_iff_not]; omega, pickV_bool, ifK_bool, cond_false]
 | false =>
  simp only [guardV_t, oB, cond_false, pickV_bool, ifK_bool]
theorem L79_spec (self : EV) (N : Nat) (nk : Ac → St → Rs) (ek : Nat → Ac → St → Rs) {t T : List UInt8} {fr_ : Nat} (v5 v7 : V) (hT : T.length ≤ 100) (ht : t.length ≤ 100) :
 ∀ (d i f : Nat) (S : St), d + i = T.length + 1 → fr_ ≤ i → d + 1 < f → (∀ j, fr_ ≤ j → j < i → ¬ St_ t T j) →
 ∃ z, L3_79 self N nk ek f (sv t) (sv T) v5 v7 (.int .i64 (-1)) (.int .i64 (i : Int)) S = ek 2 (fr 96 [(0, sv t), (1, sv T), (5, v5), (7, v7), (8, .int .i64 z)]) S ∧ ResL t T fr_ z
 | d, i, 0, S, _, _, hf, _ => by omega
 | 0, i, f + 1, S, hd, hfr, hf, hP => by
  refine ⟨-1, ?_, .inl ⟨rfl, fun j hj hS => ?_⟩⟩
  · rw [L3_79_eq, lnStr_sv, oB]
    dsimp only
    rw [binV_ii, intsV_add, wrap_i64 (by omega) (by omega), oB, lnStr_sv, oB]
    dsimp only
    rw [binV_ii, intsV_leq, show decide ((i : Int) + (t.length : Int) ≤ (T.length : Int)) = false by rw [decide_eq_false_iff_not]; omega, oB]
    simp only [guardV_t, oB, cond_false, pickV_bool, ifK_bool]
  · exact hP j hj (by have := hS.1; omega) hS
 | d + 1, i, f + 1, S, hd, hfr, hf, hP => by
  by_cases hle : i + t.length ≤ T.length
  · have hpre : L3_79 self N nk ek (f + 1) (sv t) (sv T) v5 v7 (.int .i64 (-1)) (.int .i64 (i : Int)) S = bif ((T.drop i).take t.length == t) then L3_79 self N nk ek f (sv t) (sv T) v5 v7 (.int .i64 (i : Int)) (.int .i64 ((i + 1 : Nat) : Int)) S else L3_79 self N nk ek f (sv t) (sv T) v5 v7 (.int .i64 (-1)) (.int .i64 ((i + 1 : Nat) : Int)) S := by
     rw [L3_79_eq, lnStr_sv, oB]
     dsimp only
     rw [binV_ii, intsV_add, wrap_i64 (by omega) (by omega), oB, lnStr_sv, oB]
     dsimp only
     rw [binV_ii, intsV_leq, show decide ((i : Int) + (t.length : Int) ≤ (T.length : Int)) = true by rw [decide_eq_true_eq]; omega, oB]
     simp only [guardV_t, oB, cond_true, binV_ii, intsV_lss, show decide ((-1 : Int) < 0) = true from rfl, pickV_bool, ifK_bool]
     rw [lnStr_sv, oB]
     dsimp only
     rw [binV_ii, intsV_add .i64 (i : Int) (t.length : Int), wrap_i64 (n := (i : Int) + (t.length : Int)) (by omega) (by omega), show (i : Int) + (t.length : Int) = ((i + t.length : Nat) : Int) by omega, oB, slice_sv und9 T (bounds_lohi .i64 .i64 (Nat.le_add_right i t.length) hle) hle, oB]
     dsimp only
     rw [binV_ss, strOp_eql, oB, ifK_bool, show i + t.length - i = t.length by omega, intsV_add, wrap_succ (by omega), oB, oB]
    cases hq : ((T.drop i).take t.length == t) with
    | true =>
     rw [hq, cond_true] at hpre
     refine ⟨(i : Int), hpre.trans (L79_done self N nk ek v5 v7 i (i + 1) f S (by omega) hT ht (by omega)), .inr ⟨i, hfr, ⟨hle, by simpa using hq⟩, hP, rfl⟩⟩
    | false =>
     rw [hq, cond_false] at hpre
     obtain ⟨z, h1, h2⟩ := L79_spec self N nk ek (fr_ := fr_) v5 v7 hT ht d (i + 1) f S (by omega) (by omega) (by omega) fun j hj1 hj2 => by
      by_cases e : j = i
      · subst e
        intro hS
        have := hS.2
        rw [this] at hq
        simp at hq
      · exact hP j hj1 (by omega)
     exact ⟨z, hpre.trans h1, h2⟩
  · refine ⟨-1, ?_, .inl ⟨rfl, fun j hj hS => ?_⟩⟩
    · rw [L3_79_eq, lnStr_sv, oB]
      dsimp only
      rw [binV_ii, intsV_add, wrap_i64 (by omega) (by omega), oB, lnStr_sv, oB]
      dsimp only
      rw [binV_ii, intsV_leq, show decide ((i : Int) + (t.length : Int) ≤ (T.length : Int)) = false by rw [decide_eq_false_iff_not]; omega, oB]
      simp only [guardV_t, oB, cond_false, pickV_bool, ifK_bool]
    · exact hP j hj (by have := hS.1; omega) hS
theorem res_same {t T : List UInt8} {fr : Nat} {o : Option (Int × Int)} {z : Int} (h : Res t T fr o) (h' : ResL t T fr z) : (o = none ∧ z = -1) ∨ ∃ i : Nat, o = some ((i : Int), ((i + t.length : Nat) : Int)) ∧ z = (i : Int) ∧ i + t.length ≤ T.length := by
 rcases h with ⟨h1, h2⟩ | ⟨i, h1, h2, h3, h4⟩
 · rcases h' with ⟨k1, k2⟩ | ⟨j, k1, k2, k3, k4⟩
   · exact .inl ⟨h1, k1⟩
   · exact absurd k2 (h2 j k1)
 · rcases h' with ⟨k1, k2⟩ | ⟨j, k1, k2, k3, k4⟩
   · exact absurd h2 (k2 i h1)
   · rcases Nat.lt_trichotomy i j with e | e | e
     · exact absurd h2 (k3 i h1 e)
     · subst e
       exact .inr ⟨i, h4, k4, h2.1⟩
     · exact absurd k2 (h3 j k1 e)
section
variable {S : St} {b r : Nat} {t T : List UInt8}
theorem L32_spec (m : Nat) (hT : T.length ≤ 100) (ht : t.length ≤ 100) (nk : Ac → St → Rs) (ek : Nat → Ac → St → Rs) :
 ∀ (d a f : Nat) (S : St), Rx S b r t → d + a = T.length + 1 → d < f →
 ∃ U, L3_32 (ev E0 K1 (m + 4)) rounds nk ek f (sv t) (sv T) (.ptr b 0) (.int .i64 (a : Int)) S = ek 0 (fr 96 []) U
 | d, a, 0, S, _, _, hf => by omega
 | 0, a, f + 1, S, h, hd, hf => by
  refine ⟨S, ?_⟩
  rw [L3_32_eq, lnStr_sv, oB]
  dsimp only
  rw [binV_ii, intsV_leq, show decide ((a : Int) ≤ (T.length : Int)) = false by rw [decide_eq_false_iff_not]; omega, oB, ifK_bool, cond_false]
 | d + 1, a, f + 1, S, h, hd, hf => by
  obtain ⟨z, h1, h2⟩ := L79_spec (ev E0 K1 (m + 4)) rounds (R3_42 (ev E0 K1 (m + 4)) rounds (R3_37 (ev E0 K1 (m + 4)) rounds (N3_32 (ev E0 K1 (m + 4)) rounds nk ek f) ek) (exB 1 (R3_37 (ev E0 K1 (m + 4)) rounds (N3_32 (ev E0 K1 (m + 4)) rounds nk ek f) ek) ek)) (exB 2 (R3_42 (ev E0 K1 (m + 4)) rounds (R3_37 (ev E0 K1 (m + 4)) rounds (N3_32 (ev E0 K1 (m + 4)) rounds nk ek f) ek) (exB 1 (R3_37 (ev E0 K1 (m + 4)) rounds (N3_32 (ev E0 K1 (m + 4)) rounds nk ek f) ek) ek)) (exB 1 (R3_37 (ev E0 K1 (m + 4)) rounds (N3_32 (ev E0 K1 (m + 4)) rounds nk ek f) ek) ek)) (t := t) (T := T) (fr_ := a) (.ptr b 0) (.int .i64 (a : Int)) hT ht (d + 1) a rounds S (by omega) (Nat.le_refl _) (by unfold rounds; omega) (fun j _ _ => by omega)
  obtain ⟨S1, v, k1, k2, k3⟩ := find_run (K := K1) rfl rfl rfl rfl rfl rfl rfl rfl m (fr_ := a) hT ht (by omega) h
  have on1 := k2.on.trans h.on
  have hb := h.hb
  have hr := h.hr
  have hx1 := h.grew (by omega) (by omega) k2
  obtain ⟨U, q⟩ := L32_spec m hT ht nk ek d (a + 1) f S1 hx1 (by omega) (by omega)
  refine ⟨U, ?_⟩
  rw [L3_32_eq, lnStr_sv, oB]
  dsimp only
  rw [binV_ii, intsV_leq, show decide ((a : Int) ≤ (T.length : Int)) = true by rw [decide_eq_true_eq]; omega, oB, ifK_bool, cond_true, h1, exB_same, R3_42_eq, k1, callP_ret, extractV_tuple, show ([v, V.bool (whole t T a).isSome] : List V)[0]? = some v from rfl, oB, extractV_tuple, show ([v, V.bool (whole t T a).isSome] : List V)[1]? = some (V.bool (whole t T a).isSome) from rfl, oB, binV_ii, intsV_geq, oB, nev_bool, oB]
  have next : R3_37 (ev E0 K1 (m + 4)) rounds (N3_32 (ev E0 K1 (m + 4)) rounds nk ek f) ek (fr 96 [(0, sv t), (1, sv T), (5, .ptr b 0), (7, .int .i64 (a : Int))]) S1 = ek 0 (fr 96 []) U := by
   rw [R3_37_eq, binV_ii, intsV_add, wrap_succ (by omega), oB, N3_32_eq, q]
  rcases res_same (whole_law (t := t) (T := T) (fr := a) (by omega)) h2 with ⟨e1, e2⟩ | ⟨i, e1, e2, e3⟩
  · rw [e1, e2]
    simp only [Option.isSome_none, show decide ((0 : Int) ≤ -1) = false from rfl, beq_self_eq_true, Bool.not_true, guardV_f, Bool.not_false, cond_true, oB, guardV_t, cond_false, guardV_no, pickV_bool, ifK_bool]
    exact next
  · obtain ⟨x, hx, hrow⟩ := k3 _ e1
    have hw : IntKind.i64.wrap ((i : Int) + (t.length : Int)) = ((i + t.length : Nat) : Int) := by rw [wrap_i64 (by omega) (by omega)]; omega
    rw [e1, e2, hx]
    simp only [Option.isSome_some, show decide ((0 : Int) ≤ (i : Int)) = true by rw [decide_eq_true_eq]; omega, beq_self_eq_true, Bool.not_true, guardV_f, Bool.not_false, cond_true, oB, guardV_t, cond_false, show lnS (.slice x 0 1 1) S1 = some (.int .i64 1, S1) from rfl, binV_ii, intsV_neq, decide_true, Bool.not_true, ixP2_0, row2_ldA on1 hrow, lnStr_sv, intsV_add, hw, build_30, neq30_same, pickV_bool, ifK_bool]
    exact next
theorem F3_spec (s text : List UInt8) (m : Nat) (S : St) (ho : S.on = false) : ∃ U, F3 (ev E0 K1 (m + 6)) rounds (sv s) (sv text) S = some (.ret (.bool true), U) := by
 have hF := F3_eq (ev E0 K1 (m + 6)) rounds (sv s) (sv text) S
 rw [lnStr_sv, oB] at hF
 dsimp only at hF
 rw [foldK_min, show min (s.length : Int) 60 = ((min s.length 60 : Nat) : Int) by omega, oB] at hF
 dsimp only at hF
 rw [cutN, oB] at hF
 dsimp only at hF
 rw [lnStr_sv, oB] at hF
 dsimp only at hF
 rw [foldK_min, show min (text.length : Int) 100 = ((min text.length 100 : Nat) : Int) by omega, oB] at hF
 dsimp only at hF
 rw [cutN, oB] at hF
 dsimp only at hF
 have lt_ : (s.take 60).length ≤ 60 := by rw [List.length_take]; omega
 have lT_ : (text.take 100).length ≤ 100 := by rw [List.length_take]; omega
 generalize s.take 60 = t at lt_ hF
 generalize text.take 100 = T at lT_ hF
 obtain ⟨S1, b, i, lv, c1, c2, c3⟩ := compile_run (K := K1) rfl rfl rfl rfl rfl rfl rfl rfl rfl rfl rfl rfl m t (by omega) S ho
 obtain ⟨r, hx, _⟩ := Rx.of c2
 obtain ⟨U, q⟩ := L32_spec (m + 2) lT_ (by omega) (R3_28 (ev E0 K1 (m + 6)) rounds (finN E0 (ev E0 K1 (m + 6)) Try.f3) noEx) (exB 0 (R3_28 (ev E0 K1 (m + 6)) rounds (finN E0 (ev E0 K1 (m + 6)) Try.f3) noEx) noEx) (T.length + 1) 0 rounds S1 hx (by omega) (by unfold rounds; omega)
 refine ⟨U, ?_⟩
 rw [show ev E0 K1 (m + 6) = ev E0 K1 (m + 5 + 1) from rfl, escaped_run rfl (m + 5) t (by omega) S, callP_ret, show ev E0 K1 (m + 5 + 1) = ev E0 K1 (m + 6) from rfl, c1, callP_ret, extractV_tuple, show ([V.ptr b 0, V.int .i64 0] : List V)[0]? = some (V.ptr b 0) from rfl, oB, extractV_tuple, show ([V.ptr b 0, V.int .i64 0] : List V)[1]? = some (V.int .i64 0) from rfl, oB, binV_ii, intsV_neq, show (!decide ((0 : Int) = 0)) = false from rfl, oB, guardV_f, oB, Bool.not_false, cond_true, oB, oB, cond_true, nil_b, oB, pickV_bool, cond_false, oB, ifK_bool, cond_false] at hF
 rw [hF]
 rw [show ((0 : Nat) : Int) = 0 from rfl] at q
 refine q.trans ?_
 rw [exB_same, R3_28_eq, show ev E0 K1 (m + 6) = ev E0 K1 (m + 5 + 1) from rfl, ev_known (show K1 9 = some kfTrue from rfl), kfTrue_run, callP_ret]
end
theorem law_run (s text : List UInt8) (S : St) (ho : S.on = false) : ∃ U, (ev E0 K1 8).f 3 [sv s, sv text] S = some (.ret (.bool true), U) := by
 obtain ⟨U, h⟩ := F3_spec s text 1 S ho
 exact ⟨U, ev_read (c := C3) (d := B3) (by kernel_rfl) (by kernel_rfl) (annot_isOf C3 _ (by kernel_rfl)) (show K1 3 = none from rfl) h⟩
theorem text_calls (W : World) (s text : ByteArray) : Calls Try.prog 3 #[.string s, .string text] W fun e w' => e = .returned (.bool true) ∧ Below W.heap.size W w' := by
 obtain ⟨U, h⟩ := law_run s.data.toList text.data.toList s0 rfl
 refine ((ev_sim E0_ok ok1 8).call (base0 W) _ s0 W 3 [sv s.data.toList, sv text.data.toList] #[.string s, .string text] _ U (relF W) (.cons (.str s) (.cons (.str text) .nil)) h).mono fun ce w' hce => ?_
 obtain ⟨ρ', cv, rfl, _, hv, hR⟩ := hce
 cases hv
 exact ⟨rfl, below_of_rel hR⟩
end Go.Proofs.Ytachpdpmoihjmaa.W
