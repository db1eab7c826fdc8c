/-
  WHAT THE FUNCTIONS COME TO: each is read by the evaluator, printed, and told as a function of data, part 12 of 12 (no condition).
-/
import Derived.Test.YthmkdoaaciamlaaW11
namespace Go.Proofs.Ythmkdoaaciamlaa.W
open Go.Proofs.Ythmkdoaaciamlaa.Ev
mutual
def sameN : Nd → Nd → Bool
 | .mk n k e d l, y => (!(tooDeepN (.mk n k e d l)) && !(tooDeepN y)) && ((n == y.name) && (decide (k = y.kind) && ((e == y.exec) && ((d == y.data) && sameL l y.kids))))
def sameL : List Nd → List Nd → Bool
 | [], [] => true
 | x :: l, y :: m => sameN x y && sameL l m
 | _, _ => false
end
theorem sameN_eq (x y : Nd) : sameN x y = ((!(tooDeepN x) && !(tooDeepN y)) && ((x.name == y.name) && (decide (x.kind = y.kind) && ((x.exec == y.exec) && ((x.data == y.data) && sameL x.kids y.kids))))) := by
 cases x; rw [sameN]; rfl
theorem sameL_len : ∀ {l m : List Nd}, l.length ≠ m.length → sameL l m = false
 | [], [], h => absurd rfl h
 | [], _ :: _, _ => rfl
 | _ :: _, [], _ => rfl
 | x :: l, y :: m, h => by rw [sameL, sameL_len (l := l) (m := m) (fun e => h (by simp [e]))]; exact Bool.and_false _
structure TwoIn where
 x : Nd
 y : Nd
 okx : x.ok
 oky : y.ok
noncomputable def encTwo (p : TwoIn) : List V := [encN p.x, encN p.y]
theorem encTwo_inj {p q : TwoIn} (h : encTwo p = encTwo q) : p.x = q.x ∧ p.y = q.y := by
 simp only [encTwo, List.cons.injEq, and_true] at h
 exact ⟨encN_inj h.1, encN_inj h.2⟩
noncomputable def outSame (p : TwoIn) : En := .ret (.bool (sameN p.x p.y))
noncomputable def kfSame : KF := specKF encTwo outSame
theorem kfSame_run (x y : Nd) (okx : x.ok) (oky : y.ok) (S : St) : kfSame.run [encN x, encN y] S = some (.ret (.bool (sameN x y)), S) :=
 specKF_run (enc := encTwo) (out := outSame) (fun p q h => by obtain ⟨h1, h2⟩ := encTwo_inj h; unfold outSame; rw [h1, h2]) ⟨x, y, okx, oky⟩ S
theorem kid_size {x y : Nd} (hy : y ∈ x.kids) : SizeOf.sizeOf y < SizeOf.sizeOf x := by
 have := List.sizeOf_lt_of_mem hy
 cases hp : x with
 | mk n k e d l =>
  rw [hp] at this
  simp only [Nd.kids] at this
  simp only [Nd.mk.sizeOf_spec]
  omega
theorem eqv_bool (a b : Bool) : binV E0 .eql 4 false false (.bool a) (.bool b) = some (.bool (a == b)) := by cases a <;> cases b <;> kernel_rfl
theorem nev_bool (a b : Bool) : binV E0 .neq 4 false false (.bool a) (.bool b) = some (.bool (!(a == b))) := by cases a <;> cases b <;> kernel_rfl
theorem L14_spec (self : EV) (N : Nat) (nk : Ac → St → Rs) (ek : Nat → Ac → St → Rs) (x y : Nd) (b c : Nat) (okx : NdOk x) (hlen : x.kids.length = y.kids.length)
 (hself : ∀ u ∈ x.kids, ∀ v ∈ y.kids, ∀ s, self.f 14 [encN u, encN v] s = some (.ret (.bool (sameN u v)), s)) (S : St) (hx : NodeAt S b x) (hy : NodeAt S c y) :
 ∀ (r t : List Nd) (i n : Nat), x.kids.drop i = r → y.kids.drop i = t → r.length < n →
 L14_51 self N nk ek n (.ptr b 0) (.ptr c 0) (.int .i64 (i : Int)) S = bif sameL r t then ek 0 (fr 68 []) S else some (.ret (.bool false), S)
 | r, t, i, 0, _, _, hn => by omega
 | [], t, i, n + 1, hi, hj, hn => by
  have h1 := drop_end hi
  rw [List.drop_eq_nil_of_le (by omega)] at hj
  subst hj
  rw [L14_51_eq]
  simp only [faP_ptr, oB, Nat.zero_add, hx.f4, lnS_kids, binV_ii, intsV_lss, dec_ge h1, sameL]
  rfl
 | u :: r, t, i, n + 1, hi, hj, hn => by
  obtain ⟨hlt, hu, hr, hmem⟩ := drop_at hi
  have hlt2 : i < y.kids.length := by omega
  rw [List.drop_eq_getElem_cons hlt2] at hj
  subst hj
  have hmem2 : y.kids[i] ∈ y.kids := List.getElem_mem hlt2
  have hfew := okx.few
  rw [L14_51_eq, sameL]
  simp only [faP_ptr, oB, Nat.zero_add, hx.f4, lnS_kids, binV_ii, intsV_lss, dec_lt hlt, ifK_bool, cond_true, hx.o4, hy.o4, ixP_kids x.kids i hlt, ixP_kids y.kids i hlt2, hu, onS_rd, onS_onS, ldA_kid, hself u hmem _ hmem2, callD_ret, unV_not]
  rw [endP_rd]
  · simp only [relog_onS hx.on]
    cases sameN u y.kids[i] with
    | false => rfl
    | true =>
     rw [Bool.true_and, Bool.not_true, cond_false, intsV_add, wrap_succ (show i < 9223372036854775807 by omega), oB]
     exact L14_spec self N nk ek x y b c okx hlen hself S hx hy r _ (i + 1) n hr rfl (by simp at hn; omega)
  · rfl
theorem F14_spec (self : EV) (x y : Nd) (okx : NdOk x) (S : St) (ho : S.on = false) (hdx : ∀ s, self.f 34 [encN x] s = some (.ret (gDeep x), s)) (hdy : ∀ s, self.f 34 [encN y] s = some (.ret (gDeep y), s))
 (hself : ∀ u ∈ x.kids, ∀ v ∈ y.kids, ∀ s, self.f 14 [encN u, encN v] s = some (.ret (.bool (sameN u v)), s)) :
 ∃ S', F14 self rounds (encN x) (encN y) S = some (.ret (.bool (sameN x y)), S') ∧ Grew (fun _ => False) S S' := by
 obtain ⟨S1, a1, a2, a3, a4⟩ := node_box ho x
 obtain ⟨S2, b1, b2, b3, b4⟩ := node_box a2.on y
 have hx := a2.grew (by omega) (fun h => h) b3
 refine ⟨S2, ?_, a3.trans b3⟩
 have hdeep : ∀ z : Nd, decide ((12 : Int) < (deepN 14 z : Int)) = tooDeepN z := fun z => by unfold tooDeepN; rw [decide_eq_decide]; omega
 rw [F14_eq, a1, sameN_eq]
 simp only [oB, b1, hx.fA, hdx, callP_ret, gDeep, binV_ii, intsV_gtr, hdeep, guardV_f]
 cases tooDeepN x with
 | true => rfl
 | false =>
  simp only [Bool.not_false, cond_true, b2.fA, oB, hdy, callP_ret, gDeep, binV_ii, intsV_gtr, hdeep, pickV_bool, cond_false, Bool.true_and, ifK_bool]
  cases tooDeepN y with
  | true => rfl
  | false =>
   simp only [Bool.not_false, cond_false, Bool.true_and, faP_ptr, oB, Nat.zero_add, hx.f0, b2.f0, binV_ss, strOp_neq, guardV_f, Bool.not_not]
   cases x.name == y.name with
   | false => rfl
   | true =>
    simp only [Bool.not_true, cond_true, oB, hx.f1, b2.f1, binV_ii, intsV_neq, pickV_bool, cond_false, guardV_f, Bool.not_not, Bool.true_and]
    by_cases hk : x.kind = y.kind
    · rw [decide_eq_true hk]
      simp only [Bool.not_true, Bool.not_false, cond_true, oB, hx.f2, b2.f2, nev_bool, pickV_bool, cond_false, guardV_f, Bool.not_not, Bool.true_and]
      cases x.exec == y.exec with
      | false => rfl
      | true =>
       simp only [Bool.not_true, cond_true, oB, hx.f3, b2.f3, binV_ss, strOp_neq, pickV_bool, cond_false, guardV_f, Bool.not_not, Bool.true_and]
       cases x.data == y.data with
       | false => rfl
       | true =>
        simp only [Bool.not_true, cond_true, oB, hx.f4, b2.f4, lnS_kids, binV_ii, intsV_neq, pickV_bool, cond_false, Bool.true_and, ifK_bool]
        by_cases hl : x.kids.length = y.kids.length
        · rw [decide_eq_true (show (x.kids.length : Int) = (y.kids.length : Int) by omega), Bool.not_true, cond_false]
          rw [show (V.int .i64 0) = .int .i64 ((0 : Nat) : Int) from rfl, L14_spec self rounds _ _ x y S.next S1.next okx hl hself S2 hx b2 x.kids y.kids 0 rounds rfl rfl (by have := okx.few; unfold rounds; omega), exB_same, R14_48_eq]
          cases sameL x.kids y.kids <;> rfl
        · rw [decide_eq_false (show ¬ (x.kids.length : Int) = (y.kids.length : Int) by omega), sameL_len hl]
          rfl
    · rw [decide_eq_false hk]
      rfl
theorem kn14 {K : FuncId → Option KF} (hK : KnOk Try.prog E0 K) (h34 : K 34 = some (kfNode gDeep)) : KnWell Try.prog E0 14 kfSame :=
 specKF_rec (fn := Try.f14) (c := C14) (d := B14) (fun p : TwoIn => SizeOf.sizeOf p.x) (fun p q h => by obtain ⟨h1, h2⟩ := encTwo_inj h; unfold outSame; rw [h1, h2]; exact ⟨rfl, rfl⟩) E0_ok hK (by kernel_rfl) (by kernel_rfl) (annot_isOf C14 _ (by kernel_rfl)) fun K' hK' p s hself ho => by
  have h34' : K' 34 = some (kfNode gDeep) := by rw [hK' 34 (by decide)]; exact h34
  obtain ⟨S', h1, h2⟩ := F14_spec (ev E0 K' 1) p.x p.y p.okx.at s ho (fun s => by rw [ev_known h34']; exact kfNode_run _ _ p.okx s) (fun s => by rw [ev_known h34']; exact kfNode_run _ _ p.oky s)
   (fun u hu v hv s => hself ⟨u, v, p.okx.at.kids u hu, p.oky.at.kids v hv⟩ s 0 (kid_size hu))
  exact ⟨1, _, S', h1, h2, Fz.same (.bool _)⟩
theorem L37_spec (self : EV) (N : Nat) (nk : Ac → St → Rs) (ek : Nat → Ac → St → Rs) (l m : List Nd) (hfew : l.length ≤ 3000) (hlen : l.length = m.length)
 (hself : ∀ u ∈ l, ∀ v ∈ m, ∀ s, callK E0 self (.fn (.func 16) [] []) [encN u, encN v] s = some (.ret (.bool (sameN u v)), s)) :
 ∀ (r t : List Nd) (i n : Nat) (S : St), l.drop i = r → m.drop i = t → r.length < n → S.on = false →
 ∃ S', L37_12 self N nk ek n (kidsV (encL m)) (.fn (.func 16) [] []) (kidsV (encL l)) (.int .i64 (l.length : Int)) (.int .i64 (i : Int)) S = (bif sameL r t then ek 0 (fr 32 []) S' else some (.ret (.bool false), S')) ∧ Grew (fun _ => False) S S'
 | r, t, i, 0, S, _, _, hn, _ => by omega
 | [], t, i, n + 1, S, hi, hj, hn, ho => by
  have h1 := drop_end hi
  rw [List.drop_eq_nil_of_le (by omega)] at hj
  subst hj
  rw [L37_12_eq]
  simp only [binV_ii, intsV_lss, dec_ge h1, sameL]
  exact ⟨S, rfl, Grew.refl _ _⟩
 | u :: r, t, i, n + 1, S, hi, hj, hn, ho => by
  obtain ⟨hlt, hu, hr, hmem⟩ := drop_at hi
  have hlt2 : i < m.length := by omega
  rw [List.drop_eq_getElem_cons hlt2] at hj
  subst hj
  have hmem2 : m[i] ∈ m := List.getElem_mem hlt2
  obtain ⟨S1, k1, k2, k3, k4⟩ := node_new ho (Tr.ofListFrom .nil [(sv []), (.int .i64 0), (.bool false), (sv []), .nilslice] 0) u
  obtain ⟨S2, m1, m2, m3, m4⟩ := node_new k2.on (Tr.ofListFrom .nil [(sv []), (.int .i64 0), (.bool false), (sv []), .nilslice] 0) m[i]
  have k2' := k2.grew (by omega) (fun h => h) m3
  rw [L37_12_eq, sameL]
  simp only [binV_ii, intsV_lss, dec_lt hlt, oB, ifK_bool, cond_true, ixP_kids l i hlt, ixP_kids m i hlt2, hu, ldA_kid, nwP_fst, k1, m1, k2'.fA, m2.fA, hself u hmem _ hmem2, callP_ret, unV_not]
  cases sameN u m[i] with
  | false => exact ⟨S2, rfl, k3.trans m3⟩
  | true =>
   rw [Bool.true_and, Bool.not_true, cond_false, intsV_add, wrap_succ (show i < 9223372036854775807 by omega), oB]
   obtain ⟨S', h1, h2⟩ := L37_spec self N nk ek l m hfew hlen hself r _ (i + 1) n S2 hr rfl (by simp at hn; omega) m2.on
   exact ⟨S', h1, (k3.trans m3).trans h2⟩
theorem F37_spec (self : EV) (l m : List Nd) (hfew : l.length ≤ 3000) (S : St) (ho : S.on = false)
 (hself : ∀ u ∈ l, ∀ v ∈ m, ∀ s, callK E0 self (.fn (.func 16) [] []) [encN u, encN v] s = some (.ret (.bool (sameN u v)), s)) :
 ∃ S', F37 self rounds (kidsV (encL l)) (kidsV (encL m)) (.fn (.func 16) [] []) S = some (.ret (.bool (sameL l m)), S') ∧ Grew (fun _ => False) S S' := by
 rw [F37_eq]
 simp only [lnS_kids, oB, binV_ii, intsV_neq, ifK_bool]
 by_cases hl : l.length = m.length
 · rw [decide_eq_true (show (l.length : Int) = (m.length : Int) by omega), Bool.not_true, cond_false]
   obtain ⟨S', h1, h2⟩ := L37_spec self rounds (R37_7 self rounds (finN E0 self Try.f37) noEx) (exB 0 (R37_7 self rounds (finN E0 self Try.f37) noEx) noEx) l m hfew hl hself l m 0 rounds S rfl rfl (by unfold rounds; omega) ho
   refine ⟨S', ?_, h2⟩
   rw [show (V.int .i64 0) = .int .i64 ((0 : Nat) : Int) from rfl, h1, exB_same, R37_7_eq]
   cases sameL l m <;> rfl
 · rw [decide_eq_false (show ¬ (l.length : Int) = (m.length : Int) by omega), sameL_len hl]
   exact ⟨S, rfl, Grew.refl _ _⟩
theorem F16_spec (self : EV) (x y : Nd) (S : St) (ho : S.on = false) (hdx : ∀ s, self.f 35 [encN x] s = some (.ret (gTooDeep x), s)) (hdy : ∀ s, self.f 35 [encN y] s = some (.ret (gTooDeep y), s))
 (h37 : ∀ s, s.on = false → ∃ S', self.f 37 [kidsV (encL x.kids), kidsV (encL y.kids), .fn (.func 16) [] []] s = some (.ret (.bool (sameL x.kids y.kids)), S') ∧ Grew (fun _ => False) s S') :
 ∃ S', F16 self rounds (encN x) (encN y) S = some (.ret (.bool (sameN x y)), S') ∧ Grew (fun _ => False) S S' := by
 obtain ⟨S1, a1, a2, a3, a4⟩ := node_box ho x
 obtain ⟨S2, b1, b2, b3, b4⟩ := node_box a2.on y
 have hx := a2.grew (by omega) (fun h => h) b3
 have g := a3.trans b3
 rw [F16_eq, a1, sameN_eq]
 simp only [oB, b1, hx.fA, hdx, callP_ret, gTooDeep, guardV_f]
 cases tooDeepN x with
 | true => exact ⟨S2, rfl, g⟩
 | false =>
  simp only [Bool.not_false, cond_true, b2.fA, oB, hdy, callP_ret, gTooDeep, pickV_bool, cond_false, Bool.true_and, ifK_bool]
  cases tooDeepN y with
  | true => exact ⟨S2, rfl, g⟩
  | false =>
   simp only [Bool.not_false, cond_false, Bool.true_and, faP_ptr, oB, Nat.zero_add, hx.f0, b2.f0, binV_ss, strOp_eql, guardV_t]
   cases x.name == y.name with
   | false => exact ⟨S2, rfl, g⟩
   | true =>
    simp only [cond_true, oB, hx.f1, b2.f1, binV_ii, intsV_eql, pickV_bool, guardV_t, Bool.true_and]
    by_cases hk : x.kind = y.kind
    · rw [decide_eq_true hk]
      simp only [cond_true, oB, hx.f2, b2.f2, eqv_bool, pickV_bool, guardV_t, Bool.true_and]
      cases x.exec == y.exec with
      | false => exact ⟨S2, rfl, g⟩
      | true =>
       simp only [cond_true, oB, hx.f3, b2.f3, binV_ss, strOp_eql, pickV_bool, guardV_t, Bool.true_and]
       cases x.data == y.data with
       | false => exact ⟨S2, rfl, g⟩
       | true =>
        obtain ⟨S3, c1, c2⟩ := h37 S2 b2.on
        simp only [cond_true, oB, hx.f4, b2.f4, c1, callP_ret, pickV_bool, Bool.true_and]
        exact ⟨S3, rfl, g.trans c2⟩
    · rw [decide_eq_false hk]
      exact ⟨S2, rfl, g⟩
theorem kn16 {K : FuncId → Option KF} (hK : KnOk Try.prog E0 K) (h35 : K 35 = some (kfNode gTooDeep)) (h37 : K 37 = none) : KnWell Try.prog E0 16 kfSame :=
 specKF_rec (fn := Try.f16) (c := C16) (d := B16) (fun p : TwoIn => SizeOf.sizeOf p.x) (fun p q h => by obtain ⟨h1, h2⟩ := encTwo_inj h; unfold outSame; rw [h1, h2]; exact ⟨rfl, rfl⟩) E0_ok hK (by kernel_rfl) (by kernel_rfl) (annot_isOf C16 _ (by kernel_rfl)) fun K' hK' p s hself ho => by
  have h35' : K' 35 = some (kfNode gTooDeep) := by rw [hK' 35 (by decide)]; exact h35
  have h37' : K' 37 = none := by rw [hK' 37 (by decide)]; exact h37
  obtain ⟨S', h1, h2⟩ := F16_spec (ev E0 K' 2) p.x p.y s ho (fun s => by rw [ev_known (n := 1) h35']; exact kfNode_run _ _ p.okx s) (fun s => by rw [ev_known (n := 1) h35']; exact kfNode_run _ _ p.oky s)
   (fun s ho => by
    obtain ⟨S', k1, k2⟩ := F37_spec (ev E0 K' 1) p.x.kids p.y.kids p.okx.at.few s ho fun u hu v hv s => by
     have := hself ⟨u, v, p.okx.at.kids u hu, p.oky.at.kids v hv⟩ s 0 (kid_size hu)
     show (ev E0 K' 1).f 16 [encN u, encN v] s = _
     exact this
    exact ⟨S', ev_read (c := C37) (d := B37) (by kernel_rfl) (by kernel_rfl) (annot_isOf C37 _ (by kernel_rfl)) h37' k1, k2⟩)
  exact ⟨2, _, S', h1, h2, Fz.same (.bool _)⟩
end Go.Proofs.Ythmkdoaaciamlaa.W
namespace Go.Proofs.Ythmkdoaaciamlaa.W
open Go.Proofs.Ythmkdoaaciamlaa.Ev
theorem foldmax_ge {α : Type} (f : α → Nat) : ∀ (l : List α) (d : Nat), d ≤ l.foldl (fun d y => max d (1 + f y)) d ∧ ∀ y ∈ l, 1 + f y ≤ l.foldl (fun d y => max d (1 + f y)) d
 | [], d => ⟨Nat.le_refl _, fun _ h => (by cases h)⟩
 | x :: l, d => by
  obtain ⟨h1, h2⟩ := foldmax_ge f l (max d (1 + f x))
  refine ⟨Nat.le_trans (Nat.le_max_left _ _) h1, fun y hy => ?_⟩
  rcases List.mem_cons.1 hy with rfl | hy
  · exact Nat.le_trans (Nat.le_max_right _ _) h1
  · exact h2 y hy
theorem foldl_max_same {α : Type} (f g : α → Nat) : ∀ (l : List α) (d : Nat), (∀ y ∈ l, f y = g y) → l.foldl (fun d y => max d (1 + f y)) d = l.foldl (fun d y => max d (1 + g y)) d
 | [], d, _ => rfl
 | x :: l, d, h => by
  rw [List.foldl_cons, List.foldl_cons, h x (List.mem_cons_self ..)]
  exact foldl_max_same f g l _ fun y hy => h y (List.mem_cons_of_mem _ hy)
theorem deep_settled : ∀ (m : Nat) (x : Nd), deepN m x < m → ∀ k, m ≤ k → deepN k x = deepN m x
 | 0, x, h, _, _ => by omega
 | m + 1, x, h, 0, hk => by omega
 | m + 1, x, h, k + 1, hk => by
  rw [deepN] at h ⊢
  rw [deepN]
  by_cases h2 : x.kind = 2
  · by_cases hm : m = 0
    · rw [if_pos (.inr hm)] at h; omega
    · rw [if_neg (by omega)] at h ⊢
      rw [if_neg (by omega)]
      exact foldl_max_same _ _ _ _ fun y hy => deep_settled m y (by have := (foldmax_ge (fun y => deepN m y) x.kids 1).2 y hy; omega) k (by omega)
  · rw [if_pos (.inl h2), if_pos (.inl h2)]
theorem deep_kid {m : Nat} {x y : Nd} (h2 : x.kind = 2) (hy : y ∈ x.kids) (h : deepN (m + 1) x < m + 1) : deepN m y < deepN (m + 1) x := by
 rw [deepN] at h ⊢
 by_cases hm : m = 0
 · rw [if_pos (.inr hm)] at h; omega
 · rw [if_neg (by omega)] at h ⊢
   have := (foldmax_ge (fun y => deepN m y) x.kids 1).2 y hy
   have this := this
   omega
theorem mayL_kid : ∀ {l : List Nd} {p : Option (List UInt8)}, mayL p l = true → ∀ y ∈ l, mayN y = true
 | x :: l, p, h, y, hy => by
  rw [mayL] at h
  simp only [Bool.and_eq_true] at h
  rcases List.mem_cons.1 hy with rfl | hy
  · exact h.1.1.2
  · exact mayL_kid h.2 y hy
theorem may_kids {x : Nd} (h : mayN x = true) : (x.kind = 2 ∧ ∀ y ∈ x.kids, mayN y = true) ∨ x.kids = [] := by
 rw [mayN_eq] at h
 by_cases h1 : x.kind = 1
 · rw [if_pos h1] at h; exact .inr (by simpa using h)
 · rw [if_neg h1] at h
   by_cases h3 : x.kind = 3
   · rw [if_pos h3] at h
     simp only [Bool.and_eq_true] at h
     exact .inr (by simpa using h.2.1.1.2)
   · rw [if_neg h3] at h
     by_cases h2 : x.kind = 2
     · rw [if_pos h2] at h
       simp only [Bool.and_eq_true] at h
       exact .inl ⟨h2, mayL_kid h.1⟩
     · rw [if_neg h2] at h; cases h
theorem sameL_refl : ∀ {l : List Nd}, (∀ y ∈ l, sameN y y = true) → sameL l l = true
 | [], _ => rfl
 | x :: l, h => by rw [sameL, h x (List.mem_cons_self ..), sameL_refl fun y hy => h y (List.mem_cons_of_mem _ hy)]; rfl
theorem same_refl : ∀ (m : Nat) (x : Nd), m ≤ 14 → mayN x = true → deepN m x < m → deepN m x ≤ 12 → sameN x x = true
 | 0, x, _, _, h, _ => by omega
 | m + 1, x, hm, may, h1, h2 => by
  have ht : tooDeepN x = false := by
   unfold tooDeepN
   rw [deep_settled (m + 1) x h1 14 hm]
   simpa using h2
  rw [sameN_eq, ht, beq_self_eq_true, beq_self_eq_true, beq_self_eq_true, decide_eq_true rfl]
  simp only [Bool.not_false, Bool.and_self, Bool.true_and]
  rcases may_kids may with ⟨hk, hkids⟩ | h0
  · refine sameL_refl fun y hy => ?_
    have := deep_kid hk hy h1
    exact same_refl m y (by omega) (hkids y hy) (by omega) (by omega)
  · rw [h0]; rfl
theorem same_taken {x : Nd} {s : List UInt8} (ok : x.ok) (h0 : (encodeN x).2 = 0) (hs : (encodeN x).1 = s) : sameN x x = true := by
 have t := taken ok h0 hs
 exact same_refl 14 x (by omega) t.may (by have := t.deep; omega) t.deep
theorem same_noN : sameN noN noN = true := by decide
theorem same_dec (s : List UInt8) (hs : s.length ≤ 3001) : sameN (decW s).1 (decW s).1 = true := by
 rcases decW_cases s hs with h | ⟨n, h, ok, h0, h1⟩
 · rw [h]; exact same_noN
 · rw [h]; exact same_taken ok h0 h1
end Go.Proofs.Ythmkdoaaciamlaa.W
namespace Go.Proofs.Ythmkdoaaciamlaa.W
open Go.Proofs.Ythmkdoaaciamlaa.Ev Go.RowKit
noncomputable def K24a := knAdd K24 55 kfLose
theorem ok24a : KnOk Try.prog E0 K24a := ok24.add (kn55 ok24)
noncomputable def K25 := knAdd K24a 54 kfNum
theorem ok25 : KnOk Try.prog E0 K25 := ok24a.add (kn54 ok24a rfl rfl)
noncomputable def K26 := knAdd K25 31 kfText'
theorem ok26 : KnOk Try.prog E0 K26 := ok25.add (kn31 ok25 rfl rfl)
noncomputable def K27 := knAdd K26 32 kfRead
theorem ok27 : KnOk Try.prog E0 K27 := ok26.add (kn32 ok26 rfl rfl rfl)
noncomputable def K28 := knAdd K27 13 (kfDec decR)
theorem ok28 : KnOk Try.prog E0 K28 := ok27.add (kn13 ok27 rfl rfl rfl rfl)
theorem wk28 : WK K28 := ⟨rfl, rfl, rfl, rfl, rfl, rfl, rfl, rfl⟩
noncomputable def K29 := knAdd K28 29 kfNd
theorem ok29 : KnOk Try.prog E0 K29 := ok28.add (kn29 ok28 wk28 rfl rfl rfl)
theorem wk29 : WK K29 := ⟨rfl, rfl, rfl, rfl, rfl, rfl, rfl, rfl⟩
noncomputable def K30 := knAdd K29 12 kfDecW
theorem ok30 : KnOk Try.prog E0 K30 := ok29.add (kn12 ok29 wk29 rfl rfl rfl)
noncomputable def K31 := knAdd K30 14 kfSame
theorem ok31 : KnOk Try.prog E0 K31 := ok30.add (kn14 ok30 rfl)
noncomputable def K32 := knAdd K31 16 kfSame
theorem ok32 : KnOk Try.prog E0 K32 := ok31.add (kn16 ok31 rfl rfl)
theorem noN_ok : noN.ok := by
 unfold noN
 rw [Nd.ok]
 refine ⟨by decide, by decide, by decide, by decide, by decide, trivial⟩
theorem dec_ok (s : List UInt8) (hs : s.length ≤ 3001) : (decW s).1.ok := by
 rcases decW_cases s hs with h | ⟨n, h, ok, _⟩
 · rw [h]; exact noN_ok
 · rw [h]; exact ok
theorem cut_sv (s : List UInt8) (S : St) : sliceV E0 9 (sv s) none (some (.int .i64 ((min s.length 3000 : Nat) : Int))) none S = some (sv (s.take 3000), S) := by
 rw [slice_sv und9 s (bounds_hi .i64 (Nat.min_le_left ..)) (Nat.min_le_left ..), List.drop_zero, Nat.sub_zero, show List.take (min s.length 3000) s = s.take 3000 by
  rcases Nat.le_total s.length 3000 with h | h
  · rw [Nat.min_eq_left h, List.take_length, List.take_of_length_le h]
  · rw [Nat.min_eq_right h]]
theorem F4_spec (s : List UInt8) (S : St) (ho : S.on = false) : ∃ S', F4 (ev E0 K32 1) rounds (sv s) S = some (.ret (.bool true), S') := by
 have hfit : (s.take 3000).length ≤ 3001 := by rw [List.length_take]; omega
 have hone := dec_one (s.take 3000) hfit
 have hok := dec_ok (s.take 3000) hfit
 have hself := same_dec (s.take 3000) hfit
 have hF := F4_eq (ev E0 K32 1) rounds (sv s) S
 rw [lnStr_sv, oB, foldK_min, show min (s.length : Int) 3000 = ((min s.length 3000 : Nat) : Int) by omega, oB] at hF
 dsimp only at hF
 rw [cut_sv, oB] at hF
 dsimp only at hF
 generalize s.take 3000 = t at hF hfit hone hok hself
 rw [ev_known (show K32 12 = some kfDecW from rfl), kfDecW_run t (.inl hfit), callP_ret, extractV_tuple, extractV_tuple, show ([encN (decW t).1, .int .i64 (decW t).2] : List V)[0]? = some (encN (decW t).1) from rfl, show ([encN (decW t).1, .int .i64 (decW t).2] : List V)[1]? = some (.int .i64 (decW t).2) from rfl, oB, oB, oB, nwP_fst] at hF
 obtain ⟨S1, a1, a2, a3, a4⟩ := node_new ho (Tr.ofListFrom .nil [(sv []), (.int .i64 0), (.bool false), (sv []), .nilslice] 0) (decW t).1
 rw [a1, oB] at hF
 dsimp only at hF
 rw [ev_known (show K32 13 = some (kfDec decR) from rfl), kfDec_run decR t hfit, hone, callP_ret, extractV_tuple, extractV_tuple, show ([encN (decW t).1, .int .i64 (decW t).2] : List V)[0]? = some (encN (decW t).1) from rfl, show ([encN (decW t).1, .int .i64 (decW t).2] : List V)[1]? = some (.int .i64 (decW t).2) from rfl, oB, oB, oB, nwP_fst] at hF
 obtain ⟨S2, b1, b2, b3, b4⟩ := node_new a2.on (Tr.ofListFrom .nil [(sv []), (.int .i64 0), (.bool false), (sv []), .nilslice] 0) (decW t).1
 have a2' := a2.grew (by omega) (fun h => h) b3
 rw [b1, oB] at hF
 dsimp only at hF
 rw [binV_ii, intsV_eql, decide_eq_true rfl, oB, guardV_t, oB, cond_true, a2'.fA, oB, oB, cond_true] at hF
 dsimp only at hF
 rw [b2.fA, oB, oB, cond_true] at hF
 dsimp only at hF
 rw [ev_known (show K32 14 = some kfSame from rfl), kfSame_run _ _ hok hok, callP_ret, hself, show pickV (.bool true) (some (.bool true)) (some (.bool false)) = some (.bool true) from rfl, oB, guardV_t, oB, cond_true, ev_known (show K32 11 = some kfTrue from rfl), kfTrue_run, callP_ret] at hF
 exact ⟨S2, hF⟩
theorem reads_run (s : List UInt8) (S : St) (ho : S.on = false) : ∃ S', (ev E0 K32 2).f 4 [sv s] S = some (.ret (.bool true), S') := by
 obtain ⟨S', h⟩ := F4_spec s S ho
 exact ⟨S', ev_read (c := C4) (d := B4) (by kernel_rfl) (by kernel_rfl) (annot_isOf C4 _ (by kernel_rfl)) (show K32 4 = none from rfl) h⟩
theorem reads_calls (W : World) (s : ByteArray) : Calls Try.prog 4 #[.string s] W fun e w' => e = .returned (.bool true) ∧ Below W.heap.size W w' := by
 obtain ⟨S', h⟩ := reads_run s.data.toList s0 rfl
 refine ((ev_sim E0_ok ok32 2).call (base0 W) _ s0 W 4 [sv s.data.toList] #[.string s] _ S' (relF W) (.cons (.str s) .nil) h).mono fun ce w' hce => ?_
 obtain ⟨ρ', cv, rfl, _, hv, hR⟩ := hce
 cases hv
 exact ⟨rfl, below_of_rel hR⟩
end Go.Proofs.Ythmkdoaaciamlaa.W
