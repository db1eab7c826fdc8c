/-
  WHAT THE FUNCTIONS COME TO: each is read by the evaluator, printed, and told as a function of data, part 3 of 5 (no condition).
-/
import Derived.Test.YtginkdeicmdmaaaW2
namespace Go.Proofs.Ytginkdeicmdmaaa.W
open Go.Proofs.Ytginkdeicmdmaaa.Ev Go.RowKit
section
variable {S T U : St}
theorem Grew.fresh {a b c : St} {N : Nat} (h : Grew (fun _ => False) a b) (hN : a.next ≤ N) (k : Grew (fun x => N ≤ x) b c) : Grew (fun _ => False) a c :=
 ⟨Nat.le_trans h.next k.next, k.on.trans h.on, fun x hx hw => (k.keep x (Nat.lt_of_lt_of_le hx h.next) (by omega)).trans (h.keep x hx hw)⟩
theorem box_map (ho : S.on = false) (e m : Nat) : ∃ t, boxK e (.map m) S = some (.ptr S.next 0, t) ∧ Bx t S.next e [.map m] ∧ Grew (fun _ => False) S t ∧ t.next = S.next + 1 := box_one ho e ⟨rfl, rfl, rfl, rfl⟩
theorem take_push {α : Type} {l : List α} {i : Nat} (h : i < l.length) : l.take (i + 1) = l.take i ++ [l[i]] := (List.take_append_getElem h).symm
theorem filter_push {α : Type} (f : α → Bool) (l : List α) (a : α) : (l ++ [a]).filter f = l.filter f ++ (if f a then [a] else []) := by
 rw [List.filter_append]
 by_cases h : f a = true
 · simp [h]
 · simp [h]
theorem L26_spec {n N : Nat} (ho : S.on = false) {v10 fv : V} {ks : List Bs} {f : Bs → Bool} (hk : TL S v10 ks) (hlen : ks.length < 100000) (hf : ∀ U, Grew (fun _ => False) S U → ∀ k ∈ ks, callK E0 (ev E0 KD n) fv [sv k] U = some (.ret (.bool (f k)), U)) (nk : Ac → St → Rs) (ek : Nat → Ac → St → Rs) :
 ∀ (d i k : Nat) (v5 : V) (U : St), i + d = ks.length → d < k → Grew (fun _ => False) S U → TLo U v5 ((ks.take i).filter f) S.next →
 ∃ v T, L26_10 (ev E0 KD n) N nk ek k fv v5 v10 (.int .i64 (ks.length : Int)) (.int .i64 (i : Int)) U = ek 0 (fr 25 [(5, v)]) T ∧ Grew (fun _ => False) S T ∧ TLo T v (ks.filter f) S.next
 | d, i, 0, v5, U, _, hk, _, _ => by omega
 | 0, i, k + 1, v5, U, hi, hkk, g, ht => by
  refine ⟨v5, U, ?_, g, ?_⟩
  · rw [L26_10_eq, binV_ii, intsV_lss, dec_ge (by omega), oB, ifK_bool, cond_false]
  · rw [List.take_of_length_le (by omega)] at ht; exact ht
 | d + 1, i, k + 1, v5, U, hi, hkk, g, ht => by
  have onU := g.on.trans ho
  have hlt : i < ks.length := by omega
  obtain ⟨p, p1, p2⟩ := (hk.grew0 g).ld onU (List.getElem?_eq_getElem hlt)
  rw [L26_10_eq, binV_ii, intsV_lss, dec_lt hlt, oB, ifK_bool, cond_true, p1, oB, p2, oB]
  dsimp only
  rw [hf U g _ (List.getElem_mem hlt), callP_ret, ifK_bool]
  have hadd : binV E0 .add 3 false true (.int .i64 (i : Int)) (.int .i64 1) = some (.int .i64 ((i + 1 : Nat) : Int)) := by
   rw [binV_ii, intsV_add, wrap_succ (by omega)]
  cases hq : f ks[i] with
  | true =>
   have hl : ((ks.take i).filter f).length < 100000 := Nat.lt_of_le_of_lt (List.length_filter_le _ _) (by rw [List.length_take]; omega)
   obtain ⟨y, W, v', T, b1, b2, b3, b4⟩ := ht.push onU g.next hl ks[i]
   rw [cond_true, b1, oB]
   dsimp only
   rw [b2, oB]
   dsimp only
   rw [hadd, oB]
   exact L26_spec ho hk hlen hf nk ek d (i + 1) k v' T (by omega) (by omega) (Grew.fresh g (Nat.le_refl _) b4) (by rw [take_push hlt, filter_push, hq, if_pos rfl]; exact b3)
  | false =>
   rw [cond_false, hadd, oB]
   exact L26_spec ho hk hlen hf nk ek d (i + 1) k v5 U (by omega) (by omega) g (by rw [take_push hlt, filter_push, hq, if_neg (by simp), List.append_nil]; exact ht)
theorem kept26_run (n : Nat) (ho : S.on = false) {m : Nat} {kv : List (Bs × V)} (hM : MapS S m kv) (hm : m < S.next) (hn : (kv.map (·.1)).Nodup) (hs : ∀ p ∈ kv, p.1.length < 4611686018427387904) (hl : kv.length < 100000) {fv : V} {f : Bs → Bool}
 (hf : ∀ U, Grew (fun _ => False) S U → ∀ k ∈ kv.map (·.1), callK E0 (ev E0 KD (n + 1)) fv [sv k] U = some (.ret (.bool (f k)), U)) :
 ∃ v U, (ev E0 KD (n + 2)).f 26 [.map m, fv] S = some (.ret v, U) ∧ TLo U v ((sortB (kv.map (·.1))).filter f) S.next ∧ Grew (fun _ => False) S U := by
 obtain ⟨A, a1, a2, a3, a4⟩ := box_map ho 46 m
 have onA := a3.on.trans ho
 have hk : (ev E0 KD (n + 1)).f 45 [.map m] S = some (.ret (.fn (.func 53) [] [.ptr S.next 0]), A) := rd45 (by
  show F45 (ev E0 KD n) rounds (.map m) S = _
  rw [F45_eq, a1]; rfl)
 obtain ⟨v7, B, b1, b2, b3⟩ := sorted_run n onA (g := 53) (by decide) a2 (hM.grew hm (fun h => h) a3) hn hs (by omega)
 have onB := b3.on.trans onA
 have gB := a3.trans b3
 have hlen : (sortB (kv.map (·.1))).length < 100000 := by rw [(sortB_perm _).length_eq, List.length_map]; exact hl
 obtain ⟨v, T, t1, t2, t3⟩ := L26_spec (n := n + 1) (N := rounds) onB b2 hlen (fun U g k hk => hf U (gB.trans g) k (mem_sortB.1 hk)) (R26_2 (ev E0 KD (n + 1)) rounds (finN E0 (ev E0 KD (n + 1)) Try.f26) noEx) (exB 0 (R26_2 (ev E0 KD (n + 1)) rounds (finN E0 (ev E0 KD (n + 1)) Try.f26) noEx) noEx) _ 0 rounds .nilslice B (Nat.zero_add _) (by unfold rounds; omega) (Grew.refl _ _) .nil
 refine ⟨v, T, rd26 ?_, ?_, gB.trans t2⟩
 · show F26 (ev E0 KD (n + 1)) rounds (.map m) fv S = _
   rw [F26_eq, hk, callP_ret, b1, callP_ret, b2.len, oB]
   dsimp only
   rw [show (V.int .i64 0) = .int .i64 ((0 : Nat) : Int) from rfl, t1, exB_same, R26_2_eq]
 · rcases t3 with h | ⟨r, h0, h1, h2, h3, h4⟩
   · exact .inl h
   · exact .inr ⟨r, h0, h1, h2, Nat.le_trans gB.next h3, h4⟩
theorem L30_spec {n N : Nat} (ho : S.on = false) {v10 fv : V} {ks : List Bs} {f : Bs → Bool} (hk : TL S v10 ks) (hlen : ks.length < 100000) (hf : ∀ U, Grew (fun _ => False) S U → ∀ k ∈ ks, callK E0 (ev E0 KD n) fv [sv k] U = some (.ret (.bool (f k)), U)) (nk : Ac → St → Rs) (ek : Nat → Ac → St → Rs) :
 ∀ (d i k : Nat) (v5 : V) (U : St), i + d = ks.length → d < k → Grew (fun _ => False) S U → TLo U v5 ((ks.take i).filter f) S.next →
 ∃ v T, L30_10 (ev E0 KD n) N nk ek k fv v5 v10 (.int .i64 (ks.length : Int)) (.int .i64 (i : Int)) U = ek 0 (fr 25 [(5, v)]) T ∧ Grew (fun _ => False) S T ∧ TLo T v (ks.filter f) S.next
 | d, i, 0, v5, U, _, hk, _, _ => by omega
 | 0, i, k + 1, v5, U, hi, hkk, g, ht => by
  refine ⟨v5, U, ?_, g, ?_⟩
  · rw [L30_10_eq, binV_ii, intsV_lss, dec_ge (by omega), oB, ifK_bool, cond_false]
  · rw [List.take_of_length_le (by omega)] at ht; exact ht
 | d + 1, i, k + 1, v5, U, hi, hkk, g, ht => by
  have onU := g.on.trans ho
  have hlt : i < ks.length := by omega
  obtain ⟨p, p1, p2⟩ := (hk.grew0 g).ld onU (List.getElem?_eq_getElem hlt)
  rw [L30_10_eq, binV_ii, intsV_lss, dec_lt hlt, oB, ifK_bool, cond_true, p1, oB, p2, oB]
  dsimp only
  rw [hf U g _ (List.getElem_mem hlt), callP_ret, ifK_bool]
  have hadd : binV E0 .add 3 false true (.int .i64 (i : Int)) (.int .i64 1) = some (.int .i64 ((i + 1 : Nat) : Int)) := by
   rw [binV_ii, intsV_add, wrap_succ (by omega)]
  cases hq : f ks[i] with
  | true =>
   have hl : ((ks.take i).filter f).length < 100000 := Nat.lt_of_le_of_lt (List.length_filter_le _ _) (by rw [List.length_take]; omega)
   obtain ⟨y, W, v', T, b1, b2, b3, b4⟩ := ht.push onU g.next hl ks[i]
   rw [cond_true, b1, oB]
   dsimp only
   rw [b2, oB]
   dsimp only
   rw [hadd, oB]
   exact L30_spec ho hk hlen hf nk ek d (i + 1) k v' T (by omega) (by omega) (Grew.fresh g (Nat.le_refl _) b4) (by rw [take_push hlt, filter_push, hq, if_pos rfl]; exact b3)
  | false =>
   rw [cond_false, hadd, oB]
   exact L30_spec ho hk hlen hf nk ek d (i + 1) k v5 U (by omega) (by omega) g (by rw [take_push hlt, filter_push, hq, if_neg (by simp), List.append_nil]; exact ht)
theorem kept30_run (n : Nat) (ho : S.on = false) {m : Nat} {kv : List (Bs × V)} (hM : MapS S m kv) (hm : m < S.next) (hn : (kv.map (·.1)).Nodup) (hs : ∀ p ∈ kv, p.1.length < 4611686018427387904) (hl : kv.length < 100000) {fv : V} {f : Bs → Bool}
 (hf : ∀ U, Grew (fun _ => False) S U → ∀ k ∈ kv.map (·.1), callK E0 (ev E0 KD (n + 1)) fv [sv k] U = some (.ret (.bool (f k)), U)) :
 ∃ v U, (ev E0 KD (n + 2)).f 30 [.map m, fv] S = some (.ret v, U) ∧ TLo U v ((sortB (kv.map (·.1))).filter f) S.next ∧ Grew (fun _ => False) S U := by
 obtain ⟨A, a1, a2, a3, a4⟩ := box_map ho 48 m
 have onA := a3.on.trans ho
 have hk : (ev E0 KD (n + 1)).f 47 [.map m] S = some (.ret (.fn (.func 54) [] [.ptr S.next 0]), A) := rd47 (by
  show F47 (ev E0 KD n) rounds (.map m) S = _
  rw [F47_eq, a1]; rfl)
 obtain ⟨v7, B, b1, b2, b3⟩ := sorted_run n onA (g := 54) (by decide) a2 (hM.grew hm (fun h => h) a3) hn hs (by omega)
 have onB := b3.on.trans onA
 have gB := a3.trans b3
 have hlen : (sortB (kv.map (·.1))).length < 100000 := by rw [(sortB_perm _).length_eq, List.length_map]; exact hl
 obtain ⟨v, T, t1, t2, t3⟩ := L30_spec (n := n + 1) (N := rounds) onB b2 hlen (fun U g k hk => hf U (gB.trans g) k (mem_sortB.1 hk)) (R30_2 (ev E0 KD (n + 1)) rounds (finN E0 (ev E0 KD (n + 1)) Try.f30) noEx) (exB 0 (R30_2 (ev E0 KD (n + 1)) rounds (finN E0 (ev E0 KD (n + 1)) Try.f30) noEx) noEx) _ 0 rounds .nilslice B (Nat.zero_add _) (by unfold rounds; omega) (Grew.refl _ _) .nil
 refine ⟨v, T, rd30 ?_, ?_, gB.trans t2⟩
 · show F30 (ev E0 KD (n + 1)) rounds (.map m) fv S = _
   rw [F30_eq, hk, callP_ret, b1, callP_ret, b2.len, oB]
   dsimp only
   rw [show (V.int .i64 0) = .int .i64 ((0 : Nat) : Int) from rfl, t1, exB_same, R30_2_eq]
 · rcases t3 with h | ⟨r, h0, h1, h2, h3, h4⟩
   · exact .inl h
   · exact .inr ⟨r, h0, h1, h2, Nat.le_trans gB.next h3, h4⟩
end
end Go.Proofs.Ytginkdeicmdmaaa.W
namespace Go.Proofs.Ytginkdeicmdmaaa.W
theorem filt_lt {α : Type} {p q : α → Bool} : ∀ {l : List α}, (∀ x ∈ l, q x = true → p x = true) → (∃ x ∈ l, p x = true ∧ q x = false) → (l.filter q).length < (l.filter p).length
 | [], _, ⟨x, hx, _⟩ => by cases hx
 | a :: l, h, ⟨x, hx, h1, h2⟩ => by
  have hle : (l.filter q).length ≤ (l.filter p).length := by
   rw [← List.countP_eq_length_filter, ← List.countP_eq_length_filter]
   exact List.countP_mono_left fun x hx => h x (List.mem_cons_of_mem _ hx)
  rcases List.mem_cons.1 hx with rfl | hx
  · rw [List.filter_cons_of_pos h1, List.filter_cons_of_neg (by simp [h2]), List.length_cons]; omega
  · have := filt_lt (l := l) (fun x hx => h x (List.mem_cons_of_mem _ hx)) ⟨x, hx, h1, h2⟩
    cases hq : q a with
    | true =>
     have hp := h a (List.mem_cons_self ..) hq
     rw [List.filter_cons_of_pos hp, List.filter_cons_of_pos hq, List.length_cons, List.length_cons]; omega
    | false =>
     rw [List.filter_cons_of_neg (by simp [hq])]
     cases hp : p a with
     | true => rw [List.filter_cons_of_pos hp, List.length_cons]; omega
     | false => rw [List.filter_cons_of_neg (by simp [hp])]; exact this
def unv (ps : List Pth) (out : List Bs) : Nat := ((names ps).filter fun k => !decide (k ∈ out)).length
theorem unv_mono {ps : List Pth} {a b : List Bs} (h : ∀ x ∈ a, x ∈ b) : unv ps b ≤ unv ps a := by
 unfold unv
 rw [← List.countP_eq_length_filter, ← List.countP_eq_length_filter]
 refine List.countP_mono_left fun x _ hx => ?_
 simp only [Bool.not_eq_true', decide_eq_false_iff_not] at hx ⊢
 exact fun e => hx (h x e)
theorem unv_push {ps : List Pth} {out : List Bs} {p : Bs} (hp : p ∈ names ps) (hn : p ∉ out) : unv ps (out ++ [p]) < unv ps out := by
 refine filt_lt (fun x _ hx => ?_) ⟨p, hp, by simp [hn], by simp⟩
 simp only [Bool.not_eq_true', decide_eq_false_iff_not] at hx ⊢
 exact fun e => hx (List.mem_append_left _ e)
def dfs (ps : List Pth) : Nat → List Bs → Bs → List Bs
 | 0, out, _ => out
 | n + 1, out, p => match lkP p ps with
  | none => out
  | some q => if p ∈ out then out else q.refs.foldl (dfs ps n) (out ++ [p])
def Cl (ps : List Pth) (X : Bs → Prop) : Prop := ∀ a q, X a → lkP a ps = some q → ∀ r ∈ q.refs, X r
structure Dfs (ps : List Pth) (out : List Bs) (qs : List Bs) (o : List Bs) : Prop where
 sub : ∀ x ∈ out, x ∈ o
 ask : ∀ p ∈ qs, p ∈ names ps → p ∈ o
 cl : ∀ x ∈ o, x ∈ out ∨ (x ∈ names ps ∧ ∀ q, lkP x ps = some q → ∀ r ∈ q.refs, r ∈ names ps → r ∈ o)
 least : ∀ X : Bs → Prop, Cl ps X → (∀ p ∈ qs, X p) → ∀ x ∈ o, x ∈ out ∨ X x
 nd : out.Nodup → o.Nodup
theorem lk_names {ps : List Pth} {p : Bs} {q : Pth} (h : lkP p ps = some q) : p ∈ names ps := by
 by_cases hp : p ∈ names ps
 · exact hp
 · rw [lkP_none.2 hp] at h; cases h
theorem fold_spec {ps : List Pth} {n : Nat} (ih : ∀ out p, unv ps out ≤ n → Dfs ps out [p] (dfs ps (n + 1) out p)) : ∀ (l : List Bs) (out : List Bs), unv ps out ≤ n → Dfs ps out l (l.foldl (dfs ps (n + 1)) out)
 | [], out, _ => ⟨fun x h => h, fun p h => by (cases h), fun x h => .inl h, fun X _ _ x h => .inl h, fun h => h⟩
 | p :: l, out, hu => by
  have h1 := ih out p hu
  have h2 := fold_spec ih l (dfs ps (n + 1) out p) (Nat.le_trans (unv_mono h1.sub) hu)
  rw [List.foldl_cons]
  refine ⟨fun x hx => h2.sub x (h1.sub x hx), fun a ha hn => ?_, fun x hx => ?_, fun X hX ha x hx => ?_, fun h => h2.nd (h1.nd h)⟩
  · rcases List.mem_cons.1 ha with rfl | ha
    · exact h2.sub _ (h1.ask _ (by simp) hn)
    · exact h2.ask a ha hn
  · rcases h2.cl x hx with h | h
    · rcases h1.cl x h with h | ⟨h, h'⟩
      · exact .inl h
      · exact .inr ⟨h, fun q hq r hr hn => h2.sub _ (h' q hq r hr hn)⟩
    · exact .inr h
  · rcases h2.least X hX (fun a h => ha a (List.mem_cons_of_mem _ h)) x hx with h | h
    · exact h1.least X hX (fun a h => ha a (by simp at h; simp [h])) x h
    · exact .inr h
theorem dfs_spec {ps : List Pth} : ∀ (n : Nat) (out : List Bs) (p : Bs), unv ps out ≤ n → Dfs ps out [p] (dfs ps (n + 1) out p) := by
 intro n
 induction n with
 | zero =>
  intro out p hu
  unfold dfs
  cases hl : lkP p ps with
  | none => exact ⟨fun x h => h, fun a h hn => by (simp at h; subst h; exact absurd hn (lkP_none.1 hl)), fun x h => .inl h, fun X _ _ x h => .inl h, fun h => h⟩
  | some q =>
   by_cases ho : p ∈ out
   · simp only [if_pos ho]
     exact ⟨fun x h => h, fun a h hn => by (simp at h; subst h; exact ho), fun x h => .inl h, fun X _ _ x h => .inl h, fun h => h⟩
   · have := unv_push (lk_names hl) ho
     omega
 | succ n ih =>
  intro out p hu
  unfold dfs
  cases hl : lkP p ps with
  | none => exact ⟨fun x h => h, fun a h hn => by (simp at h; subst h; exact absurd hn (lkP_none.1 hl)), fun x h => .inl h, fun X _ _ x h => .inl h, fun h => h⟩
  | some q =>
   by_cases ho : p ∈ out
   · simp only [if_pos ho]
     exact ⟨fun x h => h, fun a h hn => by (simp at h; subst h; exact ho), fun x h => .inl h, fun X _ _ x h => .inl h, fun h => h⟩
   · simp only [if_neg ho]
     have hlt := unv_push (lk_names hl) ho
     have h2 := fold_spec ih q.refs (out ++ [p]) (by omega)
     refine ⟨fun x hx => h2.sub x (List.mem_append_left _ hx), fun a ha hn => ?_, fun x hx => ?_, fun X hX ha x hx => ?_, fun h => h2.nd ?_⟩
     · simp at ha; subst ha
       exact h2.sub _ (by simp)
     · rcases h2.cl x hx with h | h
       · rcases List.mem_append.1 h with h | h
         · exact .inl h
         · simp at h; subst h
           refine .inr ⟨lk_names hl, fun q' hq' r hr hn => ?_⟩
           rw [hl] at hq'
           cases hq'
           exact h2.ask r hr hn
       · exact .inr h
     · have hp : X p := ha p (by simp)
       rcases h2.least X hX (fun r hr => hX p q hp hl r hr) x hx with h | h
       · rcases List.mem_append.1 h with h | h
         · exact .inl h
         · simp at h; subst h; exact .inr hp
       · exact .inr h
     · rw [List.nodup_append]
       refine ⟨h, by simp, fun a ha b hb e => ?_⟩
       simp at hb; subst hb; subst e; exact ho ha
inductive Rch (ps : List Pth) (from_ : List Bs) : Bs → Prop where
 | root {a : Bs} (h : a ∈ from_) (hn : a ∈ names ps) : Rch ps from_ a
 | step {a r : Bs} {q : Pth} (h : Rch ps from_ a) (hq : lkP a ps = some q) (hr : r ∈ q.refs) (hn : r ∈ names ps) : Rch ps from_ r
def reachL (ps : List Pth) (from_ : List Bs) : List Bs := from_.foldl (dfs ps (ps.length + 1)) []
theorem unv_le (ps : List Pth) (out : List Bs) : unv ps out ≤ ps.length := by
 unfold unv
 refine Nat.le_trans (List.length_filter_le _ _) ?_
 unfold names
 rw [List.length_map]; exact Nat.le_refl _
theorem reachL_dfs (ps : List Pth) (from_ : List Bs) : Dfs ps [] from_ (reachL ps from_) := fold_spec (fun out p h => dfs_spec _ out p h) from_ [] (unv_le _ _)
theorem Rch.mem {ps : List Pth} {f : List Bs} {a : Bs} (h : Rch ps f a) : a ∈ names ps := by cases h <;> assumption
theorem mem_reachL {ps : List Pth} {f : List Bs} {a : Bs} : a ∈ reachL ps f ↔ Rch ps f a := by
 have h := reachL_dfs ps f
 constructor
 · intro ha
   rcases h.least (fun x => x ∈ names ps → Rch ps f x) (fun a q hx hq r hr hn => .step (hx (lk_names hq)) hq hr hn) (fun p hp hn => .root hp hn) a ha with h' | h'
   · cases h'
   · rcases h.cl a ha with h2 | ⟨h2, _⟩
     · cases h2
     · exact h' h2
 · intro ha
   induction ha with
   | root hf hn => exact h.ask _ hf hn
   | step h1 hq hr hn ih =>
    rcases h.cl _ ih with h2 | ⟨_, h2⟩
    · cases h2
    · exact h2 _ hq _ hr hn
theorem reachL_nd (ps : List Pth) (f : List Bs) : (reachL ps f).Nodup := (reachL_dfs ps f).nd .nil
end Go.Proofs.Ytginkdeicmdmaaa.W
namespace Go.Proofs.Ytginkdeicmdmaaa.W
open Go.Proofs.Ytginkdeicmdmaaa.Ev Go.RowKit
def okv (out : List Bs) : List (Bs × V) := out.map fun k => (k, V.int .i64 1)
theorem lkS_okv (a : Bs) : ∀ out : List Bs, lkS a (okv out) = if a ∈ out then some (V.int .i64 1) else none
 | [] => rfl
 | k :: out => by
  show lkS a ((k, V.int .i64 1) :: okv out) = _
  unfold lkS
  by_cases h : a = k
  · rw [if_pos h, if_pos (by simp [h])]
  · rw [if_neg h, lkS_okv a out]
    by_cases h2 : a ∈ out
    · rw [if_pos h2, if_pos (by simp [h2])]
    · rw [if_neg h2, if_neg (by simp [h, h2])]
def fnv46 (bt bo br : Nat) : V := .fn (.func 46) [] [.ptr bt 0, .ptr bo 0, .ptr br 0]
section
variable {S T U : St}
theorem var_one (ho : S.on = false) (e : Nat) (z : Tr V) {v : V} (hv : OneV v) : ∃ t, stP 1 (.ptr S.next 0) v (nwP e 1 z S).2 = some (.tuple [], t) ∧ Bx t S.next e [v] ∧ Grew (fun _ => False) S t ∧ t.next = S.next + 1 := by
 obtain ⟨t, h1, h2, h3, h4⟩ := var_new ho e 1 z [v] rfl (by omega) big1
 refine ⟨t, ?_, h2, h3, h4⟩
 rw [← h1]
 show vu (bif Nat.beq v.size 1 && !isTuple v then stK _ _ _ 1 v.cells else none) = _
 rw [hv.size, hv.tup, hv.cells]; rfl
structure RC (S : St) (bt bo br mt mo : Nat) (ps : List Pth) : Prop where
 on : S.on = false
 xt : Bx S bt 48 [.map mt]
 xo : Bx S bo 46 [.map mo]
 xr : Bx S br 62 [fnv46 bt bo br]
 lt : bt < S.next ∧ bo < S.next ∧ br < S.next ∧ mt < S.next ∧ mo < S.next
 ne : bt ≠ mo ∧ bo ≠ mo ∧ br ≠ mo ∧ mt ≠ mo
 mp : MapS S mt (ps.map Pth.kv)
 row : ∀ p ∈ ps, TL S p.rv p.refs
 mo : ∃ kv, MapS S mo kv
theorem RC.grew {bt bo br mt mo : Nat} {ps : List Pth} (h : RC S bt bo br mt mo ps) (g : Grew (fun x => x = mo) S U) {kv : List (Bs × V)} (hm : MapS U mo kv) : RC U bt bo br mt mo ps := by
 obtain ⟨l1, l2, l3, l4, l5⟩ := h.lt
 obtain ⟨n1, n2, n3, n4⟩ := h.ne
 obtain ⟨kv0, hm0⟩ := h.mo
 have gn := g.next
 exact ⟨g.on.trans h.on, h.xt.grew l1 n1 g, h.xo.grew l2 n2 g, h.xr.grew l3 n3 g, ⟨by omega, by omega, by omega, by omega, by omega⟩, h.ne, h.mp.grew l4 n4 g,
  fun p hp => (h.row p hp).grew (fun r e _ hr hx => by subst hx; exact hm0.noRow hr) g, ⟨kv, hm⟩⟩
theorem binGtr (n : Int) : binV E0 .gtr 3 false true (.int .i64 n) (.int .i64 0) = some (.bool (decide (0 < n))) := by
 rw [binV_ii, intsV_gtr]
theorem call46 (n : Nat) (bt bo br : Nat) (p : Bs) (S : St) : callK E0 (ev E0 KD n) (fnv46 bt bo br) [sv p] S = (ev E0 KD n).f 46 [sv p, .ptr bt 0, .ptr bo 0, .ptr br 0] S :=
 callK_fn (ext_none (by decide)) (by kernel_rfl) [] [.ptr bt 0, .ptr bo 0, .ptr br 0] [sv p] S
theorem fin46 (n : Nat) (S : St) : finN E0 (ev E0 KD n) Try.f46 (fr 35 []) S = some (.ret (.tuple []), S) := by kernel_rfl
theorem L46_spec {n N : Nat} {bt bo br mt mo : Nat} {ps : List Pth} (u : Nat)
 (ih : ∀ (out : List Bs) (p : Bs) (S : St), unv ps out ≤ u → RC S bt bo br mt mo ps → MapS S mo (okv out) → ∃ U, (ev E0 KD n).f 46 [sv p, .ptr bt 0, .ptr bo 0, .ptr br 0] S = some (.ret (.tuple []), U) ∧ MapS U mo (okv (dfs ps (u + 1) out p)) ∧ Grew (fun x => x = mo) S U)
 (nk : Ac → St → Rs) (ek : Nat → Ac → St → Rs) {rv : V} {l : List Bs} (hlen : l.length < 1000000) :
 ∀ (rest : List Bs) (i k : Nat) (out : List Bs) (S : St), l.drop i = rest → rest.length < k → unv ps out ≤ u → RC S bt bo br mt mo ps → TL S rv l → MapS S mo (okv out) →
 ∃ U, L46_22 (ev E0 KD n) N nk ek k (.ptr br 0) rv (.int .i64 (l.length : Int)) (.int .i64 (i : Int)) S = ek 0 (fr 35 []) U ∧ MapS U mo (okv (rest.foldl (dfs ps (u + 1)) out)) ∧ Grew (fun x => x = mo) S U
 | rest, i, 0, out, S, _, hk, _, _, _, _ => by omega
 | [], i, k + 1, out, S, hi, hk, hu, hR, hl, hM => by
  refine ⟨S, ?_, hM, Grew.refl _ _⟩
  rw [L46_22_eq, binV_ii, intsV_lss, dec_ge (drop_end hi), oB, ifK_bool, cond_false]
 | p :: rest, i, k + 1, out, S, hi, hk, hu, hR, hl, hM => by
  obtain ⟨hlt, hf, hrest, hmem⟩ := drop_at hi
  obtain ⟨q, q1, q2⟩ := hl.ld hR.on (show l[i]? = some p by rw [List.getElem?_eq_getElem hlt, hf])
  have l3 : ld1 (.ptr br 0) S = some (fnv46 bt bo br, S) := Bx.ldv hR.on hR.xr big1 rfl
  obtain ⟨U, u1, u2, u3⟩ := ih out p S hu hR hM
  have hd := dfs_spec u out p hu
  obtain ⟨T, t1, t2, t3⟩ := L46_spec (N := N) u ih nk ek hlen rest (i + 1) k (dfs ps (u + 1) out p) U hrest (by simp at hk; omega) (Nat.le_trans (unv_mono hd.sub) hu) (hR.grew u3 u2) (hl.grew (fun r e _ hr hx => by subst hx; exact hM.noRow hr) u3) u2
  refine ⟨T, ?_, t2, u3.trans t3⟩
  rw [L46_22_eq, binV_ii, intsV_lss, dec_lt hlt, oB, ifK_bool, cond_true, q1, oB, q2, oB]
  dsimp only
  rw [l3, oB]
  dsimp only
  rw [call46, u1, callP_ret, binV_ii, intsV_add, wrap_succ (by omega), oB]
  exact t1
theorem reach_run {bt bo br mt mo : Nat} {ps : List Pth} (hsm : ∀ p ∈ ps, p.refs.length < 1000000) (k : Nat) : ∀ (u : Nat) (out : List Bs) (p : Bs) (S : St), unv ps out ≤ u → RC S bt bo br mt mo ps → MapS S mo (okv out) →
 ∃ U, (ev E0 KD (k + u + 1)).f 46 [sv p, .ptr bt 0, .ptr bo 0, .ptr br 0] S = some (.ret (.tuple []), U) ∧ MapS U mo (okv (dfs ps (u + 1) out p)) ∧ Grew (fun x => x = mo) S U := by
 intro u
 induction u with
 | zero =>
  intro out p S hu hR hM
  refine ⟨S, rd46 ?_, ?_, Grew.refl _ _⟩
  · show F46 (ev E0 KD (k + 0)) rounds (sv p) (.ptr bt 0) (.ptr bo 0) (.ptr br 0) S = _
    have l1 : ld1 (.ptr bt 0) S = some (.map mt, S) := Bx.ldv hR.on hR.xt big1 rfl
    have l2 : ld1 (.ptr bo 0) S = some (.map mo, S) := Bx.ldv hR.on hR.xo big1 rfl
    rw [F46_eq, l1, oB]
    dsimp only
    rw [look_two hR.on hR.mp, oB]
    dsimp only
    rw [tup0, oB, tup1, oB, unV_not, oB, lkS_kv]
    cases hq : lkP p ps with
    | none =>
     rw [Option.map_none, Option.isSome_none, Bool.not_false]
     rfl
    | some q =>
     have hin : p ∈ out := by
      by_cases h : p ∈ out
      · exact h
      · have := unv_push (lk_names hq) h; omega
     rw [Option.map_some, Option.isSome_some, Bool.not_true]
     simp only [gFF, oB, cond_true]
     rw [l2, oB]
     dsimp only
     rw [look_one hR.on hM, lkS_okv, if_pos hin, oB]
     dsimp only
     rw [Option.getD_some, binGtr, oB, decide_eq_true (by decide)]
     rfl
  · unfold dfs
    cases hq : lkP p ps with
    | none => exact hM
    | some q =>
     have hin : p ∈ out := by
      by_cases h : p ∈ out
      · exact h
      · have := unv_push (lk_names hq) h; omega
     simp only [if_pos hin]; exact hM
 | succ u ih =>
  intro out p S hu hR hM
  have l1 : ld1 (.ptr bt 0) S = some (.map mt, S) := Bx.ldv hR.on hR.xt big1 rfl
  have l2 : ld1 (.ptr bo 0) S = some (.map mo, S) := Bx.ldv hR.on hR.xo big1 rfl
  have key : ∀ (V1 : St), F46 (ev E0 KD (k + (u + 1))) rounds (sv p) (.ptr bt 0) (.ptr bo 0) (.ptr br 0) S = some (.ret (.tuple []), V1) → (ev E0 KD (k + (u + 1) + 1)).f 46 [sv p, .ptr bt 0, .ptr bo 0, .ptr br 0] S = some (.ret (.tuple []), V1) := fun V1 h => rd46 h
  rw [F46_eq, l1, oB] at key
  dsimp only at key
  rw [look_two hR.on hR.mp, oB] at key
  dsimp only at key
  rw [tup0, oB, tup1, oB, unV_not, oB, lkS_kv] at key
  unfold dfs
  cases hq : lkP p ps with
  | none =>
   rw [hq, Option.map_none, Option.isSome_none, Bool.not_false] at key
   exact ⟨S, key S rfl, hM, Grew.refl _ _⟩
  | some q =>
   rw [hq, Option.map_some, Option.isSome_some, Bool.not_true] at key
   simp only [gFF, oB, cond_true] at key
   rw [l2, oB] at key
   dsimp only at key
   rw [look_one hR.on hM, lkS_okv, oB] at key
   dsimp only at key
   by_cases hin : p ∈ out
   · simp only [if_pos hin]
     rw [if_pos hin, Option.getD_some, binGtr, oB, decide_eq_true (by decide)] at key
     exact ⟨S, key S rfl, hM, Grew.refl _ _⟩
   · simp only [if_neg hin]
     rw [if_neg hin, Option.getD_none, binGtr, oB, decide_eq_false (by decide), pickV_bool, cond_false, oB, ifK_bool, cond_false, l2, oB] at key
     dsimp only at key
     obtain ⟨o, u1, u2⟩ := upd_new hR.on und46 hM (a := p) (by rw [lkS_okv, if_neg hin]) (.int .i64 1)
     have gP := grew_put (s := S) mo o
     have hok : okv out ++ [(p, V.int .i64 1)] = okv (out ++ [p]) := by unfold okv; rw [List.map_append]; rfl
     rw [hok] at u2
     have hmem := (lkP_mem hq).1
     have hTL := (hR.row q hmem).grew (fun r e _ hr hx => by subst hx; exact hM.noRow hr) gP
     rw [u1, vu_some, oB] at key
     dsimp only at key
     rw [Option.getD_some, hTL.len, oB] at key
     dsimp only at key
     have hlt := unv_push (lk_names hq) hin
     obtain ⟨T, t1, t2, t3⟩ := L46_spec (n := k + u + 1) (N := rounds) u ih (finN E0 (ev E0 KD (k + (u + 1))) Try.f46) (exB 0 (finN E0 (ev E0 KD (k + (u + 1))) Try.f46) noEx) (hsm q hmem) q.refs 0 rounds (out ++ [p]) (S.put mo o) rfl (by have := hsm q hmem; unfold rounds; omega) (by omega) (hR.grew gP u2) hTL u2
     refine ⟨T, key T ?_, t2, gP.trans t3⟩
     rw [show (V.int .i64 0) = .int .i64 ((0 : Nat) : Int) from rfl]
     refine t1.trans ?_
     rw [exB_same, fin46]
end
end Go.Proofs.Ytginkdeicmdmaaa.W
namespace Go.Proofs.Ytginkdeicmdmaaa.W
open Go.Proofs.Ytginkdeicmdmaaa.Ev Go.RowKit
section
variable {S T U : St}
theorem L27_spec {n N : Nat} {bt bo br mt mo : Nat} {ps : List Pth} (u : Nat)
 (ih : ∀ (out : List Bs) (p : Bs) (S : St), unv ps out ≤ u → RC S bt bo br mt mo ps → MapS S mo (okv out) → ∃ U, (ev E0 KD n).f 46 [sv p, .ptr bt 0, .ptr bo 0, .ptr br 0] S = some (.ret (.tuple []), U) ∧ MapS U mo (okv (dfs ps (u + 1) out p)) ∧ Grew (fun x => x = mo) S U)
 (nk : Ac → St → Rs) (ek : Nat → Ac → St → Rs) {rv : V} {l : List Bs} (hlen : l.length < 1000000) :
 ∀ (rest : List Bs) (i k : Nat) (out : List Bs) (S : St), l.drop i = rest → rest.length < k → unv ps out ≤ u → RC S bt bo br mt mo ps → TL S rv l → MapS S mo (okv out) →
 ∃ U, L27_14 (ev E0 KD n) N nk ek k (.ptr bo 0) (.ptr br 0) rv (.int .i64 (l.length : Int)) (.int .i64 (i : Int)) S = ek 0 (fr 22 [(5, .ptr bo 0)]) U ∧ MapS U mo (okv (rest.foldl (dfs ps (u + 1)) out)) ∧ Grew (fun x => x = mo) S U ∧ RC U bt bo br mt mo ps
 | rest, i, 0, out, S, _, hk, _, _, _, _ => by omega
 | [], i, k + 1, out, S, hi, hk, hu, hR, hl, hM => by
  refine ⟨S, ?_, hM, Grew.refl _ _, hR⟩
  rw [L27_14_eq, binV_ii, intsV_lss, dec_ge (drop_end hi), oB, ifK_bool, cond_false]
 | p :: rest, i, k + 1, out, S, hi, hk, hu, hR, hl, hM => by
  obtain ⟨hlt, hf, hrest, hmem⟩ := drop_at hi
  obtain ⟨q, q1, q2⟩ := hl.ld hR.on (show l[i]? = some p by rw [List.getElem?_eq_getElem hlt, hf])
  have l3 : ld1 (.ptr br 0) S = some (fnv46 bt bo br, S) := Bx.ldv hR.on hR.xr big1 rfl
  obtain ⟨U, u1, u2, u3⟩ := ih out p S hu hR hM
  have hd := dfs_spec u out p hu
  obtain ⟨T, t1, t2, t3, t4⟩ := L27_spec (N := N) u ih nk ek hlen rest (i + 1) k (dfs ps (u + 1) out p) U hrest (by simp at hk; omega) (Nat.le_trans (unv_mono hd.sub) hu) (hR.grew u3 u2) (hl.grew (fun r e _ hr hx => by subst hx; exact hM.noRow hr) u3) u2
  refine ⟨T, ?_, t2, u3.trans t3, t4⟩
  rw [L27_14_eq, binV_ii, intsV_lss, dec_lt hlt, oB, ifK_bool, cond_true, q1, oB, q2, oB]
  dsimp only
  rw [l3, oB]
  dsimp only
  rw [call46, u1, callP_ret, binV_ii, intsV_add, wrap_succ (by omega), oB]
  exact t1
theorem reached_run (k : Nat) (ho : S.on = false) {mt : Nat} {ps : List Pth} (hM : MapS S mt (ps.map Pth.kv)) (hm : mt < S.next) (hrow : ∀ p ∈ ps, TL S p.rv p.refs) (hsm : ∀ p ∈ ps, p.refs.length < 1000000) {fv : V} {f : List Bs} (hf : TL S fv f) (hfl : f.length < 1000000) :
 ∃ U mo, (ev E0 KD (k + ps.length + 2)).f 27 [.map mt, fv] S = some (.ret (.map mo), U) ∧ MapS U mo (okv (reachL ps f)) ∧ Grew (fun _ => False) S U ∧ S.next ≤ mo ∧ mo < U.next := by
 obtain ⟨A, a1, a2, a3, a4⟩ := box_map ho 48 mt
 have onA := a3.on.trans ho
 have g1 := grew_nw onA (fun _ => False) (.map [] 0)
 have onB : (nw A (.map [] 0)).on = false := nw_on onA _
 have hM0 : MapS (nw A (.map [] 0)) A.next (okv []) := MapS.new onA
 have hnB : (nw A (.map [] 0)).next = A.next + 1 := rfl
 have hk : makeMapK E0 46 none A = some (.map A.next, nw A (.map [] 0)) := rfl
 generalize nw A (.map [] 0) = B at g1 onB hM0 hnB hk
 obtain ⟨C, c1, c2, c3, c4⟩ := var_one onB 46 (Go.Proofs.Ytginkdeicmdmaaa.Ev.one .nilmap) (v := .map A.next) ⟨rfl, rfl, rfl, rfl⟩
 have onC := c3.on.trans onB
 obtain ⟨D, d1, d2, d3, d4⟩ := var_one onC 62 (Go.Proofs.Ytginkdeicmdmaaa.Ev.one .nilfn) (v := fnv46 S.next B.next C.next) ⟨rfl, rfl, rfl, rfl⟩
 have onD := d3.on.trans onC
 have gB := a3.trans g1
 have gD := (gB.trans c3).trans d3
 have hMoD : MapS D A.next (okv []) := (hM0.grew (by omega) (fun h => h) c3).grew (by omega) (fun h => h) d3
 have hR : RC D S.next B.next C.next mt A.next ps := by
  refine ⟨onD, ?_, c2.grew (by omega) (fun h => h) d3, d2, ⟨by omega, by omega, by omega, by omega, by omega⟩, ⟨by omega, by omega, by omega, by omega⟩, hM.grew hm (fun h => h) gD, fun p hp => (hrow p hp).grew0 gD, _, hMoD⟩
  exact ((a2.grew (by omega) (fun h => h) g1).grew (show S.next < B.next by omega) (fun h => h) c3).grew (show S.next < C.next by omega) (fun h => h) d3
 obtain ⟨U, u1, u2, u3, u4⟩ := L27_spec (n := k + ps.length + 1) (N := rounds) ps.length (fun out p S h1 h2 h3 => reach_run hsm k ps.length out p S h1 h2 h3) (R27_8 (ev E0 KD (k + ps.length + 1)) rounds (finN E0 (ev E0 KD (k + ps.length + 1)) Try.f27) noEx) (exB 0 (R27_8 (ev E0 KD (k + ps.length + 1)) rounds (finN E0 (ev E0 KD (k + ps.length + 1)) Try.f27) noEx) noEx) hfl f 0 rounds [] D rfl (by unfold rounds; omega) (unv_le _ _) hR (hf.grew0 gD) hMoD
 have l2 : ld1 (.ptr B.next 0) U = some (.map A.next, U) := Bx.ldv u4.on u4.xo big1 rfl
 refine ⟨U, A.next, rd27 ?_, u2, Grew.own gD (by omega) u3, by omega, by have := u4.lt; omega⟩
 show F27 (ev E0 KD (k + ps.length + 1)) rounds (.map mt) fv S = _
 rw [F27_eq, a1, oB]
 dsimp only
 rw [hk, oB]
 dsimp only
 rw [oB, nwP_fst, c1, oB]
 dsimp only
 rw [oB, nwP_fst, show V.fn (.func 46) [] [V.ptr S.next 0, V.ptr B.next 0, V.ptr C.next 0] = fnv46 S.next B.next C.next from rfl, d1, oB]
 dsimp only
 rw [(hf.grew0 gD).len, oB]
 dsimp only
 rw [show (V.int .i64 0) = .int .i64 ((0 : Nat) : Int) from rfl, u1, exB_same, R27_8_eq, l2, oB]
theorem lkP_app {a : Bs} {l : List Pth} {p : Pth} (h : lkP a l = none) : lkP a (l ++ [p]) = if a = p.nm then some p else none := by
 induction l with
 | nil => rfl
 | cons q l ih =>
  unfold lkP at h
  by_cases hc : a = q.nm
  · rw [if_pos hc] at h; cases h
  · rw [if_neg hc] at h
    rw [List.cons_append]
    unfold lkP
    rw [if_neg hc, ih h]
theorem addP_spec : ∀ (l out : List Pth), (names out).Nodup → (names (l.foldl addP out)).Nodup ∧ (∀ p ∈ l.foldl addP out, p ∈ out ∨ p ∈ l) ∧ (l.foldl addP out).length ≤ out.length + l.length
 | [], out, h => ⟨h, fun p hp => .inl hp, by simp⟩
 | p :: l, out, h => by
  rw [List.foldl_cons]
  have hn : (names (addP out p)).Nodup ∧ (∀ q ∈ addP out p, q ∈ out ∨ q = p) ∧ (addP out p).length ≤ out.length + 1 := by
   unfold addP
   cases hq : lkP p.nm out with
   | some q => exact ⟨h, fun q hq => .inl hq, by simp⟩
   | none =>
    refine ⟨?_, fun q hq => ?_, by simp⟩
    · show (names (out ++ [p])).Nodup
      unfold names at h ⊢
      rw [List.map_append, List.nodup_append]
      refine ⟨h, by simp, fun a ha b hb e => ?_⟩
      simp at hb; subst hb; subst e
      exact lkP_none.1 hq ha
    · have hq' : q ∈ out ++ [p] := hq
      rcases List.mem_append.1 hq' with h | h
      · exact .inl h
      · simp at h; exact .inr h
  obtain ⟨h1, h2, h3⟩ := addP_spec l (addP out p) hn.1
  refine ⟨h1, fun q hq => ?_, by simp; omega⟩
  rcases h2 q hq with h | h
  · rcases hn.2.1 q h with h | rfl
    · exact .inl h
    · exact .inr (List.mem_cons_self ..)
  · exact .inr (List.mem_cons_of_mem _ h)
theorem refsOf_nd (l : List Pth) : (names (refsOf l)).Nodup := (addP_spec l [] .nil).1
theorem refsOf_mem {l : List Pth} {p : Pth} (h : p ∈ refsOf l) : p ∈ l := by
 rcases (addP_spec l [] .nil).2.1 p h with h | h
 · cases h
 · exact h
theorem refsOf_len (l : List Pth) : (refsOf l).length ≤ l.length := by
 have := (addP_spec l [] .nil).2.2
 unfold refsOf
 simpa using this
structure Fit (l : List Pth) : Prop where
 len : l.length < 1000
 nm : ∀ p ∈ l, p.nm.length < 1000000
 refs : ∀ p ∈ l, p.refs.length < 1000
theorem kv_names (l : List Pth) : (l.map Pth.kv).map (·.1) = names l := by unfold names; rw [List.map_map]; rfl
def closL (l : List Pth) (f : List Bs) : List Bs := sortB (reachL (refsOf l) f)
theorem okv_keys (out : List Bs) : (okv out).map (·.1) = out := by
 unfold okv
 rw [List.map_map]
 exact List.map_id _
theorem reachL_mem {ps : List Pth} {f : List Bs} {a : Bs} (h : a ∈ reachL ps f) : ∃ p ∈ ps, p.nm = a := by
 have := (mem_reachL.1 h).mem
 unfold names at this
 simpa using this
theorem reachL_len (ps : List Pth) (f : List Bs) : (reachL ps f).length ≤ ps.length := by
 have h1 : (reachL ps f).length ≤ (names ps).length := List.Nodup.length_le_of_subset (reachL_nd ps f) fun a ha => (mem_reachL.1 ha).mem
 unfold names at h1
 rwa [List.length_map] at h1
theorem closure_run {d : Nat} (ho : S.on = false) {v fv : V} {l : List Pth} {f : List Bs} (hp : PL S v l) (hF : Fit l) (hd : l.length ≤ d) (hf : TL S fv f) (hfl : f.length < 1000000) :
 ∃ w U, (ev E0 KD (d + 3)).f 9 [v, fv] S = some (.ret w, U) ∧ TLo U w (closL l f) S.next ∧ Grew (fun _ => False) S U := by
 have hF1 := hF.len
 have hlen := refsOf_len l
 obtain ⟨A, m, a1, a2, a3, a4, a5⟩ := refs_run (d + 1) ho hp (by omega)
 have onA := a2.on.trans ho
 have hrow : ∀ p ∈ refsOf l, TL A p.rv p.refs := fun p hq => (hp.2 p (refsOf_mem hq)).grew0 a2
 obtain ⟨B, mo, b1, b2, b3, b4, b5⟩ := reached_run (d - (refsOf l).length) onA a5 a4 hrow (fun p hq => Nat.lt_trans (hF.refs p (refsOf_mem hq)) (by decide)) (hf.grew0 a2) hfl
 have onB := b3.on.trans onA
 rw [show d - (refsOf l).length + (refsOf l).length + 2 = d + 2 by omega] at b1
 have hrl := reachL_len (refsOf l) f
 have hc : ∀ U, Grew (fun _ => False) B U → ∀ k ∈ (okv (reachL (refsOf l) f)).map (·.1), callK E0 (ev E0 KD (d + 1)) (.fn (.func 29) [] []) [sv k] U = some (.ret (.bool true), U) := fun U _ k _ => by
  rw [callK_fn (ext_none (by decide)) (by kernel_rfl)]
  exact rd29 (by
   show F29 (ev E0 KD d) rounds (sv k) U = _
   rw [F29_eq])
 obtain ⟨w, U, u1, u2, u3⟩ := kept26_run d onB b2 b5 (by rw [okv_keys]; exact reachL_nd _ _) (fun p hq => by
  unfold okv at hq
  rw [List.mem_map] at hq
  obtain ⟨k, hk, rfl⟩ := hq
  obtain ⟨q, q1, q2⟩ := reachL_mem hk
  subst q2
  exact Nat.lt_trans (hF.nm q (refsOf_mem q1)) (by decide)) (by unfold okv; rw [List.length_map]; omega) hc
 refine ⟨w, U, rd9 ?_, ?_, (a2.trans b3).trans u3⟩
 · show F9 (ev E0 KD (d + 2)) rounds v fv S = _
   rw [F9_eq, a1, callP_ret, b1, callP_ret, u1, callP_ret]
 · rw [okv_keys, List.filter_eq_self.2 (fun _ _ => rfl)] at u2
   rcases u2 with h | ⟨r, h0, h1, h2, h3, h4⟩
   · exact .inl h
   · exact .inr ⟨r, h0, h1, h2, Nat.le_trans (a2.trans b3).next h3, h4⟩
def deadL (l : List Pth) (f : List Bs) : List Bs := (sortB (names (refsOf l))).filter fun k => !decide (k ∈ reachL (refsOf l) f)
theorem eq31 : binV E0 .eql 3 false true (.int .i64 1) (.int .i64 0) = some (.bool false) := by kernel_rfl
theorem eq30 : binV E0 .eql 3 false true (.int .i64 0) (.int .i64 0) = some (.bool true) := by kernel_rfl
theorem dead_run {d : Nat} (ho : S.on = false) {v fv : V} {l : List Pth} {f : List Bs} (hp : PL S v l) (hF : Fit l) (hd : l.length ≤ d) (hf : TL S fv f) (hfl : f.length < 1000000) :
 ∃ w U, (ev E0 KD (d + 3)).f 10 [v, fv] S = some (.ret w, U) ∧ TLo U w (deadL l f) S.next ∧ Grew (fun _ => False) S U := by
 have hF1 := hF.len
 have hlen := refsOf_len l
 obtain ⟨A, m, a1, a2, a3, a4, a5⟩ := refs_run (d + 1) ho hp (by omega)
 have onA := a2.on.trans ho
 have hrow : ∀ p ∈ refsOf l, TL A p.rv p.refs := fun p hq => (hp.2 p (refsOf_mem hq)).grew0 a2
 obtain ⟨B, mo, b1, b2, b3, b4, b5⟩ := reached_run (d - (refsOf l).length) onA a5 a4 hrow (fun p hq => Nat.lt_trans (hF.refs p (refsOf_mem hq)) (by decide)) (hf.grew0 a2) hfl
 have onB := b3.on.trans onA
 rw [show d - (refsOf l).length + (refsOf l).length + 2 = d + 2 by omega] at b1
 obtain ⟨C, c1, c2, c3, c4⟩ := var_one onB 46 (Go.Proofs.Ytginkdeicmdmaaa.Ev.one .nilmap) (v := .map mo) ⟨rfl, rfl, rfl, rfl⟩
 have onC := c3.on.trans onB
 have hMC := (a5.grew a4 (fun h => h) b3).grew (Nat.lt_of_lt_of_le a4 b3.next) (fun h => h) c3
 have hc : ∀ U, Grew (fun _ => False) C U → ∀ k ∈ ((refsOf l).map Pth.kv).map (·.1), callK E0 (ev E0 KD (d + 1)) (.fn (.func 31) [] [.ptr B.next 0]) [sv k] U = some (.ret (.bool (!decide (k ∈ reachL (refsOf l) f))), U) := fun U g k _ => by
  have onU := g.on.trans onC
  have hb := c2.grew (by omega) (fun h => h) g
  have hm2 := (b2.grew b5 (fun h => h) c3).grew (by omega) (fun h => h) g
  have l1 : ld1 (.ptr B.next 0) U = some (.map mo, U) := Bx.ldv onU hb big1 rfl
  rw [callK_fn (ext_none (by decide)) (by kernel_rfl)]
  refine rd31 ?_
  show F31 (ev E0 KD d) rounds (sv k) (.ptr B.next 0) U = _
  rw [F31_eq, l1, oB]
  dsimp only
  rw [look_one onU hm2, lkS_okv, oB]
  dsimp only
  by_cases h : k ∈ reachL (refsOf l) f
  · rw [if_pos h, Option.getD_some, eq31, oB, decide_eq_true h]; rfl
  · rw [if_neg h, Option.getD_none, eq30, oB, decide_eq_false h]; rfl
 obtain ⟨w, U, u1, u2, u3⟩ := kept30_run d onC hMC (by have := b3.next; omega) (by rw [kv_names]; exact refsOf_nd _) (fun p hq => by
  rw [List.mem_map] at hq
  obtain ⟨q, q1, rfl⟩ := hq
  exact Nat.lt_trans (hF.nm q (refsOf_mem q1)) (by decide)) (by rw [List.length_map]; omega) hc
 refine ⟨w, U, rd10 ?_, ?_, ((a2.trans b3).trans c3).trans u3⟩
 · show F10 (ev E0 KD (d + 2)) rounds v fv S = _
   rw [F10_eq, a1, callP_ret, b1, callP_ret, oB, nwP_fst, c1, oB]
   dsimp only
   rw [u1, callP_ret]
 · rw [kv_names] at u2
   rcases u2 with h | ⟨r, h0, h1, h2, h3, h4⟩
   · exact .inl h
   · exact .inr ⟨r, h0, h1, h2, Nat.le_trans ((a2.trans b3).trans c3).next h3, h4⟩
end
end Go.Proofs.Ytginkdeicmdmaaa.W
namespace Go.Proofs.Ytginkdeicmdmaaa.W
open Go.Proofs.Ytginkdeicmdmaaa.Ev Go.RowKit
section
variable {s S T U : St}
theorem bsP_path (ho : s.on = false) (z : Tr V) (l : List V) (hl : l.length = 4) : ∃ t, bsP 28 4 1 z [(0, vAgg l)] s = some (.slice s.next 0 1 1, t) ∧ RowAt t s.next 28 4 [Tr.ofListFrom .nil l 0] ∧ Grew (fun _ => False) s t ∧ t.next = s.next + 1 := by
 refine ⟨nw s (.cells 28 4 1 false ((Tr.tab 1 1 fun _ => z).set (Tr.ofListFrom .nil l 0) 0)), ?_, ?_, grew_nw ho _ _, rfl⟩
 · unfold bsP fillE fillE
   simp only [vAgg, V.size, isTuple, V.cells, hl, show Nat.beq 4 4 = true from rfl, Bool.not_false, Bool.and_true, show Nat.blt 0 1 = true from rfl, cond_true, Tr.setC_eq, oB]
 · refine rowAt_nw ho (by omega) rfl (by unfold big; omega) fun i t h => ?_
   rw [Tr.get_set]
   cases i with
   | zero => simpa using h
   | succ i => simp at h
theorem ap4_first (ho : s.on = false) {b : Nat} {t : Tr V} (h : RowAt s b 28 4 [t]) : ∃ u, apP 28 4 72 .nilslice (.slice b 0 1 1) s = some (.oslice s.next 0 1 4, u) ∧ RowAt u s.next 28 4 [t] ∧ Grew (fun _ => False) s u ∧ u.next = s.next + 1 := by
 refine ⟨newCells s 28 4 [t], ?_, rowAt_newCells ho (by omega) (by unfold big; simp), grew_nw ho _ _, rfl⟩
 unfold apP
 simp only [lenV, oB, show Nat.blt ((0 + 1) * (72 + 4 + 1)) maxCells = true from rfl, cond_true]
 unfold appendV firstV
 have := h.ldN ho 1 0 (by simp)
 simp only [Nat.zero_mul, List.drop_zero] at this
 simp only [this, oB, show Nat.beq 1 0 = false from rfl, cond_false]
 rfl
theorem ap4_more (ho : s.on = false) {b r : Nat} {t : Tr V} {l : List (Tr V)} (h : RowAt s b 28 4 [t]) (hr : RowAt s r 28 4 l) (hl : l.length ≤ 3000) : ∃ u, apP 28 4 72 (.oslice r 0 l.length 4) (.slice b 0 1 1) s = some (.oslice s.next 0 (l.length + 1) 4, u) ∧ RowAt u s.next 28 4 (l ++ [t]) ∧ Grew (fun x => x = r) s u ∧ u.next = s.next + 1 := by
 obtain ⟨c, hc1, hc2⟩ := hr.row
 have hfit := hr.fit
 refine ⟨nw (s.put r .dead) (.cells 28 4 (l.length + 1) false (c.set t l.length)), ?_, ?_, ?_, rfl⟩
 · unfold apP
   have hm : Nat.blt ((l.length + 1) * (72 + 4 + 1)) maxCells = true := by rw [blt_true]; unfold maxCells; omega
   simp only [lenV, oB, hm, cond_true]
   unfold appendV firstV
   have := h.ldN ho 1 0 (by simp)
   simp only [Nat.zero_mul, List.drop_zero] at this
   simp only [this, oB, show Nat.beq 4 4 = true from rfl, cond_true]
   unfold sizeB
   rw [hc1]
   have hb : Nat.ble (0 + (l.length + 1) * 4) (4 * l.length) = false := by
    cases hh : Nat.ble (0 + (l.length + 1) * 4) (4 * l.length) with
    | false => rfl
    | true => rw [ble_true] at hh; omega
   simp only [blt_true.2 hfit, cond_true, oB, note_off ho, hb, cond_false]
   unfold growV
   rw [hc1]
   simp only [show Nat.beq 28 28 = true from rfl, Bool.not_true, Bool.or_self, cond_false, show Nat.beq 4 4 = true from rfl, show Nat.beq 0 0 = true from rfl, Nat.beq_refl, blt_true.2 hfit, Bool.and_self, cond_true]
   rw [show List.take 1 [t] = [t] from rfl]
   unfold addLC addLC
   rw [Tr.setC_eq]
   unfold setO
   rw [note_off ho]
 · have hnx : (s.put r .dead).next = s.next := rfl
   have := rowAt_nw (s := s.put r .dead) (e := 28) (z := 4) (n := l.length + 1) (c := c.set t l.length) (l := l ++ [t]) ho (by omega) (by simp) (by unfold big; omega) fun i u h => by
    rw [Tr.get_set]
    by_cases hi : i = l.length
    · subst hi
      rw [if_pos rfl]
      simpa using h
    · rw [if_neg hi]
      have hlt := (List.getElem?_eq_some_iff.1 h).1
      rw [List.length_append, List.length_singleton] at hlt
      rw [List.getElem?_append_left (by omega)] at h
      exact hc2 i u h
   exact this
 · exact ⟨by show s.next ≤ s.next + 1; omega, (nw_on (s := s.put r .dead) ho _).trans ho.symm, fun x hx hw => by
    rw [nw_get, if_neg (by show x ≠ s.next; omega), put_get, if_neg hw]⟩
theorem row_ne {b e e' z z' : Nat} {l l' : List (Tr V)} (h : RowAt S b e z l) (h' : RowAt S b e' z' l') : e = e' := by
 obtain ⟨c, h1, _⟩ := h.row
 obtain ⟨c', h2, _⟩ := h'.row
 rw [h1] at h2
 simp only [oS, O.cells.injEq] at h2
 exact h2.1
theorem row_bx {b e e' z : Nat} {l : List (Tr V)} {m : List V} (h : RowAt S b e z l) (h' : Bx S b e' m) : e = e' := by
 obtain ⟨c, h1, _⟩ := h.row
 have h2 : S.heap.get b = some _ := h'
 rw [h1] at h2
 simp only [oS, O.cells.injEq] at h2
 exact h2.1
def PLo (S : St) (v : V) (l : List Pth) (N : Nat) : Prop := PL S v l ∧ ∀ r, blkOf v = some r → N ≤ r
theorem PLo.nil {N : Nat} : PLo S .nilslice [] N := ⟨.nil, fun r h => by cases h⟩
theorem PLo.grew {v : V} {l : List Pth} {N : Nat} (h : PLo S v l N) (g : Grew (fun _ => False) S U) : PLo U v l N := ⟨h.1.grew g, h.2⟩
theorem PL.grewW {W : Nat → Prop} {v : V} {l : List Pth} (h : PL S v l) (g : Grew W S U) (h1 : ∀ r m, blkOf v = some r → RowAt S r 28 4 m → ¬ W r) (h2 : ∀ p ∈ l, ∀ r m, blkOf p.rv = some r → RowAt S r 9 1 m → ¬ W r) : PL U v l := by
 refine ⟨?_, fun p hp => (h.2 p hp).grew (h2 p hp) g⟩
 rcases h.1 with h | ⟨r, rfl, h3, h4, h5⟩
 · exact .inl h
 · exact .inr ⟨r, rfl, h3.grew h4 (h1 r _ rfl h3) g, Nat.lt_of_lt_of_le h4 g.next, h5⟩
theorem PLo.push (ho : S.on = false) {v : V} {l : List Pth} {N : Nat} (h : PLo S v l N) (hN : N ≤ S.next) (hl : l.length ≤ 3000) {p : Pth} (hp : TL S p.rv p.refs) :
 ∃ y W v' U, bsP 28 4 1 (Tr.ofListFrom .nil [(sv []), .nilslice, (sv []), (sv [])] 0) [(0, vAgg p.cells)] S = some (y, W) ∧ apP 28 4 72 v y W = some (v', U) ∧ PLo U v' (l ++ [p]) N ∧ Grew (fun x => blkOf v = some x) S U := by
 obtain ⟨W, w1, w2, w3, w4⟩ := bsP_path ho (Tr.ofListFrom .nil [(sv []), .nilslice, (sv []), (sv [])] 0) p.cells rfl
 have onW := w3.on.trans ho
 have hW := h.1.grew w3
 rcases h.1.1 with ⟨rfl, rfl⟩ | ⟨r, rfl, hr, hr2, h0⟩
 · obtain ⟨U, k1, k2, k3, k4⟩ := ap4_first onW w2
   refine ⟨_, W, _, U, w1, k1, ⟨⟨.inr ⟨W.next, rfl, k2, by omega, by simp⟩, fun q hq => ?_⟩, fun x hx => ?_⟩, (w3.trans k3).mono fun _ _ h => h.elim⟩
   · simp at hq; subst hq
     exact (hp.grew0 w3).grew0 k3
   · cases hx; omega
 · have hrow := hr.grew hr2 (fun h => h) w3
   obtain ⟨U, k1, k2, k3, k4⟩ := ap4_more onW w2 hrow (by rw [List.length_map]; exact hl)
   rw [List.length_map] at k1
   have hlm : (l ++ [p]).length = l.length + 1 := by rw [List.length_append]; rfl
   refine ⟨_, W, _, U, w1, k1, ⟨⟨.inr ⟨W.next, by rw [hlm], ?_, by omega, by omega⟩, fun q hq => ?_⟩, fun x hx => ?_⟩, (w3.mono fun _ _ h => h.elim).trans (k3.mono fun x _ e => by subst e; rfl)⟩
   · rw [List.map_append]; exact k2
   · have hq' : TL W q.rv q.refs := by
      rcases List.mem_append.1 hq with h' | h'
      · exact hW.2 q h'
      · simp at h'; subst h'; exact hp.grew0 w3
     exact hq'.grew (fun x e _ hx he => by
      subst he
      exact absurd (row_ne hx hrow) (by decide)) k3
   · cases hx; omega
theorem TLo.push2 (ho : S.on = false) {v : V} {l : List Bs} {N : Nat} (h : TLo S v l N) (hN : N ≤ S.next) (hl : l.length < 100000) (a : Bs) :
 ∃ y W v' U, bsP 9 1 1 (Go.Proofs.Ytginkdeicmdmaaa.Ev.one (sv [])) [(0, sv a)] S = some (y, W) ∧ apP 9 1 16 v y W = some (v', U) ∧ TLo U v' (l ++ [a]) N ∧ Grew (fun x => blkOf v = some x) S U := by
 obtain ⟨W, h1, h2, h3, h4⟩ := bsP_one ho 9 (Go.Proofs.Ytginkdeicmdmaaa.Ev.one (sv [])) (oneV_sv a)
 have on1 := h3.on.trans ho
 have hlm : (l ++ [a]).length = l.length + 1 := by rw [List.length_append]; rfl
 rcases h with ⟨rfl, rfl⟩ | ⟨r, rfl, hr, hr2, hr3, h0⟩
 · obtain ⟨U, k1, k2, k3, k4⟩ := ap1_first (B := 16) on1 h2 (by unfold maxCells; omega)
   exact ⟨_, W, _, U, h1, k1, .inr ⟨W.next, rfl, k2, by omega, by omega, by simp⟩, (h3.trans k3).mono fun _ _ h => h.elim⟩
 · have hrow := hr.grew hr2 (fun h => h) h3
   obtain ⟨U, k1, k2, k3, k4⟩ := ap1_more (B := 16) on1 h2 hrow (by rw [rowOf_length]; unfold maxCells; omega) (by rw [rowOf_length]; unfold big; omega)
   rw [rowOf_length] at k1
   refine ⟨_, W, _, U, h1, k1, .inr ⟨W.next, by rw [hlm], ?_, by omega, by omega, by omega⟩, (h3.mono fun _ _ h => h.elim).trans (k3.mono fun x _ e => by subst e; rfl)⟩
   rw [rowOf_append]
   exact k2
theorem TLo.blk {v : V} {l : List Bs} {N r : Nat} (h : TLo S v l N) (hr : blkOf v = some r) : N ≤ r ∧ RowAt S r 9 1 (rowOf l) := by
 rcases h with ⟨_, rfl⟩ | ⟨r', rfl, h1, h2, h3, _⟩
 · cases hr
 · cases hr; exact ⟨h3, h1⟩
def ltr (k : Nat) : Bs := [UInt8.ofNat (97 + k)]
theorem ltr_nat {k : Nat} (h : k < 100) : (UInt8.ofNat (97 + k)).toNat = 97 + k := by rw [UInt8.toNat_ofNat']; omega
theorem ltr_inj {i k : Nat} (hi : i < 100) (hk : k < 100) (h : ltr i = ltr k) : i = k := by
 unfold ltr at h
 have := congrArg UInt8.toNat (List.cons.inj h).1
 rw [ltr_nat hi, ltr_nat hk] at this
 omega
theorem und44 : und E0 44 = some (.slice 5) := by kernel_rfl
theorem und5 : und E0 5 = some (.int .u8) := by kernel_rfl
theorem conv_row (ho : S.on = false) {r : Nat} {b : UInt8} (h : RowAt S r 5 1 ([b].map byteC)) : convertV E0 44 9 (.slice r 0 1 1) S = some (sv [b], S) :=
 convert_row ho und44 und5 und9 h (off := 0) (len := 1) (cap := 1) (by simp)
def bit (n k : Nat) : Bool := decide (n / 2 ^ k % 2 = 1)
end
end Go.Proofs.Ytginkdeicmdmaaa.W
namespace Go.Proofs.Ytginkdeicmdmaaa.W
open Go.Proofs.Ytginkdeicmdmaaa.Ev Go.RowKit
def U16V (v : V) (l : List Nat) : Prop := (l = [] ∧ (v = .nilslice ∨ v = .eslice)) ∨ v = .list 1 (l.map fun n : Nat => V.int .u16 (n : Int))
def refsS (b : Bool) (n i x : Nat) : List Bs := ((List.range (if b then i + 1 else n)).filter (bit x)).map ltr
def gOf (ps : List Pth) : List (Bs × List Bs) := ps.map fun p => (p.nm, p.refs)
def smallG (b : Bool) (l : List Nat) (n : Nat) : Nat → List (Bs × List Bs)
 | 0 => []
 | i + 1 => smallG b l n i ++ [(ltr i, refsS b n i (l.getD i 0))]
section
variable {S T U : St}
theorem u16_len {v : V} {l : List Nat} (h : U16V v l) : lnS v S = some (.int .i64 (l.length : Int), S) := by
 rcases h with ⟨rfl, rfl | rfl⟩ | rfl
 · rfl
 · rfl
 · show some (V.int .i64 (Int.ofNat (l.map fun n : Nat => V.int .u16 (n : Int)).length), S) = _
   rw [List.length_map]; rfl
theorem u16_ix {v : V} {l : List Nat} (h : U16V v l) {i : Nat} (hi : i < l.length) : ixP 1 v (.int .i64 (i : Int)) = some (.cptr (.int .u16 (l.getD i 0 : Int))) := by
 rcases h with ⟨rfl, _⟩ | rfl
 · cases hi
 · show (bif Nat.beq 1 1 && Nat.blt 0 1 then ((l.map fun n : Nat => V.int .u16 (n : Int))[i]?).bind fun v => some (V.cptr v) else none) = _
   rw [List.getElem?_map, List.getElem?_eq_getElem hi, List.getD_eq_getElem?_getD, List.getElem?_eq_getElem hi]
   rfl
theorem bit_if {n k : Nat} (hk : k < 16) (A B : Rs) : ((binV E0 .shr 23 false false (.int .u16 (n : Int)) (.int .i64 (k : Int))).bind fun t51 =>
(binV E0 .rem 23 false true t51 (.int .u16 2)).bind fun t52 =>
(binV E0 .eql 23 false true t52 (.int .u16 1)).bind fun t53 => ifK t53 A B) = bif bit n k then A else B := by
 have h1 : binV E0 .shr 23 false false (.int .u16 (n : Int)) (.int .i64 (k : Int)) = some (.int .u16 ((n / 2 ^ k : Nat) : Int)) := by
  rw [binV_ii]
  show some (V.int .u16 ((n : Int).fdiv (.ofNat (2 ^ min k (ikBits .u16))))) = _
  rw [Nat.min_eq_left (show k ≤ ikBits .u16 from Nat.le_of_lt hk), Int.ofNat_fdiv]
  rfl
 have h2 : binV E0 .rem 23 false true (.int .u16 ((n / 2 ^ k : Nat) : Int)) (.int .u16 2) = some (.int .u16 ((n / 2 ^ k % 2 : Nat) : Int)) := by
  rw [binV_ii, intsV_rem _ _ _ (by decide)]; rfl
 rw [h1, oB, h2, oB, binV_ii, intsV_eql, oB, ifK_bool]
 have : decide (((n / 2 ^ k % 2 : Nat) : Int) = 1) = bit n k := by
  unfold bit
  rw [decide_eq_decide]
  omega
 rw [this]
theorem letter_parts (ho : S.on = false) {k : Nat} (hk : k < 100) : ∃ W, Grew (fun _ => False) S W ∧ cvI .u8 (.int .i64 (k : Int)) S = some (.int .u8 (k : Int), S) ∧
 ∃ t y, binV E0 .add 5 true false (.int .u8 97) (.int .u8 (k : Int)) = some t ∧ bsP 5 1 1 (Go.Proofs.Ytginkdeicmdmaaa.Ev.one (.int .u8 0)) [(0, t)] S = some (y, W) ∧ convertV E0 44 9 y W = some (sv (ltr k), W) := by
 obtain ⟨W, w1, w2, w3, w4⟩ := bsP_byte ho 5 (UInt8.ofNat (97 + k))
 refine ⟨W, w3, ?_, _, _, ?_, w1, conv_row (w3.on.trans ho) w2⟩
 · rw [cvI_int, wrap_u8 (by omega) (by omega)]
 · rw [binV_ii, intsV_add, wrap_u8 (by omega) (by omega), show ((97 : Int) + (k : Int)) = ((UInt8.ofNat (97 + k)).toNat : Int) from by rw [ltr_nat hk]; omega]
theorem cond_eq (b : Bool) (k n i : Nat) (K : V → Rs) :
 ((binV E0 .lss 3 false false (.int .i64 (k : Int)) (.int .i64 (n : Int))).bind fun t36 =>
(guardV true t36).bind fun g38 => (bif g38 then some (V.bool b) else some (.tuple [])).bind fun t38 =>
(guardV true t36).bind fun g39 => (bif g39 then unV .not t38 else some (.tuple [])).bind fun t39 =>
(guardV true t36).bind fun g40 => (bif g40 then some t39 else some (.tuple [])).bind fun t40 =>
(guardV false t40).bind fun g41 => (bif g41 then some (V.int .i64 (k : Int)) else some (.tuple [])).bind fun t41 =>
(guardV false t40).bind fun g42 => (bif g42 then some (V.int .i64 (i : Int)) else some (.tuple [])).bind fun t42 =>
(guardV false t40).bind fun g43 => (bif g43 then binV E0 .leq 3 false false t41 t42 else some (.tuple [])).bind fun t43 =>
(guardV true t36).bind fun g44 => (bif g44 then pickV t40 (some (.bool true)) (some t43) else some (.tuple [])).bind fun t44 =>
(pickV t36 (some t44) (some (.bool false))).bind fun t45 => K t45) = K (.bool (decide (k < n) && (!b || decide (k ≤ i)))) := by
 have hle : binV E0 .leq 3 false false (.int .i64 (k : Int)) (.int .i64 (i : Int)) = some (.bool (decide (k ≤ i))) := by
  rw [binV_ii, intsV_leq]
  congr 2
  rw [decide_eq_decide]; omega
 rw [binV_ii, intsV_lss, oB]
 by_cases h : k < n
 · rw [dec_lt h, decide_eq_true h]
   cases b
   · rfl
   · simp only [gTT, gFF, oB, cond_true, cond_false, unV_not, Bool.not_true, hle, pickV_bool, Bool.true_and, Bool.false_or]
 · rw [dec_ge (by omega), decide_eq_false h]
   rfl
theorem set4_1 (a b c d v : V) : (Tr.ofListFrom .nil [a, b, c, d] 0).set v 1 = Tr.ofListFrom .nil [a, v, c, d] 0 := by kernel_rfl
theorem bx_st4 (ho : S.on = false) {x e : Nat} {a b c d v : V} (h : Bx S x e [a, b, c, d]) (hv : OneV v) : stP 1 (.ptr x (0 + 1)) v S = some (.tuple [], S.put x (bxO e [a, v, c, d])) := by
 show vu (bif Nat.beq v.size 1 && !isTuple v then stK S x 1 1 v.cells else none) = _
 rw [hv.size, hv.cells, hv.tup]
 have hst : stK S x 1 1 (Go.Proofs.Ytginkdeicmdmaaa.Ev.one v) = some (S.put x (bxO e [a, v, c, d])) := by
  have h' : S.heap.get x = some (.cells e 4 1 false (Tr.ofListFrom .nil [Tr.ofListFrom .nil [a, b, c, d] 0] 0)) := h
  unfold stK
  rw [h']
  simp only [show Nat.ble (1 + 1) (4 * 1) = true from rfl, blt_true.2 (show 4 * 1 < big by unfold big; decide), Bool.and_self, Bool.not_false, cond_true]
  unfold elemTo
  rw [show Nat.beq 1 4 = false from rfl]
  have hv0 : (Go.Proofs.Ytginkdeicmdmaaa.Ev.one v).get 0 = some v := rfl
  simp only [Bool.false_and, cond_false, cellsTo, Tr.setC_eq, hv0, oB, show (1 + 0) / 4 = 0 from rfl, show (1 + 0) % 4 = 1 from rfl]
  rw [Tr.get_ofList]
  simp only [List.getElem?_cons_zero, oB, set4_1, set_one, note_off ho]
  rfl
 rw [hst]; rfl
theorem bx_put4 (x e : Nat) (l : List V) : Bx (S.put x (bxO e l)) x e l := by
 show (S.put x (bxO e l)).heap.get x = some (bxO e l)
 rw [put_get, if_pos rfl]
theorem TLo.oneV {v : V} {l : List Bs} {N : Nat} (h : TLo S v l N) : OneV v := by
 rcases h with ⟨_, rfl⟩ | ⟨r, rfl, _⟩ <;> exact ⟨rfl, rfl, rfl, rfl⟩
def upTo (x k : Nat) : List Bs := ((List.range k).filter (bit x)).map ltr
theorem upTo_succ (x k : Nat) : upTo x (k + 1) = upTo x k ++ (if bit x k then [ltr k] else []) := by
 unfold upTo
 rw [List.range_succ, filter_push, List.map_append]
 by_cases h : bit x k = true
 · rw [if_pos h, if_pos h]; rfl
 · rw [if_neg h, if_neg h]; rfl
theorem upTo_len (x k : Nat) : (upTo x k).length ≤ k := by
 unfold upTo
 rw [List.length_map]
 refine Nat.le_trans (List.length_filter_le _ _) ?_
 rw [List.length_range]; exact Nat.le_refl _
theorem L8i_spec {m N : Nat} (ho : S.on = false) {v0 v5 : V} {l : List Nat} (hl : U16V v0 l) (b : Bool) {n i x : Nat} (hn : n ≤ 14) (hln : n ≤ l.length) (hi : i < n) {nmv : V} (hx : S.next ≤ x) (nk : Ac → St → Rs) (ek : Nat → Ac → St → Rs) :
 ∀ (d k q : Nat) (rv : V) (U : St), k + d = (if b then i + 1 else n) → d < q → Grew (fun _ => False) S U → x < U.next → Bx U x 28 [nmv, rv, sv [], sv []] → TLo U rv (upTo (l.getD i 0) k) S.next →
 ∃ rv' T, L8_33 (ev E0 KD m) N nk ek q v0 (.bool b) v5 (.int .i64 (n : Int)) (.int .i64 (i : Int)) (.ptr x 0) (.int .i64 (k : Int)) U = ek 2 (fr 61 [(0, v0), (1, .bool b), (5, v5), (6, .int .i64 (n : Int)), (7, .int .i64 (i : Int)), (8, .ptr x 0)]) T ∧
  Grew (fun _ => False) S T ∧ x < T.next ∧ Bx T x 28 [nmv, rv', sv [], sv []] ∧ TLo T rv' (refsS b n i (l.getD i 0)) S.next
 | d, k, 0, rv, U, _, hq, _, _, _, _ => by omega
 | 0, k, q + 1, rv, U, hk, hq, g, hxU, hb, ht => by
  refine ⟨rv, U, ?_, g, hxU, hb, ?_⟩
  · have hc : (decide (k < n) && (!b || decide (k ≤ i))) = false := by
     cases b
     · rw [decide_eq_false (show ¬ k < n by simp at hk; omega)]; rfl
     · rw [decide_eq_false (show ¬ k ≤ i by simp at hk; omega)]; simp
    rw [L8_33_eq, cond_eq, hc, ifK_bool, cond_false]
  · have : k = (if b then i + 1 else n) := by omega
    rw [this] at ht
    exact ht
 | d + 1, k, q + 1, rv, U, hk, hq, g, hxU, hb, ht => by
  have onU := g.on.trans ho
  have hkn : k < n := by cases b <;> simp at hk <;> omega
  have hc : (decide (k < n) && (!b || decide (k ≤ i))) = true := by
   rw [decide_eq_true hkn]
   cases b
   · rfl
   · rw [decide_eq_true (show k ≤ i by simp at hk; omega)]; rfl
  have hadd : binV E0 .add 3 false true (.int .i64 (k : Int)) (.int .i64 1) = some (.int .i64 ((k + 1 : Nat) : Int)) := by
   rw [binV_ii, intsV_add, wrap_succ (by omega)]
  have hld : ld1 (.cptr (.int .u16 (l.getD i 0 : Int))) U = some (.int .u16 (l.getD i 0 : Int), U) := rfl
  rw [L8_33_eq, cond_eq, hc, ifK_bool, cond_true, u16_ix hl (by omega), oB, hld, oB]
  dsimp only
  rw [bit_if (by omega)]
  cases hbit : bit (l.getD i 0) k with
  | false =>
   rw [cond_false, hadd, oB]
   exact L8i_spec ho hl b hn hln hi hx nk ek d (k + 1) q rv U (by omega) (by omega) g hxU hb (by rw [upTo_succ, hbit, if_neg (by simp), List.append_nil]; exact ht)
  | true =>
   have l1 : ld1 (.ptr x (0 + 1)) U = some (rv, U) := Bx.ldv onU hb big4 rfl
   obtain ⟨W, w1, w2, t, y, w3, w4, w5⟩ := letter_parts onU (k := k) (by omega)
   have onW := w1.on.trans onU
   obtain ⟨y2, W2, rv', X, p1, p2, p3, p4⟩ := (ht.grew w1).push2 onW (Nat.le_trans g.next w1.next) (Nat.lt_of_le_of_lt (upTo_len _ _) (by omega)) (ltr k)
   have onX := p4.on.trans onW
   have hbW := hb.grew hxU (fun h => h) w1
   have hbX : Bx X x 28 [nmv, rv, sv [], sv []] := hbW.grew (Nat.lt_of_lt_of_le hxU w1.next) (fun h => absurd (row_bx ((ht.grew w1).blk h).2 hbW) (by decide)) p4
   have hst := bx_st4 onX hbX p3.oneV
   have gX : Grew (fun _ => False) S X := Grew.fresh (g.trans w1) (Nat.le_refl _) (p4.mono fun z _ h => ((ht.grew w1).blk h).1)
   have gP := grew_put (s := X) x (bxO 28 [nmv, rv', sv [], sv []])
   have htP : TLo (X.put x (bxO 28 [nmv, rv', sv [], sv []])) rv' (upTo (l.getD i 0) (k + 1)) S.next := by
    rw [upTo_succ, hbit, if_pos rfl]
    rcases p3 with h | ⟨r, h0, h1, h2, h3, h4⟩
    · exact .inl h
    · exact .inr ⟨r, h0, h1.grew h2 (fun e => by subst e; exact absurd (row_bx h1 hbX) (by decide)) gP, h2, h3, h4⟩
   obtain ⟨rv'', T, t1, t2, t3, t4, t5⟩ := L8i_spec (m := m) (N := N) (v5 := v5) ho hl b hn hln hi hx nk ek d (k + 1) q rv' (X.put x (bxO 28 [nmv, rv', sv [], sv []])) (by omega) (by omega) (Grew.own gX hx gP) (Nat.lt_of_lt_of_le (Nat.lt_of_lt_of_le hxU w1.next) p4.next) (bx_put4 x 28 _) htP
   refine ⟨rv'', T, ?_, t2, t3, t4, t5⟩
   rw [cond_true, faPg, oB, l1, oB]
   dsimp only
   rw [w2, oB]
   dsimp only
   rw [w3, oB, w4, oB]
   dsimp only
   rw [w5, oB]
   dsimp only
   rw [p1, oB]
   dsimp only
   rw [p2, oB]
   dsimp only
   rw [oB, hst, oB]
   dsimp only
   rw [hadd, oB]
   exact t1
end
end Go.Proofs.Ytginkdeicmdmaaa.W
