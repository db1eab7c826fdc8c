/-
  WHAT THE FUNCTIONS COME TO: each is read by the evaluator, printed, and told as a function of data, part 8 of 8 (no condition).
-/
import Derived.Test.YtmeohejdafbodaaW7
import Derived.Lib.SmallJoins
namespace Go.Proofs.Ytmeohejdafbodaa.W
open Go.Proofs.Ytmeohejdafbodaa.Ev Go.RowKit
section
variable {S T U X : St} {r a o f N l : Nat} {v : V} {p : List Bs × List Bs}
structure Lp (S : St) (r a o f N l : Nat) (v : V) (p : List Bs × List Bs) : Prop where
 fd : Fd S r a o f N v p
 fl : f < l
 lN : l < N
 rcd : S.heap.get l = some (qer 0 none (.ptr a 0) (.ptr f 0))
theorem Lp.grew {W : Nat → Prop} (h : Lp S r a o f N l v p) (g : Grew W S T) (h1 : ¬ W r) (h2 : ¬ W a) (h3 : ¬ W o) (h4 : ¬ W f) (h5 : ∀ b, qfo v = some b → ¬ W b) (h6 : ¬ W l) : Lp T r a o f N l v p :=
 ⟨h.fd.grew g h1 h2 h3 h4 h5, h.fl, h.lN, by rw [g.keep l (Nat.lt_of_lt_of_le h.lN h.fd.nx) h6]; exact h.rcd⟩
theorem Lp.grew0 (h : Lp S r a o f N l v p) (g : Grew (fun _ => False) S T) : Lp T r a o f N l v p := h.grew g (fun h => h) (fun h => h) (fun h => h) (fun h => h) (fun _ _ h => h) (fun h => h)
theorem round8 (m : Nat) (L : Lp S r a o f N l v p) (w : Bs) (hw : w.length ≤ 100000) : ∃ v' U, qfp E0 (ev E0 KD (m + 2)) (.yield l) [sv w] S = some (.ret (.bool true), U) ∧ Lp U r a o f N l v' ((wins w).foldl stepF p) ∧ Grew (Wf r o l v) S U ∧ Fr v v' S := by
 have F := L.fd
 have ho := F.on
 have hra := F.ra; have hao := F.ao; have hof := F.of; have hfN := F.fN; have hnx := F.nx
 have hfl := L.fl; have hlN := L.lN
 have g1 : Grew (fun x => x = l) S (S.put l (qer 2 none (.ptr a 0) (.ptr f 0))) := qbu _ _
 have hr1 : (S.put l (qer 2 none (.ptr a 0) (.ptr f 0))).heap.get l = some (qer 2 none (.ptr a 0) (.ptr f 0)) := by rw [qbk, if_pos rfl]
 have hmid : midR l (frR 60 [(5, .ptr a 0), (11, .ptr f 0), (12, sv w), (37, sv w)] l) S = fun k => k (S.put l (qer 2 none (.ptr a 0) (.ptr f 0))) := funext fun k => midR_of ho L.rcd rfl
 have n1 : (S.put l (qer 2 none (.ptr a 0) (.ptr f 0))).next = S.next := rfl
 generalize S.put l (qer 2 none (.ptr a 0) (.ptr f 0)) = S1 at g1 hr1 hmid n1
 have hbl : ∀ {v : V} {q : List Bs} {S : St} (_ : TLo S v q N) (b : Nat), qfo v = some b → N ≤ b := fun h b e => (h.blk e).1
 have F1 : Fd S1 r a o f N v p := F.grew g1 (by omega) (by omega) (by omega) (by omega) fun b hb => by have := hbl F.tl b hb; omega
 obtain ⟨v', S2, c1, c2, c3, c4⟩ := L25_spec (m := m) (Nn := qa1) (l := l) w hw (qj0 l 0 none true) (exB 4 (qj0 l 0 none true) (exB 3 (qj0 l 0 none true) (fun i => qj0 l 1 (some (.exit i)) false))) w.length 0 qa1 v p S1 rfl (by unfold qa1; omega) (by omega) F1
 have hr2 : S2.heap.get l = some (qer 2 none (.ptr a 0) (.ptr f 0)) := by
  rw [c3.keep l (by omega) (fun e => by
   rcases e with e | e | e | e
   · omega
   · omega
   · omega
   · have := hbl F.tl l e; omega)]
  exact hr1
 have n2 := c3.next
 have g3 : Grew (fun x => x = l) S2 (S2.put l (qer 0 none (.ptr a 0) (.ptr f 0))) := qbu _ _
 refine ⟨v', S2.put l (qer 0 none (.ptr a 0) (.ptr f 0)), ?_, ⟨c2.grew g3 (by omega) (by omega) (by omega) (by omega) fun b hb => by have := hbl c2.tl b hb; omega, hfl, hlN, by rw [qbk, if_pos rfl]⟩, ?_, fun b hb => by have := c4 b hb; rw [n1] at this; exact this⟩
 · refine round_run (da := DA8_21) (db := DB8_21) ho L.rcd (qa3 YA8_21 _ (by kernel_rfl)) (qa3 YB8_21 _ (by kernel_rfl)) (?_ : Y8_21 (ev E0 KD (m + 1)) qa1 l (.ptr a 0) (.ptr f 0) (sv w) S = _)
   rw [Y8_21_eq, hmid]
   dsimp only
   rw [show V.int .i64 0 = .int .i64 ((0 : Nat) : Int) from rfl, c1, exB_same]
   exact endRK_of c2.on hr2 rfl
 · exact ((g1.mono fun x _ e => .inr (.inr (.inl e))).trans (c3.mono fun x _ e => by
    rcases e with e | e | e | e
    · exact .inl e
    · exact .inr (.inl e)
    · exact .inl e
    · exact .inr (.inr (.inr e)))).trans (g3.mono fun x _ e => .inr (.inr (.inl e)))
theorem L33_spec {self : EV} {Nn : Nat} (nk : Ac → St → Rs) (ek : Nat → Ac → St → Rs) (x : Nd) (ok : x.ok)
 (hself : ∀ y ∈ x.kids, ∀ (v : V) (p : List Bs × List Bs) (S : St), Lp S r a o f N l v p → ∃ v' U, self.f 33 [qce y, .yield l] S = some (.ret (.bool true), U) ∧ Lp U r a o f N l v' ((qeq y).foldl stepF p) ∧ Grew (Wf r o l v) S U ∧ Fr v v' S) :
 ∀ (rest : List Nd) (i q : Nat) (v : V) (p : List Bs × List Bs) (S : St), x.kids.drop i = rest → rest.length < q → Lp S r a o f N l v p →
 ∃ v' U, L33_14 self Nn nk ek q (.yield l) (qg9 (qhv x.kids)) (.int .i64 (x.kids.length : Int)) (.int .i64 (i : Int)) S = ek 0 (fr 24 []) U ∧ Lp U r a o f N l v' ((qip rest).foldl stepF p) ∧ Grew (Wf r o l v) S U ∧ Fr v v' S
 | _, _, 0, _, _, _, _, hq, _ => by omega
 | [], i, q + 1, v, p, S, hi, hq, L => by
  refine ⟨v, S, ?_, by rw [qip]; exact L, Grew.refl _ _, fun b hb => .inl hb⟩
  rw [L33_14_eq, qmq, decide_eq_false (Nat.not_lt.2 (qbo hi)), oB, ifK_bool, cond_false]
 | y :: rest, i, q + 1, v, p, S, hi, hq, L => by
  obtain ⟨hil, hy, hr, hmem⟩ := qct hi
  have few := ok.at.few
  obtain ⟨S1, a1, a2, a3, a4⟩ := ql9 L.fd.on (Tr.ofListFrom .nil [(sv []), (.int .i64 0), (.bool false), (sv []), .nilslice] 0) y
  obtain ⟨v1, U1, b1, b2, b3, b4⟩ := hself y hmem v p S1 (L.grew0 a3)
  have f1 : Fr v v1 S := fun b hb => by
   rcases b4 b hb with e | e
   · exact .inl e
   · exact .inr (by omega)
  have g1 : Grew (Wf r o l v) S U1 := (a3.mono fun _ _ h => h.elim).trans b3
  obtain ⟨v', U, c1, c2, c3, c4⟩ := L33_spec (self := self) (Nn := Nn) nk ek x ok hself rest (i + 1) q v1 _ U1 hr (by simpa using hq) b2
  refine ⟨v', U, ?_, by rw [qip, List.foldl_append]; exact c2, Wf.then g1 f1 c3, Fr.trans f1 g1.next c4⟩
  rw [L33_14_eq, qmq, decide_eq_true hil, oB, ifK_bool, cond_true, qd6 x.kids i hil, hy, oB, qgo, oB, oB, qii, a1, oB]
  dsimp only
  rw [a2.fA, oB]
  dsimp only
  rw [b1, callP_ret, unV_not, oB, ifK_bool, Bool.not_true, cond_false, qk9 (by omega), oB, c1]
theorem each_run (m : Nat) : ∀ (k : Nat) (x : Nd), qc6 x ≤ k → x.ok → ∀ (v : V) (p : List Bs × List Bs) (S : St), Lp S r a o f N l v p →
 ∃ v' U, (ev E0 KD (m + k + 2)).f 33 [qce x, .yield l] S = some (.ret (.bool true), U) ∧ Lp U r a o f N l v' ((qeq x).foldl stepF p) ∧ Grew (Wf r o l v) S U ∧ Fr v v' S
 | 0, x, hc, _, _, _, _, _ => by have := cntN_eq x; omega
 | k + 1, x, hc, ok, v, p, S, L => by
  have hcx := cntN_eq x
  obtain ⟨S1, k1, k2, k3, k4⟩ := qbq L.fd.on x
  have L1 := L.grew0 k3
  obtain ⟨v1, S2, a1, a2, a3, a4⟩ := round8 (m + k) L1 x.data (by have := ok.at.data; omega)
  have hnx := L.fd.nx; have hra := L.fd.ra; have hao := L.fd.ao; have hof := L.fd.of; have hfl := L.fl; have hlN := L.lN
  have k2' : NodeAt S2 S.next x := k2.grew (by omega) (fun e => by
   rcases e with e | e | e | e
   · omega
   · omega
   · omega
   · have := L.fd.tl.lt e; omega) a3
  have f1 : Fr v v1 S := fun b hb => by
   rcases a4 b hb with e | e
   · exact .inl e
   · exact .inr (by omega)
  have g1 : Grew (Wf r o l v) S S2 := (k3.mono fun _ _ h => h.elim).trans a3
  obtain ⟨v', U, b1, b2, b3, b4⟩ := L33_spec (self := ev E0 KD (m + k + 2)) (Nn := qa1) (R33_8 (ev E0 KD (m + k + 2)) qa1 (qay E0 (ev E0 KD (m + k + 2)) Try.f33) qae) (exB 0 (R33_8 (ev E0 KD (m + k + 2)) qa1 (qay E0 (ev E0 KD (m + k + 2)) Try.f33) qae) qae) x ok
   (fun y hy v p S hL => each_run m k y (by have := cntL_mem hy; omega) (ok.at.kids y hy) v p S hL) x.kids 0 qa1 v1 _ S2 rfl (by have := ok.at.few; unfold qa1; omega) a2
  refine ⟨v', U, rd33 ?_, by rw [winsN_eq, List.foldl_append]; exact b2, Wf.then g1 f1 b3, Fr.trans f1 g1.next b4⟩
  show F33 (ev E0 KD (m + k + 2)) qa1 (qce x) (.yield l) S = _
  rw [F33_eq, k1, oB]
  dsimp only
  rw [faP3, oB, k2.f3, oB]
  dsimp only
  rw [a1, callP_ret, unV_not, oB, ifK_bool, Bool.not_true, cond_false, faP4, oB, k2'.f4, oB]
  dsimp only
  rw [qc2, oB]
  dsimp only
  rw [show V.int .i64 0 = .int .i64 ((0 : Nat) : Int) from rfl, b1, exB_same, R33_8_eq]
theorem f32_run (m : Nat) (x : Nd) (ok : x.ok) {b : Nat} (L : Lp S r a o f N l v p) (hb : NodeAt S b x) : ∃ v' U, (ev E0 KD (m + qc6 x + 3)).f 32 [.yield l, .ptr b 0] S = some (.ret (.tuple []), U) ∧ Lp U r a o f N l v' ((qeq x).foldl stepF p) ∧ Grew (Wf r o l v) S U ∧ Fr v v' S := by
 obtain ⟨v', U, b1, b2, b3, b4⟩ := each_run m (qc6 x) x (Nat.le_refl _) ok v p S L
 refine ⟨v', U, rd32 ?_, b2, b3, b4⟩
 show F32 (ev E0 KD (m + qc6 x + 2)) qa1 (.yield l) (.ptr b 0) S = _
 rw [F32_eq, hb.fA, oB]
 dsimp only
 rw [b1, callP_ret]
theorem f16_run (m : Nat) (x : Nd) (ho : S.on = false) : ∃ U, (ev E0 KD (m + 1)).f 16 [qce x] S = some (.ret (.fn (.func 32) [] [.ptr S.next 0]), U) ∧ NodeAt U S.next x ∧ Grew (fun _ => False) S U ∧ U.next = S.next + 1 := by
 obtain ⟨S1, k1, k2, k3, k4⟩ := qbq ho x
 refine ⟨S1, rd16 ?_, k2, k3, k4⟩
 show F16 (ev E0 KD m) qa1 (qce x) S = _
 rw [F16_eq, k1, oB]
end
section
variable {S T U X : St} {r a o f N l : Nat} {v : V} {p : List Bs × List Bs}
theorem sortT_kp : ∀ l : List Bs, sortT (l.map kp) = (qjn l).map kp
 | [] => rfl
 | x :: l => by
  show insS (kp x).1 (kp x).2 (sortT (l.map kp)) = _
  rw [sortT_kp l]
  exact insS_ins x _
theorem qno : ∀ l : List Bs, qio (qdt l) = some (l.map kp)
 | [] => rfl
 | x :: l => by
  show ((qio (qdt l)).bind fun q => some ((x.length, qal x) :: q)) = _
  rw [qno l]; rfl
theorem qjo (l : List Bs) : (qjn l).length = l.length := (qhl l).length_eq
theorem sort_run (n : Nat) (ho : S.on = false) {l : List Bs} (h : TLo S v l N) (hn : l.Nodup) (hl : l.length < 1000000) : ∃ U, (ev E0 KD (n + 1)).f 17 [v] S = some (.ret (.tuple []), U) ∧ TLo U v (qjn l) N ∧ Grew (fun x => qfo v = some x) S U := by
 rcases h with ⟨rfl, rfl⟩ | ⟨r, rfl, h1, h2, h3, h4⟩
 · exact ⟨S, by rw [qau kd17]; rfl, .nil, Grew.refl _ _⟩
 · obtain ⟨U, k1, k2, k3, k4⟩ := RowAt.stN (qdt (qjn l)) ho h1 0 (by rw [qa6, qa6, qjo]; omega)
   have hld := h1.ldN ho l.length 0 (by rw [qa6]; omega)
   rw [List.drop_zero, List.take_of_length_le (by rw [qa6]; omega), Nat.zero_mul] at hld
   rw [Nat.zero_mul] at k1
   refine ⟨U, ?_, .inr ⟨r, by rw [qjo], ?_, by rw [k4]; exact h2, h3, by rw [qjo]; exact h4⟩, k3.mono fun x _ e => by subst e; rfl⟩
   · rw [qau kd17]
     show (bif Nat.beq 1 1 then qg6 r 0 l.length S else none) = _
     rw [show Nat.beq 1 1 = true from rfl, cond_true]
     unfold qg6
     rw [show Nat.beq l.length 0 = false from Go.Proofs.Ytmeohejdafbodaa.Ev.beq_false.2 (by omega), cond_false, hld, oB]
     dsimp only
     rw [qno, oB]
     rw [sortT_kp, blt_true.2 hl, rising_of (sortB_pw hn), Bool.and_self, cond_true, show qk6 ((qjn l).map kp) = qdt (qjn l) from by unfold qk6 qdt; rw [List.map_map]; rfl, k1]
     rfl
   · have hlen : (qdt (qjn l)).length = (qdt l).length := by rw [qa6, qa6, qjo]
     rw [List.take_zero, List.nil_append, Nat.zero_add, List.drop_of_length_le (by rw [hlen]; exact Nat.le_refl _), List.append_nil] at k2
     exact k2
theorem askL_len : ∀ (hs ks : List Bs), (askL ks hs).length ≤ ks.length + hs.length
 | [], ks => Nat.le_refl _
 | h :: hs, ks => by
  rw [askL]
  refine Nat.le_trans (askL_len hs _) ?_
  rw [List.length_cons]
  split
  · split
    · omega
    · rw [List.length_append, List.length_singleton]; omega
  · omega
theorem askL_nodup : ∀ (hs ks : List Bs), ks.Nodup → (askL ks hs).Nodup
 | [], ks, h => h
 | h :: hs, ks, hk => by
  rw [askL]
  refine askL_nodup hs _ ?_
  split
  · split
    · exact hk
    · next hm => exact List.nodup_append.2 ⟨hk, List.pairwise_singleton _ h, fun x hx y hy e => hm (by rw [List.mem_singleton.1 hy] at e; rw [← e]; exact hx)⟩
  · exact hk
theorem mem_askL {x : Bs} : ∀ (hs ks : List Bs), x ∈ askL ks hs ↔ x ∈ ks ∨ (x ∈ hs ∧ isH x = true)
 | [], ks => by simp [askL]
 | h :: hs, ks => by
  rw [askL, mem_askL hs]
  cases hi : isH h with
  | false =>
   rw [if_neg (by simp)]
   constructor
   · rintro (e | ⟨e, e'⟩)
     · exact .inl e
     · exact .inr ⟨List.mem_cons_of_mem _ e, e'⟩
   · rintro (e | ⟨e, e'⟩)
     · exact .inl e
     · rcases List.mem_cons.1 e with q | q
       · rw [q, hi] at e'; cases e'
       · exact .inr ⟨q, e'⟩
  | true =>
   rw [if_pos rfl]
   by_cases hm : h ∈ ks
   · rw [if_pos hm]
     constructor
     · rintro (e | ⟨e, e'⟩)
       · exact .inl e
       · exact .inr ⟨List.mem_cons_of_mem _ e, e'⟩
     · rintro (e | ⟨e, e'⟩)
       · exact .inl e
       · rcases List.mem_cons.1 e with q | q
         · rw [q]; exact .inl hm
         · exact .inr ⟨q, e'⟩
   · rw [if_neg hm]
     constructor
     · rintro (e | ⟨e, e'⟩)
       · rcases List.mem_append.1 e with q | q
         · exact .inl q
         · rw [List.mem_singleton.1 q]; exact .inr ⟨List.mem_cons_self .., hi⟩
       · exact .inr ⟨List.mem_cons_of_mem _ e, e'⟩
     · rintro (e | ⟨e, e'⟩)
       · exact .inl (List.mem_append_left _ e)
       · rcases List.mem_cons.1 e with q | q
         · rw [q]; exact .inl (List.mem_append_right _ (List.mem_singleton_self _))
         · exact .inr ⟨q, e'⟩
structure Split (ks0 : List Bs) (seen : List Bs) (p : List Bs × List Bs) : Prop where
 nd1 : p.1.Nodup
 nd2 : p.2.Nodup
 left : ∀ x, x ∈ p.1 ↔ x ∈ ks0 ∧ x ∉ seen
 got : ∀ x, x ∈ p.2 ↔ x ∈ ks0 ∧ x ∈ seen
theorem Split.step {ks0 seen : List Bs} {p : List Bs × List Bs} (h : Split ks0 seen p) (w : Bs) : Split ks0 (seen ++ [w]) (stepF p w) := by
 unfold stepF
 by_cases hm : w ∈ p.1
 · rw [if_pos hm]
   have h1 := (h.left w).1 hm
   refine ⟨h.nd1.erase w, List.nodup_append.2 ⟨h.nd2, List.pairwise_singleton _ w, fun x hx y hy e => ?_⟩, fun x => ?_, fun x => ?_⟩
   · rw [List.mem_singleton.1 hy] at e
     rw [e] at hx
     exact h1.2 ((h.got w).1 hx).2
   · rw [h.nd1.mem_erase_iff, h.left x, List.mem_append, List.mem_singleton]
     constructor
     · rintro ⟨a, b, c⟩; exact ⟨b, fun e => e.elim c a⟩
     · rintro ⟨a, b⟩; exact ⟨fun e => b (.inr e), a, fun e => b (.inl e)⟩
   · rw [List.mem_append, List.mem_append, List.mem_singleton, h.got x]
     constructor
     · rintro (⟨a, b⟩ | e)
       · exact ⟨a, .inl b⟩
       · rw [e]; exact ⟨h1.1, .inr rfl⟩
     · rintro ⟨a, b | b⟩
       · exact .inl ⟨a, b⟩
       · exact .inr b
 · rw [if_neg hm]
   refine ⟨h.nd1, h.nd2, fun x => ?_, fun x => ?_⟩
   · rw [h.left x, List.mem_append, List.mem_singleton]
     constructor
     · rintro ⟨a, b⟩
       exact ⟨a, fun e => e.elim b fun e => hm (by rw [← e]; exact (h.left x).2 ⟨a, b⟩)⟩
     · rintro ⟨a, b⟩; exact ⟨a, fun e => b (.inl e)⟩
   · rw [h.got x, List.mem_append, List.mem_singleton]
     constructor
     · rintro ⟨a, b⟩; exact ⟨a, .inl b⟩
     · rintro ⟨a, b | b⟩
       · exact ⟨a, b⟩
       · refine ⟨a, Classical.byContradiction fun hn => hm ?_⟩
         rw [← b]; exact (h.left x).2 ⟨a, hn⟩
theorem Split.fold {ks0 : List Bs} : ∀ (ws seen : List Bs) (p : List Bs × List Bs), Split ks0 seen p → Split ks0 (seen ++ ws) (ws.foldl stepF p)
 | [], seen, p, h => by rw [List.append_nil]; exact h
 | w :: ws, seen, p, h => by
  have := Split.fold ws (seen ++ [w]) _ (h.step w)
  rw [List.append_assoc] at this
  exact this
def foundB (x : Nd) (hs : List Bs) : List Bs := ((qeq x).foldl stepF (askL [] hs, [])).2
theorem qib (x : Nd) (hs : List Bs) : Split (askL [] hs) (qeq x) ((qeq x).foldl stepF (askL [] hs, [])) := by
 have := Split.fold (ks0 := askL [] hs) (qeq x) [] (askL [] hs, []) ⟨askL_nodup hs [] .nil, .nil, fun x => by simp, fun x => by simp⟩
 rwa [List.nil_append] at this
theorem mem_found {x : Nd} {hs : List Bs} {h : Bs} : h ∈ foundB x hs ↔ h ∈ hs ∧ hit x h = true := by
 unfold foundB hit
 rw [(qib x hs).got h, mem_askL]
 simp only [List.not_mem_nil, false_or, Bool.and_eq_true, List.contains_iff_mem]
 constructor
 · rintro ⟨⟨a, b⟩, c⟩; exact ⟨a, b, c⟩
 · rintro ⟨a, b, c⟩; exact ⟨⟨a, b⟩, c⟩
theorem keepB_pw (x : Nd) : ∀ (hs acc : List Bs), acc.Pairwise (· < ·) → (qgl x acc hs).Pairwise (· < ·)
 | [], _, h => h
 | h :: hs, acc, ha => by
  rw [qgl]
  refine keepB_pw x hs _ ?_
  split
  · exact putB_pw ha
  · exact ha
theorem mem_keepB (x : Nd) {h : Bs} : ∀ (hs acc : List Bs), h ∈ qgl x acc hs ↔ h ∈ acc ∨ (h ∈ hs ∧ hit x h = true)
 | [], acc => by simp [qgl]
 | k :: hs, acc => by
  rw [qgl, mem_keepB x hs]
  cases hk : hit x k with
  | false =>
   rw [if_neg (by simp)]
   constructor
   · rintro (e | ⟨e, e'⟩)
     · exact .inl e
     · exact .inr ⟨List.mem_cons_of_mem _ e, e'⟩
   · rintro (e | ⟨e, e'⟩)
     · exact .inl e
     · rcases List.mem_cons.1 e with q | q
       · rw [q, hk] at e'; cases e'
       · exact .inr ⟨q, e'⟩
  | true =>
   rw [if_pos rfl, mem_putB]
   constructor
   · rintro ((e | e) | ⟨e, e'⟩)
     · rw [e]; exact .inr ⟨List.mem_cons_self .., hk⟩
     · exact .inl e
     · exact .inr ⟨List.mem_cons_of_mem _ e, e'⟩
   · rintro (e | ⟨e, e'⟩)
     · exact .inl (.inr e)
     · rcases List.mem_cons.1 e with q | q
       · exact .inl (.inl q)
       · exact .inr ⟨q, e'⟩
theorem pw_eq : ∀ {l m : List Bs}, l.Pairwise (· < ·) → m.Pairwise (· < ·) → (∀ x, x ∈ l ↔ x ∈ m) → l = m
 | [], [], _, _, _ => rfl
 | [], y :: m, _, _, h => by have := (h y).2 (List.mem_cons_self ..); cases this
 | x :: l, [], _, _, h => by have := (h x).1 (List.mem_cons_self ..); cases this
 | x :: l, y :: m, h1, h2, h => by
  rw [List.pairwise_cons] at h1 h2
  have e : x = y := by
   rcases List.mem_cons.1 ((h x).1 (List.mem_cons_self ..)) with e | e
   · exact e
   · rcases List.mem_cons.1 ((h y).2 (List.mem_cons_self ..)) with e' | e'
     · exact e'.symm
     · exact absurd (h1.1 y e') (List.lt_asymm (h2.1 x e))
  subst e
  congr 1
  refine pw_eq h1.2 h2.2 fun z => ?_
  constructor
  · intro hz
    rcases List.mem_cons.1 ((h z).1 (List.mem_cons_of_mem _ hz)) with e | e
    · rw [e] at hz; exact absurd (h1.1 x hz) (List.lt_irrefl x)
    · exact e
  · intro hz
    rcases List.mem_cons.1 ((h z).2 (List.mem_cons_of_mem _ hz)) with e | e
    · rw [e] at hz; exact absurd (h2.1 x hz) (List.lt_irrefl x)
    · exact e
theorem same_found (x : Nd) (hs : List Bs) : qjn (foundB x hs) = qgl x [] hs :=
 pw_eq (sortB_pw (qib x hs).nd2) (keepB_pw x hs [] .nil) fun h => by
  rw [mem_sortB, mem_found, mem_keepB]
  simp
end
section
variable {S T U X : St} {r a o f N l : Nat} {v : V} {p : List Bs × List Bs}
theorem oneV_map (r : Nat) : OneV (.map r) := ⟨rfl, rfl, rfl, rfl⟩
theorem oneV_fn (a o : Nat) : OneV (fnF a o) := ⟨rfl, rfl, rfl, rfl⟩
theorem body32 : E0.ext.get 32 = none ∧ qbm E0 32 = true := ⟨by kernel_rfl, by kernel_rfl⟩
theorem fin8_none {self : EV} (x0 x1 p0 v c d e : V) (S : St) : finR E0 self Try.f8 (frD 60 [(0, x0), (1, x1), (2, p0), (4, v), (14, c), (15, d), (16, e)] []) S = some (.ret v, S) := by kernel_rfl
theorem lv8 {self : EV} (v x y z : V) (S : St) (ds : List AD) : qbd E0 self Try.f8 (frD 60 [(4, v), (10, x), (57, y), (58, z), (59, v)] ds) [] .ret S = some (.ret v, S) := by kernel_rfl
theorem R9_spec (m : Nat) (nk : Ac → St → Rs) (ek : Nat → Ac → St → Rs) (x : Nd) (ok : x.ok) {nb : Nat} (hb : NodeAt S nb x) (hnb : nb < S.next) {ks : List Bs} (hks : ks.length ≤ 1000) (hnd : ((qeq x).foldl stepF (ks, [])).2.Nodup) (hm : MapAt S r (kvS (qfb ks))) (hp : One S a 31 (.map r)) (hra : r < a) (ha : a < S.next) :
 ∃ w U M, R8_9 (ev E0 KD (m + qc6 x + 4)) qa1 nk ek (frD 60 [(2, .ptr nb 0), (4, .nilslice), (5, .ptr a 0)] []) S = some (.ret w, U) ∧ TLo U w (qjn ((qeq x).foldl stepF (ks, [])).2) M ∧ S.next ≤ M ∧ Grew (fun b => b = r) S U := by
 have ho := hb.on
 obtain ⟨o1, g1, n1⟩ := one_new ho 25 .nilslice
 have e10 : (nwP 25 1 (Go.Proofs.Ytmeohejdafbodaa.Ev.one .nilslice) S) = (.ptr S.next 0, (nwP 25 1 (Go.Proofs.Ytmeohejdafbodaa.Ev.one .nilslice) S).2) := rfl
 generalize (nwP 25 1 (Go.Proofs.Ytmeohejdafbodaa.Ev.one .nilslice) S).2 = S1 at o1 g1 n1 e10
 have on1 := g1.on.trans ho
 obtain ⟨o2, g2, n2⟩ := one_new on1 41 .nilfn
 have e12 : (nwP 41 1 (Go.Proofs.Ytmeohejdafbodaa.Ev.one .nilfn) S1) = (.ptr S1.next 0, (nwP 41 1 (Go.Proofs.Ytmeohejdafbodaa.Ev.one .nilfn) S1).2) := rfl
 generalize (nwP 41 1 (Go.Proofs.Ytmeohejdafbodaa.Ev.one .nilfn) S1).2 = S2 at o2 g2 n2 e12
 have on2 := g2.on.trans on1
 obtain ⟨S3, c1, c2, c3, c4⟩ := o2.st on2 (oneV_fn a S.next)
 have on3 := c3.on.trans on2
 have g12 := g1.trans g2
 have hb3 : NodeAt S3 nb x := (hb.grew hnb (fun h => h) g12).grew (by omega) (by omega) c3
 obtain ⟨S4, d1, d2, d3, d4⟩ := f16_run (m + qc6 x + 3) x on3
 have on4 := d3.on.trans on3
 have g5 : Grew (fun _ => False) S4 (nw (nw S4 .defb) (qer 0 none (.ptr a 0) (.ptr S1.next 0))) := (qch on4 _ _).trans (qch (nw_on on4 _) _ _)
 have n5 : (nw (nw S4 .defb) (qer 0 none (.ptr a 0) (.ptr S1.next 0))).next = S4.next + 2 := rfl
 have hd5 : (nw (nw S4 .defb) (qer 0 none (.ptr a 0) (.ptr S1.next 0))).heap.get S4.next = some .defb := by
  rw [qem, if_neg (by show S4.next ≠ S4.next + 1; omega), qem, if_pos rfl]
 have hl5 : (nw (nw S4 .defb) (qer 0 none (.ptr a 0) (.ptr S1.next 0))).heap.get (S4.next + 1) = some (qer 0 none (.ptr a 0) (.ptr S1.next 0)) := by
  rw [qem]; exact if_pos rfl
 have hrange := fun (self : EV) (kn kr : St → Rs) (ke : Nat → St → Rs) (kp : V → St → Rs) => rangeP_fn (s := S4) (self := self) (first := []) (captured := [.ptr S3.next 0]) (o := qer 0 none (.ptr a 0) (.ptr S1.next 0)) (kn := kn) (kr := kr) (ke := ke) (kp := kp) body32.1 body32.2
 generalize nw (nw S4 .defb) (qer 0 none (.ptr a 0) (.ptr S1.next 0)) = S5 at g5 n5 hd5 hl5 hrange
 have on5 := g5.on.trans on4
 have g35 := d3.trans g5
 have L : Lp S5 r a S.next S1.next S5.next (S4.next + 1) .nilslice (ks, []) :=
  ⟨⟨on5, (((hm.grew (by omega) (fun h => h) g12).grew (by omega) (by omega) c3).grew (by omega) (fun h => h) g35),
    ((hp.grew ha (fun h => h) g12).grew (by omega) (by omega) c3).grew (by omega) (fun h => h) g35,
    ((o1.grew (by omega) (fun h => h) g2).grew (by omega) (by omega) c3).grew (by omega) (fun h => h) g35,
    .nil, c2.grew (by omega) (fun h => h) g35, hra, ha, by omega, by omega, Nat.le_refl _, by simpa using hks⟩, by omega, by omega, hl5⟩
 obtain ⟨v', S6, f1, f2, f3, f4⟩ := f32_run (m + 1) x ok L (d2.grew (by omega) (fun h => h) g5)
 rw [show m + 1 + qc6 x + 3 = m + qc6 x + 4 by omega] at f1
 have F := f2.fd
 have n6 := f3.next
 have hbl : ∀ b, qfo v' = some b → S5.next ≤ b := fun b hb => (F.tl.blk hb).1
 have g7 : Grew (fun b => b = S4.next + 1) S6 (S6.put (S4.next + 1) (qer 3 none (.ptr a 0) (.ptr S1.next 0))) := qbu _ _
 have n7 : (S6.put (S4.next + 1) (qer 3 none (.ptr a 0) (.ptr S1.next 0))).next = S6.next := rfl
 have hend : ∀ (kn kr : St → Rs) (ke : Nat → St → Rs), endLP (S4.next + 1) S6 kn kr ke = kn (S6.put (S4.next + 1) (qer 3 none (.ptr a 0) (.ptr S1.next 0))) := fun kn kr ke => endLP_norm (kn := kn) (kr := kr) (ke := ke) F.on f2.rcd (by decide)
 generalize S6.put (S4.next + 1) (qer 3 none (.ptr a 0) (.ptr S1.next 0)) = S7 at g7 n7 hend
 have on7 := g7.on.trans F.on
 have out7 : One S7 S.next 25 v' := F.out.grew (by omega) (by omega) g7
 have tl7 : TLo S7 v' ((qeq x).foldl stepF (ks, [])).2 S5.next := F.tl.grewW (fun b hb e => by have := hbl b hb; omega) g7
 have few := F.few
 obtain ⟨S8, h1, h2, h3⟩ := sort_run (m + qc6 x + 3) on7 tl7 hnd (by omega)
 have on8 := h3.on.trans on7
 have out8 : One S8 S.next 25 v' := out7.grew (by omega) (fun e => by have := hbl _ e; omega) h3
 have hdef : S8.heap.get S4.next = some .defb := by
  rw [h3.keep S4.next (by omega) (fun e => by have := hbl _ e; omega), g7.keep S4.next (by omega) (by omega), f3.keep S4.next (by omega) (fun e => by
   rcases e with e | e | e | e
   · omega
   · omega
   · omega
   · cases e)]
  exact hd5
 obtain ⟨S9, k1, k2, k3⟩ := qkj (E := E0) (self := ev E0 KD (m + qc6 x + 4)) (fn := Try.f8) (a := frD 60 [(4, v'), (10, .ptr S.next 0), (57, v'), (58, .tuple []), (59, v')] [mkR S4.next]) (m := .ret) [S4.next] on8 (List.pairwise_singleton _ _) (fun b hb => by rw [List.mem_singleton.1 hb]; exact hdef)
 have n8 := h3.next
 have n9 := k2.next
 refine ⟨v', S9, S5.next, ?_, h2.grewW (fun b hb e => by have := hbl b hb; have := List.mem_singleton.1 e; omega) k2, by omega, ?_⟩
 · rw [R8_9_eq, e10, oB]
   dsimp only
   rw [e12, oB]
   dsimp only
   rw [show (V.fn (.func 15) [] [.ptr a 0, .ptr S.next 0]) = fnF a S.next from rfl, c1, oB]
   dsimp only
   rw [hb3.fA, oB]
   dsimp only
   rw [show m + qc6 x + 3 + 1 = m + qc6 x + 4 from rfl] at d1
   rw [d1, qee, hrange]
   show onEn ((ev E0 KD (m + qc6 x + 4)).f 32 [.yield (S4.next + 1), .ptr S3.next 0] S5) _ _ = _
   rw [f1]
   show endLP (S4.next + 1) S6 _ _ _ = _
   rw [hend, R8_14_eq, out7.ld on7, oB]
   dsimp only
   rw [show m + qc6 x + 3 + 1 = m + qc6 x + 4 from rfl] at h1
   rw [h1, qee, out8.ld on8, oB]
   dsimp only
   rw [finR_defer (d := mkR S4.next) (ds := []) rfl]
   rw [show [mkR S4.next] = List.map mkR [S4.next] from rfl]
   exact k1.trans (lv8 _ _ _ _ _ _)
 · refine ⟨by omega, by rw [k2.on, on8, ho], fun b hb hw => ?_⟩
   rw [k2.keep b (by omega) (fun e => by have := List.mem_singleton.1 e; omega), h3.keep b (by omega) (fun e => by have := hbl _ e; omega), g7.keep b (by omega) (by omega), f3.keep b (by omega) (fun e => by
    rcases e with e | e | e | e
    · exact hw e
    · omega
    · omega
    · cases e), g35.keep b (by omega) (fun h => h), c3.keep b (by omega) (by omega), g12.keep b hb (fun h => h)]
theorem f8_run (m : Nat) (ho : S.on = false) (x : Nd) (ok : x.ok) {v1 : V} {hs : List Bs} (hv : TV v1 hs) (hsh : Short hs) (hfew : hs.length ≤ 1000) : ∃ w T, (ev E0 KD (m + qc6 x + 5)).f 8 [qce x, v1] S = some (.ret w, T) ∧ TL T w (if qhu x = 0 then qgl x [] hs else []) ∧ Grew (fun _ => False) S T := by
 obtain ⟨S1, k1, k2, k3, k4⟩ := qbq ho x
 by_cases hc : qhu x = 0
 · -- the map, and the variable that holds it
   have gm : Grew (fun _ => False) S1 (nw S1 (.map [] 0)) := qch k2.on _ _
   have hm2 : MapAt (nw S1 (.map [] 0)) S1.next (kvS (qfb [])) := ⟨[], 0, by rw [qem, if_pos rfl], MapOk.new⟩
   have n2 : (nw S1 (.map [] 0)).next = S1.next + 1 := rfl
   have emk : qhg E0 31 none S1 = some (.map S1.next, nw S1 (.map [] 0)) := rfl
   generalize nw S1 (.map [] 0) = S2 at gm hm2 n2 emk
   have on2 := gm.on.trans k2.on
   obtain ⟨o1, g1, n3⟩ := one_new on2 31 .nilmap
   have e7 : (nwP 31 1 (Go.Proofs.Ytmeohejdafbodaa.Ev.one .nilmap) S2) = (.ptr S2.next 0, (nwP 31 1 (Go.Proofs.Ytmeohejdafbodaa.Ev.one .nilmap) S2).2) := rfl
   generalize (nwP 31 1 (Go.Proofs.Ytmeohejdafbodaa.Ev.one .nilmap) S2).2 = S3 at o1 g1 n3 e7
   have on3 := g1.on.trans on2
   obtain ⟨S4, c1, c2, c3, c4⟩ := o1.st on3 (oneV_map S1.next)
   have on4 := c3.on.trans on3
   have hm4 := (hm2.grew (by omega) (fun h => h) g1).grew (by omega) (by omega) c3
   obtain ⟨S5, d1, d2, d3⟩ := L51_spec (m := m + qc6 x) (N := qa1) (v2 := .ptr S.next 0) (v4 := .nilslice) hv hsh hfew (R8_9 (ev E0 KD (m + qc6 x + 4)) qa1 (qay E0 (ev E0 KD (m + qc6 x + 4)) Try.f8) qae) (exB 0 (R8_9 (ev E0 KD (m + qc6 x + 4)) qa1 (qay E0 (ev E0 KD (m + qc6 x + 4)) Try.f8) qae) qae) hs 0 qa1 [] S4 rfl (by unfold qa1; omega) on4 hm4 c2 (by omega) (by omega)
   have n5 := d3.next
   have hb5 : NodeAt S5 S.next x := (((k2.grew (by omega) (fun h => h) gm).grew (by omega) (fun h => h) g1).grew (by omega) (by omega) c3).grew (by omega) (by omega) d3
   obtain ⟨w, U, M, q1, q2, q3, q4⟩ := R9_spec m (qay E0 (ev E0 KD (m + qc6 x + 4)) Try.f8) qae x ok hb5 (by omega) (ks := askL [] hs) (by have := askL_len hs []; simp at this; omega) (qib x hs).nd2 d2 (c2.grew (by omega) (by omega) d3) (by omega) (by omega)
   refine ⟨w, U, rd8 ?_, ?_, ?_⟩
   · show F8 (ev E0 KD (m + qc6 x + 4)) qa1 (qce x) v1 S = _
     rw [F8_eq, k1, oB]
     dsimp only
     rw [k2.fA, oB]
     dsimp only
     rw [check_run' _ x ok, qee, neqE, oB, decide_eq_true hc, Bool.not_true, ifK_bool, cond_false, emk, oB]
     dsimp only
     rw [e7, oB]
     dsimp only
     rw [c1, oB]
     dsimp only
     rw [hv.len, oB]
     dsimp only
     rw [show V.int .i64 0 = .int .i64 ((0 : Nat) : Int) from rfl, d1, exB_same, q1]
   · rw [if_pos hc, ← same_found]
     exact q2.tl
   · refine ⟨?_, ?_, fun b hb _ => ?_⟩
     · have := q4.next; have := k3.next; omega
     · rw [q4.on, d3.on, on4, ho]
     · rw [q4.keep b (by omega) (by omega), d3.keep b (by omega) (by omega), c3.keep b (by omega) (by omega), g1.keep b (by omega) (fun h => h), gm.keep b (by omega) (fun h => h), k3.keep b hb (fun h => h)]
 · refine ⟨.nilslice, S1, rd8 ?_, by rw [if_neg hc]; exact .nil, k3⟩
   show F8 (ev E0 KD (m + qc6 x + 4)) qa1 (qce x) v1 S = _
   rw [F8_eq, k1, oB]
   dsimp only
   rw [k2.fA, oB]
   dsimp only
   rw [check_run' _ x ok, qee, neqE, oB, decide_eq_false hc, Bool.not_false, ifK_bool, cond_true, fin8_none]
end
theorem u25 : Try.prog.underlying 25 = some (.slice 9) := by kernel_rfl
theorem flat_at {β : Type} {z : Nat} (hz : 0 < z) : ∀ (ls : List (List β)), (∀ l ∈ ls, l.length = z) → ∀ (j : Nat) c, ls.flatten[j]? = some c → ∃ l, ls[j / z]? = some l ∧ l[j % z]? = some c
 | [], _, j, c, h => by simp at h
 | l :: ls, hl, j, c, h => by
  rw [List.flatten_cons] at h
  have h0 := hl l (List.mem_cons_self ..)
  by_cases hj : j < z
  · rw [List.getElem?_append_left (by omega)] at h
    exact ⟨l, by rw [Nat.div_eq_of_lt hj]; rfl, by rw [Nat.mod_eq_of_lt hj]; exact h⟩
  · rw [List.getElem?_append_right (by omega), h0] at h
    obtain ⟨l', h1, h2⟩ := flat_at hz ls (fun x hx => hl x (List.mem_cons_of_mem _ hx)) (j - z) c h
    refine ⟨l', ?_, ?_⟩
    · rw [show j = (j - z) + z by omega, Nat.add_div_right _ hz]; exact h1
    · rw [show j = (j - z) + z by omega, Nat.add_mod_right]; exact h2
theorem pick_any {α : Type} {P : Nat → α → Prop} : ∀ (n : Nat), (∀ i, i < n → ∃ b, P i b) → ∃ l : List α, l.length = n ∧ ∀ i b, l[i]? = some b → P i b
 | 0, _ => ⟨[], rfl, fun i b h => by simp at h⟩
 | n + 1, h => by
  obtain ⟨l, h1, h2⟩ := pick_any n fun i hi => h i (by omega)
  obtain ⟨b, hb⟩ := h n (by omega)
  refine ⟨l ++ [b], by simp [h1], fun i c hc => ?_⟩
  by_cases hi : i < n
  · rw [List.getElem?_append_left (by omega)] at hc
    exact h2 i c hc
  · have hi2 : i = n := by
     have := (List.getElem?_eq_some_iff.1 hc).1
     simp [h1] at this
     omega
    subst hi2
    rw [List.getElem?_append_right (by omega)] at hc
    simp [h1] at hc
    subst hc
    exact hb
theorem vrels_map {ρ : Rho} {α : Type} (f : α → V) (g : α → Value) : ∀ l : List α, (∀ a ∈ l, VRel ρ (f a) (g a)) → VRels ρ (l.map f) (l.map g)
 | [], _ => .nil
 | a :: l, h => .cons (h a (List.mem_cons_self ..)) (vrels_map f g l fun b hb => h b (List.mem_cons_of_mem _ hb))
section
variable {H : Type} {enc : TypeId × Value → H} {W : World}
theorem list_of_trod {α : Type} {t e z : Nat} {F : α → V} {Q : α → Prop} (ht : Try.prog.underlying t = some (.slice e)) (hz : Try.prog.cellsOf e = z) (hz0 : 0 < z)
 (el : ∀ fuel cs (x : DataW H × List MemPlace), DataW.trod enc Try.prog W 0 (fun _ => true) true fuel e cs = some x → ∃ (a : α) (cv : Value), VRel (frz W) (F a) cv ∧ qab (F a) = false ∧ cv.cells.toList = cs ∧ Q a)
 {fuel : Nat} {cs : List Value} {x : DataW H × List MemPlace} (h : DataW.trod enc Try.prog W 0 (fun _ => true) true fuel t cs = some x) :
 ∃ (cv : Value) (v : V) (l : List α), cs = [cv] ∧ VRel (frz W) v cv ∧ ((l = [] ∧ (v = .nilslice ∨ v = .eslice)) ∨ v = .list z (l.map F)) ∧ (∀ a ∈ l, Q a) ∧ ∃ ad len cap, cv = .slice ad len cap := by
 rcases DataW.trod_slice ht h with ⟨hv, _⟩ | ⟨a, len, cap, elems, rest, m, hm, hv, _, _, hcap, hmax, hel, hat, _⟩
 · exact ⟨_, .nilslice, [], hv, .nilslice, .inl ⟨rfl, .inl rfl⟩, fun _ h => by simp at h, _, _, _, rfl⟩
 · by_cases h0 : len = 0
   · subst h0
     exact ⟨_, .eslice, [], hv, .eslice a cap, .inl ⟨rfl, .inr rfl⟩, fun _ h => by simp at h, _, _, _, rfl⟩
   · have hAt : ∀ i, i < len → ∃ p : α × Value, VRel (frz W) (F p.1) p.2 ∧ qab (F p.1) = false ∧ Q p.1 ∧ p.2.cells.toList.length = z ∧ ∀ k, k < z → ∃ y, p.2.cells.toList[k]? = some y ∧ W.cell? ((a.add (i * z)).add k) = some y := fun i hi => by
      have := hat i hi
      rw [hz, List.getElem?_eq_getElem (by omega), oI] at this
      obtain ⟨cells, h1, h2⟩ := this
      obtain ⟨b, cv, b1, b2, b3, b4⟩ := el _ _ _ h2
      obtain ⟨c1, c2⟩ := cells?_at h1
      exact ⟨(b, cv), b1, b2, b4, by rw [b3]; exact c1, by rw [b3]; exact c2⟩
     obtain ⟨p0, _, _, _, _, q0⟩ := hAt 0 (by omega)
     obtain ⟨y0, _, hb0⟩ := q0 0 hz0
     have hspot : a.spot = none ∧ ∃ bg ty fr, W.heap[a.block]? = some (.cells bg ty fr) := by
      rw [Nat.zero_mul, show (a.add 0).add 0 = a from rfl] at hb0
      unfold World.cell? at hb0
      split at hb0
      · rename_i bg ty fr hh
        split at hb0
        · cases hb0
        · rename_i hsp
          exact ⟨by simpa using hsp, bg, ty, fr, hh⟩
      · cases hb0
     obtain ⟨hsp, bg, ty, fr, hheap⟩ := hspot
     obtain ⟨l, l1, l2⟩ := pick_any len hAt
     have hin : ∀ p ∈ l, ∃ i, l[i]? = some p := fun p hp => List.mem_iff_getElem?.1 hp
     refine ⟨_, .list z ((l.map (·.1)).map F), l.map (·.1), hv, ?_, .inr rfl, fun b hb => ?_, _, _, _, rfl⟩
     · rw [List.map_map]
       refine .list (vrels_map _ (·.2) l fun p hp => ?_) (fun v hv => ?_) (by rw [List.length_map]; exact l1) hcap fun _ => ⟨fun cv hcv => ?_, hsp, bg, ty, fr, hheap, fun j c hj => ?_⟩
       · obtain ⟨i, hi⟩ := hin p hp
         exact (l2 i p hi).1
       · rw [List.mem_map] at hv
         obtain ⟨p, hp, rfl⟩ := hv
         obtain ⟨i, hi⟩ := hin p hp
         exact (l2 i p hi).2.1
       · rw [List.mem_map] at hcv
         obtain ⟨p, hp, rfl⟩ := hcv
         obtain ⟨i, hi⟩ := hin p hp
         have := (l2 i p hi).2.2.2.1
         rwa [Array.length_toList] at this
       · rw [List.flatMap_def, List.map_map] at hj
         obtain ⟨cl, h1, h2⟩ := flat_at hz0 _ (fun cl hcl => by
          rw [List.mem_map] at hcl
          obtain ⟨p, hp, rfl⟩ := hcl
          obtain ⟨i, hi⟩ := hin p hp
          exact (l2 i p hi).2.2.2.1) j c hj
         rw [List.getElem?_map, Option.map_eq_some_iff] at h1
         obtain ⟨p, hp, rfl⟩ := h1
         obtain ⟨y, y1, y2⟩ := (l2 _ p hp).2.2.2.2 (j % z) (Nat.mod_lt _ hz0)
         have hc : c = y := by
          have := h2.symm.trans y1
          simpa using this
         subst hc
         rw [add_eq hsp, add_eq rfl] at y2
         unfold World.cell? at y2
         simp only at y2
         rw [hheap] at y2
         have he : a.off + j / z * z + j % z = a.off + j := by
          have := Nat.div_add_mod j z
          rw [Nat.mul_comm] at this
          omega
         rw [he] at y2
         exact y2
     · rw [List.mem_map] at hb
       obtain ⟨p, hp, rfl⟩ := hb
       obtain ⟨i, hi⟩ := hin p hp
       exact (l2 i p hi).2.2.1
theorem texts_of_trod {fuel : Nat} {cs : List Value} {x : DataW H × List MemPlace} (h : DataW.trod enc Try.prog W 0 (fun _ => true) true fuel 25 cs = some x) :
 ∃ (cv : Value) (v : V) (l : List Bs), cs = [cv] ∧ VRel (frz W) v cv ∧ TV v l ∧ Short l ∧ ∃ ad len cap, cv = .slice ad len cap := by
 obtain ⟨cv, v, l, h1, h2, h3, hq, h4⟩ := list_of_trod (F := sv) (Q := fun a => a.length < 9223372036854775808) u25 c9 (by omega) (fun fuel cs x hx => by
  obtain ⟨s, rfl, _, hs⟩ := DataW.trod_string u9 hx
  exact ⟨s.data.toList, .string s, .str s, rfl, rfl, by
   have h1 : s.data.toList.length = s.size := by rw [Array.length_toList]; rfl
   unfold maxLen at hs
   omega⟩) h
 exact ⟨cv, v, l, h1, h2, h3, hq, h4⟩
end
section
variable {S T U : St}
theorem AgAt.ldOn {b e z : Nat} {t : Tr V} (h : AgAt S b e z t) (hz : z < big) (l : List LE) : Go.Proofs.Ytmeohejdafbodaa.Ev.ldA z (.ptr b 0) (S.lg l) = some (.agg z t, S.lg (⟨b, 0, 0 + z, false⟩ :: l)) := by
 obtain ⟨c, h1, h2⟩ := h
 show ((ldK (S.lg l) b 0 z).bind fun p => some (V.agg z p.1, p.2)) = _
 unfold ldK
 rw [show (S.lg l).heap.get b = _ from h1]
 simp only [ble_true.2 (show 0 + z ≤ z * 1 by omega), blt_true.2 (show z * 1 < big by omega), Bool.and_self, cond_true]
 unfold qfd
 rw [show Nat.beq z z = true from beq_true.2 rfl, Nat.zero_mod, show Nat.beq 0 0 = true from rfl]
 simp only [Bool.and_self, cond_true, Nat.zero_div, h2, oB]
 rfl
theorem min20 (n : Nat) (S : St) : qjv minV (.int .i64 (n : Int)) [(.int .i64 20)] S = some (.int .i64 ((min n 20 : Nat) : Int), S) := by
 rw [foldK_min]
 congr 3
 omega
theorem cutTV {v : V} {l : List Bs} (h : TV v l) (n : Nat) (S : St) : ∃ y, qb4 E0 25 v none (some (.int .i64 ((min l.length n : Nat) : Int))) none S = some (y, S) ∧ TV y (l.take n) := by
 rcases h with ⟨rfl, rfl | rfl⟩ | rfl
 · refine ⟨.nilslice, ?_, .inl ⟨by simp, .inl rfl⟩⟩
   unfold qb4
   rw [und25, oB]
   simp only
   rw [size9, oB, show min ([] : List Bs).length n = 0 from Nat.zero_min n]
   rfl
 · refine ⟨.eslice, ?_, .inl ⟨by simp, .inr rfl⟩⟩
   unfold qb4
   rw [und25, oB]
   simp only
   rw [size9, oB, show min ([] : List Bs).length n = 0 from Nat.zero_min n]
   rfl
 · refine ⟨.list 1 ((l.take n).map sv), ?_, .inr rfl⟩
   unfold qb4
   rw [und25, oB]
   simp only
   rw [size9, oB, show Nat.beq 1 1 = true from rfl, cond_true, List.length_map, bounds_hi .i64 (Nat.min_le_left ..), oB]
   simp only [List.drop_zero, Nat.sub_zero]
   rw [← List.map_take]
   congr 4
   rcases Nat.le_total l.length n with h | h
   · rw [Nat.min_eq_left h, List.take_length, List.take_of_length_le h]
   · rw [Nat.min_eq_right h]
theorem rd3 {n : Nat} {args : List V} {s : St} {r : En × St} (e : qc0 E0 (ev E0 KD n) qa1 Try.f3 B3 args s = some r) : (ev E0 KD (n + 1)).f 3 args s = some r := qar (c := C3) (d := B3) (by kernel_rfl) (by kernel_rfl) (qa3 C3 _ (by kernel_rfl)) rfl e
theorem keepB_len (x : Nd) : ∀ (hs acc : List Bs), (qgl x acc hs).length ≤ acc.length + hs.length
 | [], acc => Nat.le_refl _
 | h :: hs, acc => by
  rw [qgl]
  refine Nat.le_trans (keepB_len x hs _) ?_
  rw [List.length_cons]
  have := putB_len h acc
  split <;> omega
theorem finds_run (r : Rw) (hr : qkv r) (ho : S.on = false) {v : V} {l : List Bs} (hv : TV v l) (hsh : Short l) : ∃ n U, (ev E0 KD n).f 3 [rwV r, v] S = some (.ret (.bool true), U) := by
 have ok := short_ok 14 r (by omega) (allOk_deep 14 r hr)
 generalize hx : qba 14 r = x at ok
 refine ⟨qc6 x + 6, ?_⟩
 obtain ⟨S1, k1, k2, k3, k4⟩ := box_new ho 24 (qfz r)
 have on1 := k3.on.trans ho
 obtain ⟨t, ht0, _⟩ := VarAt.agg (Bx.var k2 (by show 0 < 5; decide) big5)
 have ht : AgAt S1 S.next 24 5 t := ht0
 have hld : ldA 5 (.ptr S.next 0) S1 = some (vAgg (qfz r), S1) := Bx.ldA on1 k2 rfl big5
 obtain ⟨S2, m1, m2, m3, m4⟩ := ht.stA on1 big5 (treeN x)
 have on2 := m3.on.trans on1
 have hb2 : S.next < S2.next := by omega
 obtain ⟨y, y1, y2⟩ := cutTV hv 20 S2
 have hsh2 : Short (l.take 20) := fun h hh => hsh h (List.mem_of_mem_take hh)
 have hfew : (l.take 20).length ≤ 1000 := by rw [List.length_take]; omega
 obtain ⟨w8, T8, a1, a2, a3⟩ := f8_run 0 on2 x ok y2 hsh2 hfew
 obtain ⟨c, hc, hc2⟩ := id m2
 obtain ⟨w8', T8', b1, _, _⟩ := f8_run (S := icy S2 S.next 24 5 1 c) 0 on2 x ok y2 hsh2 hfew
 obtain ⟨L8, q1, q2⟩ := Fz.ev_log fzD lgD (icy_same hc hb2) b1 a1
 rw [show 0 + qc6 x + 5 = qc6 x + 5 by omega] at q1
 have on8 := a3.on.trans on2
 have m8 : AgAt T8 S.next 24 5 (treeN x) := m2.grew hb2 (fun h => h) a3
 obtain ⟨w9, T9, c1, c2, c3⟩ := f9_run 2 on8 x ok y2 hsh2 hfew
 rw [show 2 + qc6 x + 3 = qc6 x + 5 by omega] at c1
 obtain ⟨L9, c1'⟩ := Lg.ev_lg lgD c1 []
 have on9 := c3.on.trans on8
 have hlen : (if qhu x = 0 then qgl x [] (l.take 20) else []).length < 1000000 := by
  split
  · have := keepB_len x (l.take 20) []
    simp at this hfew ⊢; omega
  · simp
 have d1 := same_run (qc6 x + 4) on9 (a2.grew0 c3) c2.tl hlen
 rw [show qc6 x + 4 + 1 = qc6 x + 5 from rfl] at d1
 obtain ⟨L7, d1'⟩ := Lg.ev_lg lgD d1 []
 have hprs : qat [(S2.lg [⟨S.next, 0, 0 + 5, false⟩]).log, [], (T8.lg L8).log, (T8.lg [⟨S.next, 0, 0 + 5, false⟩]).log, [], (T9.lg L9).log, (T9.lg L7).log, [], (T9.lg []).log, [], []] [(0, [3]), (2, [3])] = true := by
  refine pairs_one (b := S.next) (fun e he => ?_) (fun e he => ?_) (pairs_one (b := S.next) q2 (fun e he => ?_) rfl)
  · have he' : e ∈ [(⟨S.next, 0, 0 + 5, false⟩ : LE)] := he
    rw [List.mem_singleton.1 he']; exact .inl rfl
  · have he' : e ∈ [(⟨S.next, 0, 0 + 5, false⟩ : LE)] := he
    rw [List.mem_singleton.1 he']; exact ⟨rfl, rfl⟩
  · have he' : e ∈ [(⟨S.next, 0, 0 + 5, false⟩ : LE)] := he
    rw [List.mem_singleton.1 he']; exact ⟨rfl, rfl⟩
 refine ⟨qaz S2 (T9.lg []) [(S2.lg [⟨S.next, 0, 0 + 5, false⟩]).log, [], (T8.lg L8).log, (T8.lg [⟨S.next, 0, 0 + 5, false⟩]).log, [], (T9.lg L9).log, (T9.lg L7).log, [], (T9.lg []).log, [], []], rd3 ?_⟩
 show F3 (ev E0 KD (qc6 x + 5)) qa1 (rwV r) v S = _
 rw [F3_eq, qeo, k1, oB]
 dsimp only
 rw [hld, oB]
 dsimp only
 rw [← qeo, show (V.int .i64 14) = .int .i64 ((14 : Nat) : Int) from rfl, qau kd6, kfShort_run 14 r (by omega), callP_ret, hx, qek, m1, oB]
 dsimp only
 rw [hv.len, oB]
 dsimp only
 rw [min20, oB]
 dsimp only
 rw [y1, oB]
 simp only [ons, qie]
 rw [AgAt.ldOn m2 big5, oB, ← qek]
 simp only [ons, qie]
 rw [q1, qb7]
 simp only [ons, qie]
 rw [AgAt.ldOn m8 big5, oB, ← qek]
 simp only [ons, qie]
 rw [c1', qb7]
 simp only [ons, qie]
 rw [d1', qb7]
 simp only [gTT, oB, cond_true]
 simp only [ons, qie]
 rw [qau kd10, kfTrue_run, qb7, pickV_bool, cond_true, oB]
 simp only [ons, qie]
 rw [qm9 hprs]
theorem relF (W : World) : Rel E0 (base0 W) (frz W) s0 W :=
 ⟨⟨rfl, rfl, rfl, Nat.le_refl _, fun _ _ => rfl⟩, fun _ _ => rfl, Nat.le_refl _, fun b o h => by simp [s0, Tr.get_nil] at h, fun b b' o o' cb sh sz sh' sz' h => by simp [s0, Tr.get_nil] at h, fun g b h => (by rw [glob0] at h; cases h), fun k o h => h, fun b o cb sh sz h => (by simp [s0, Tr.get_nil] at h), fun k o h _ => trivial⟩
theorem finds_calls (W : World) {v w : Value} {r : Rw} (hv : VRel (frz W) (rwV r) v) (hr : qkv r) {v1 : V} {l : List Bs} (hw : VRel (frz W) v1 w) (hl : TV v1 l) (hsh : Short l) : Calls Try.prog 3 #[v, w] W fun e w' => e = .returned (.bool true) ∧ Below W.heap.size W w' := by
 obtain ⟨n, U, hl⟩ := finds_run (S := s0) r hr rfl hl hsh
 refine ((ev_sim qlj okD n).call (base0 W) _ s0 W 3 [rwV r, v1] #[v, w] _ U (relF W) (.cons hv (.cons hw .nil)) hl).mono fun ce w' hce => ?_
 obtain ⟨ρ', cv, rfl, _, hv, hR⟩ := hce
 cases hv
 exact ⟨rfl, qkd hR⟩
end
end Go.Proofs.Ytmeohejdafbodaa.W
