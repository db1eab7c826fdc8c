/-
  WHAT THE FUNCTIONS COME TO: each is read by the evaluator, printed, and told as a function of data, part 6 of 7 (no condition).
-/
import Derived.Test.YtginkdeicmdmaaaW5
namespace Go.Proofs.Ytginkdeicmdmaaa.W
open Go.Proofs.Ytginkdeicmdmaaa.Ev Go.RowKit
section
variable {S T U : St}
theorem sizeB_off (ho : S.on = false) {r e : Nat} {l : List (Tr V)} (h : RowAt S r e 1 l) : sizeB S r = some (l.length, S) := by
 obtain ⟨c, h1, _⟩ := h.row
 unfold sizeB
 rw [h1]
 simp only [show 1 * l.length = l.length from Nat.one_mul _, blt_true.2 h.len, cond_true, note_off ho]
theorem slice_take (ho : S.on = false) {v : V} {l : List Bs} {N : Nat} (h : TLo S v l N) {k : Nat} (hk : k ≤ l.length) : ∃ y, sliceV E0 26 v none (some (.int .i64 (k : Int))) none S = some (y, S) ∧ TL S y (l.take k) := by
 rcases h with ⟨rfl, rfl⟩ | ⟨r, rfl, h1, h2, h3, h4⟩
 · have hk0 : k = 0 := by simpa using hk
   subst hk0
   refine ⟨.nilslice, ?_, .nil⟩
   unfold sliceV
   rw [und26, oB]
   simp only
   rw [size9, oB]
   rfl
 · have hb : boundsV l.length l.length none (some (.int .i64 (k : Int))) none = some (0, k, l.length) := by
    unfold boundsV
    simp only [oB, natOf_cast]
    rw [ble_true.2 hk]; rfl
   refine ⟨.oslice r (0 + 0 * 1) (k - 0) 1, ?_, ?_⟩
   · unfold sliceV
     rw [und26, oB]
     simp only
     rw [size9, oB, show (Nat.beq 1 1 && Nat.blt 0 1) = true from rfl, cond_true, sizeB_off ho h1, oB]
     simp only [rowOf_length, Nat.sub_zero, Nat.div_one]
     rw [hb, oB]
     simp only
     rw [blt_true.2 h4]; rfl
   · have hl : (l.take k).length = k := by rw [List.length_take]; omega
     refine .inr ⟨r, 0, l, h1, h2, by rw [hl]; omega, by rw [hl, List.drop_zero], .inl ?_⟩
     rw [hl]; rfl
theorem slice_drop (ho : S.on = false) {v : V} {l : List Bs} {N : Nat} (h : TLo S v l N) {k : Nat} (hk : k ≤ l.length) : ∃ y, sliceV E0 26 v (some (.int .i64 (k : Int))) none none S = some (y, S) ∧ TL S y (l.drop k) := by
 rcases h with ⟨rfl, rfl⟩ | ⟨r, rfl, h1, h2, h3, h4⟩
 · have hk0 : k = 0 := by simpa using hk
   subst hk0
   refine ⟨.nilslice, ?_, .nil⟩
   unfold sliceV
   rw [und26, oB]
   simp only
   rw [size9, oB]
   rfl
 · have hb : boundsV l.length l.length (some (.int .i64 (k : Int))) none none = some (k, l.length, l.length) := by
    unfold boundsV
    simp only [oB, natOf_cast]
    rw [ble_true.2 hk]; rfl
   have hs : sliceV E0 26 (.oslice r 0 l.length 1) (some (.int .i64 (k : Int))) none none S = (bif Nat.blt k l.length then some (V.oslice r (0 + k * 1) (l.length - k) 1, S) else bif Nat.beq k l.length then some (.eslice, S) else none) := by
    unfold sliceV
    rw [und26, oB]
    simp only
    rw [size9, oB, show (Nat.beq 1 1 && Nat.blt 0 1) = true from rfl, cond_true, sizeB_off ho h1, oB]
    simp only [rowOf_length, Nat.sub_zero, Nat.div_one]
    rw [hb, oB]
   rcases Nat.lt_or_ge k l.length with hlt | hge
   · refine ⟨.oslice r (0 + k * 1) (l.length - k) 1, by rw [hs, blt_true.2 hlt]; rfl, ?_⟩
     have hl : (l.drop k).length = l.length - k := by rw [List.length_drop]
     refine .inr ⟨r, k, l, h1, h2, by rw [hl]; omega, by rw [hl, List.take_of_length_le (by rw [List.length_drop]; exact Nat.le_refl _)], .inl ?_⟩
     rw [hl, Nat.mul_one, Nat.zero_add]
   · have e : k = l.length := by omega
     refine ⟨.eslice, by rw [hs, blt_false.2 hge, e, Nat.beq_refl]; rfl, .inl ⟨by rw [e, List.drop_length], .inr (.inl rfl)⟩⟩
theorem app_nil (ho : S.on = false) {y : V} {l : List Bs} (hy : TL S y l) (hl : l.length < 10000) : ∃ w U, apP 9 1 16 .nilslice y S = some (w, U) ∧ TLo U w l S.next ∧ Grew (fun _ => False) S U := by
 have hR := hy.rw ho
 have hap : apP 9 1 16 .nilslice y S = appendV 9 1 (rowOf l).length .nilslice y S := by
  unfold apP
  rw [hR.1, oB, show lenV .nilslice = some 0 from rfl, oB, Nat.zero_add, blt_true.2 (show (rowOf l).length * (16 + 1 + 1) < maxCells by rw [rowOf_length]; unfold maxCells; omega), cond_true]
 rw [hap]
 unfold appendV
 rw [hR.2, oB]
 simp only
 cases l with
 | nil => exact ⟨_, S, rfl, .nil, Grew.refl _ _⟩
 | cons a l =>
  refine ⟨_, _, rfl, .inr ⟨S.next, by rw [rowOf_length], rowAt_newCells ho (by omega) (by rw [rowOf_length]; unfold big; omega), by show S.next < S.next + 1; omega, Nat.le_refl _, by simp⟩, grew_nw ho _ _⟩
theorem app_own (ho : S.on = false) {x y : V} {lx ly : List Bs} {N : Nat} (hx : TLo S x lx N) (hN : N ≤ S.next) (h0 : 0 < lx.length) (hy : TL S y ly) (h1 : lx.length < 10000) (h2 : ly.length < 10000) : ∃ w U, apP 9 1 16 x y S = some (w, U) ∧ TLo U w (lx ++ ly) N ∧ Grew (fun z => N ≤ z) S U := by
 rcases hx with ⟨rfl, _⟩ | ⟨r, rfl, hr, hr2, hr3, hr4⟩
 · cases h0
 · have hR := hy.rw ho
   cases ly with
   | nil =>
    have := app_none (e := 9) (B := 16) ho hr hR (by rw [rowOf_length]; unfold maxCells; omega)
    rw [rowOf_length] at this
    exact ⟨_, S, this, by rw [List.append_nil]; exact .inr ⟨r, rfl, hr, hr2, hr3, hr4⟩, Grew.refl _ _⟩
   | cons a ly =>
    obtain ⟨U, u1, u2, u3, u4⟩ := app_more (e := 9) (B := 16) ho hr hR (by simp [rowOf]) (by rw [rowOf_length, rowOf_length]; unfold maxCells; omega) (by rw [rowOf_length, rowOf_length]; unfold big; omega)
    rw [rowOf_length, rowOf_length] at u1
    refine ⟨_, U, u1, .inr ⟨S.next, by rw [List.length_append], by rw [rowOf_append]; exact u2, by omega, hN, by rw [List.length_append]; omega⟩, u3.mono fun z _ e => by subst e; exact hr3⟩
theorem put_run (m : Nat) (ho : S.on = false) {v : V} {l : List Bs} {N : Nat} (h : TLo S v l N) (hN : N ≤ S.next) (hl : l.length < 5000) (s : Bs) :
 ∃ w U, (ev E0 KD (m + 1)).f 33 [v, sv s] S = some (.ret w, U) ∧ TLo U w (putB s l) N ∧ Grew (fun _ => False) S U := by
 have hat := atB_le s l
 have hloop := L33_spec (m := m) (N := rounds) ho h.tl (by omega) s (R33_2 (ev E0 KD m) rounds (finN E0 (ev E0 KD m) Try.f33) noEx) (exB 0 (R33_2 (ev E0 KD m) rounds (finN E0 (ev E0 KD m) Try.f33) noEx) noEx) l 0 rounds rfl (by unfold rounds; omega)
 rw [Nat.zero_add] at hloop
 have hmain : ∀ R, R33_2 (ev E0 KD m) rounds (finN E0 (ev E0 KD m) Try.f33) noEx (fr 48 [(0, v), (1, sv s), (5, .int .i64 (atB s l : Int))]) S = some R → (ev E0 KD (m + 1)).f 33 [v, sv s] S = some R := fun R hR => rd33 (by
  show F33 (ev E0 KD m) rounds v (sv s) S = _
  rw [F33_eq, show (V.int .i64 0) = .int .i64 ((0 : Nat) : Int) from rfl, hloop, exB_same]
  exact hR)
 have hput := putB_at s l
 have hnew : l[atB s l]? ≠ some s → ∃ w U, ((sliceV E0 26 v none (some (.int .i64 (atB s l : Int))) none S).bind fun p21 =>
(apP 9 1 16 .nilslice p21.1 p21.2).bind fun p22 =>
(bsP 9 1 1 (Go.Proofs.Ytginkdeicmdmaaa.Ev.one (sv [])) [(0, sv s)] p22.2).bind fun p26 =>
(apP 9 1 16 p22.1 p26.1 p26.2).bind fun p27 =>
(sliceV E0 26 v (some (.int .i64 (atB s l : Int))) none none p27.2).bind fun p32 =>
(apP 9 1 16 p27.1 p32.1 p32.2).bind fun p33 =>
some (En.ret p33.1, p33.2)) = some (.ret w, U) ∧ TLo U w (putB s l) N ∧ Grew (fun _ => False) S U := fun hne => by
  rw [if_neg hne] at hput
  obtain ⟨y, y1, y2⟩ := slice_take ho h hat
  obtain ⟨w1, U1, a1, a2, a3⟩ := app_nil ho y2 (by rw [List.length_take]; omega)
  have on1 := a3.on.trans ho
  obtain ⟨z, W, w2, U2, b1, b2, b3, b4⟩ := a2.push on1 a3.next (by rw [List.length_take]; omega) s
  have g2 := Grew.fresh a3 (Nat.le_refl _) b4
  have on2 := g2.on.trans ho
  obtain ⟨y', z1, z2⟩ := slice_drop on2 (h.grew g2) hat
  obtain ⟨w3, U3, c1, c2, c3⟩ := app_own on2 b3 g2.next (by rw [List.length_append]; simp) z2 (by rw [List.length_append, List.length_take]; simp; omega) (by rw [List.length_drop]; omega)
  refine ⟨w3, U3, ?_, ?_, Grew.fresh g2 (Nat.le_refl _) c3⟩
  · rw [y1, oB]
    dsimp only
    rw [a1, oB]
    dsimp only
    rw [b1, oB]
    dsimp only
    rw [b2, oB]
    dsimp only
    rw [z1, oB]
    dsimp only
    rw [c1, oB]
  · rw [hput]
    exact c2.weak hN
 rw [R33_2_eq, h.tl.len, oB] at hmain
 dsimp only at hmain
 rw [binV_ii, intsV_lss] at hmain
 by_cases hlt : atB s l < l.length
 · obtain ⟨p, p1, p2⟩ := h.tl.ld ho (List.getElem?_eq_getElem hlt)
   rw [dec_lt hlt, oB] at hmain
   simp only [gTT, oB, cond_true] at hmain
   rw [p1, oB, p2, oB] at hmain
   dsimp only at hmain
   rw [eqStr, oB, pickV_bool, cond_true, oB, ifK_bool] at hmain
   by_cases he : l[atB s l] = s
   · rw [show (l[atB s l] == s) = true by simp [he], cond_true] at hmain
     refine ⟨v, S, hmain _ rfl, ?_, Grew.refl _ _⟩
     rw [hput, if_pos (by rw [List.getElem?_eq_getElem hlt, he])]
     exact h
   · rw [show (l[atB s l] == s) = false from beq_false_of_ne he, cond_false] at hmain
     obtain ⟨w, U, w1, w2, w3⟩ := hnew (by rw [List.getElem?_eq_getElem hlt]; simpa using he)
     exact ⟨w, U, hmain _ w1, w2, w3⟩
 · rw [dec_ge (by omega), oB] at hmain
   simp only [gTF, oB, cond_false, pickV_bool, ifK_bool] at hmain
   obtain ⟨w, U, w1, w2, w3⟩ := hnew (by rw [List.getElem?_eq_none (by omega)]; simp)
   exact ⟨w, U, hmain _ w1, w2, w3⟩
def allB (acc : List Bs) (l : List Pth) : List Bs := l.foldl (fun acc p => putB p.nm acc) acc
theorem L34_spec {m N : Nat} (ho : S.on = false) {v : V} {ps : List Pth} (hp : PL S v ps) (hlen : ps.length < 1000) (nk : Ac → St → Rs) (ek : Nat → Ac → St → Rs) :
 ∀ (rest : List Pth) (i q : Nat) (v3 : V) (acc : List Bs) (U : St), ps.drop i = rest → rest.length < q → Grew (fun _ => False) S U → TLo U v3 acc S.next → acc.length + rest.length < 4000 →
 ∃ w T, L34_6 (ev E0 KD (m + 1)) N nk ek q v v3 (.int .i64 (i : Int)) U = ek 0 (fr 19 [(3, w)]) T ∧ TLo T w (allB acc rest) S.next ∧ Grew (fun _ => False) S T
 | rest, i, 0, v3, acc, U, _, hq, _, _, _ => by omega
 | [], i, q + 1, v3, acc, U, hi, hq, g, ht, hb => by
  refine ⟨v3, U, ?_, ht, g⟩
  rw [L34_6_eq, (hp.grew g).len, oB]
  dsimp only
  rw [binV_ii, intsV_lss, dec_ge (drop_end hi), oB, ifK_bool, cond_false]
 | p :: rest, i, q + 1, v3, acc, U, hi, hq, g, ht, hb => by
  have onU := g.on.trans ho
  obtain ⟨hlt, hf, hrest, hmem⟩ := drop_at hi
  have hpi : ps[i]? = some p := by rw [List.getElem?_eq_getElem hlt, hf]
  obtain ⟨r, x1, x2⟩ := (hp.grew g).ix hpi
  rw [List.length_cons] at hb
  obtain ⟨w, V1, a1, a2, a3⟩ := put_run m onU ht g.next (by omega) p.nm
  obtain ⟨w', T, t1, t2, t3⟩ := L34_spec (m := m) (N := N) ho hp hlen nk ek rest (i + 1) q w (putB p.nm acc) V1 hrest (by simp at hq; omega) (g.trans a3) a2 (by have := putB_len p.nm acc; omega)
  refine ⟨w', T, ?_, t2, t3⟩
  rw [L34_6_eq, (hp.grew g).len, oB]
  dsimp only
  rw [binV_ii, intsV_lss, dec_lt hlt, oB, ifK_bool, cond_true, x1, oB, faPg, oB, PL.name onU hpi x2, oB]
  dsimp only
  rw [a1, callP_ret, binV_ii, intsV_add, wrap_succ (by omega), oB]
  exact t1
theorem all_run (m : Nat) (ho : S.on = false) {v : V} {ps : List Pth} (hp : PL S v ps) (hlen : ps.length < 1000) : ∃ w U, (ev E0 KD (m + 2)).f 34 [v] S = some (.ret w, U) ∧ TLo U w (allB [] ps) S.next ∧ Grew (fun _ => False) S U := by
 obtain ⟨w, T, t1, t2, t3⟩ := L34_spec (m := m) (N := rounds) ho hp hlen (R34_2 (ev E0 KD (m + 1)) rounds (finN E0 (ev E0 KD (m + 1)) Try.f34) noEx) (exB 0 (R34_2 (ev E0 KD (m + 1)) rounds (finN E0 (ev E0 KD (m + 1)) Try.f34) noEx) noEx) ps 0 rounds .nilslice [] S rfl (by unfold rounds; omega) (Grew.refl _ _) .nil (by simp; omega)
 refine ⟨w, T, rd34 ?_, t2, t3⟩
 show F34 (ev E0 KD (m + 1)) rounds v S = _
 rw [F34_eq, show (V.int .i64 0) = .int .i64 ((0 : Nat) : Int) from rfl, t1, exB_same, R34_2_eq]
theorem allB_mem {a : Bs} : ∀ {l : List Pth} {acc : List Bs}, a ∈ allB acc l ↔ a ∈ acc ∨ a ∈ names l
 | [], acc => by simp [allB, names]
 | p :: l, acc => by
  show a ∈ allB (putB p.nm acc) l ↔ _
  rw [allB_mem, mem_putB]
  simp only [names, List.map_cons, List.mem_cons]
  constructor
  · rintro ((h | h) | h) <;> simp [h]
  · rintro (h | h | h) <;> simp [h]
theorem allB_pw : ∀ {l : List Pth} {acc : List Bs}, acc.Pairwise (· < ·) → (allB acc l).Pairwise (· < ·)
 | [], _, h => h
 | p :: l, acc, h => allB_pw (l := l) (putB_pw h)
theorem L17t_spec {m N : Nat} (ho : S.on = false) {v w : V} {l k : List Bs} (hl : TL S v l) (hk : TL S w k) (hlen : l.length = k.length) (hb : l.length < 1000000) (nk : Ac → St → Rs) (ek : Nat → Ac → St → Rs) :
 ∀ (d i q : Nat), i + d = l.length → d < q →
 L17_10 (ev E0 KD m) N nk ek q v w (.int .i64 (i : Int)) S = if l.drop i = k.drop i then ek 0 (fr 26 []) S else some (.ret (.bool false), S)
 | d, i, 0, _, hq => by omega
 | 0, i, q + 1, hi, hq => by
  rw [L17_10_eq, hl.len, oB]
  dsimp only
  rw [binV_ii, intsV_lss, dec_ge (by omega), oB, ifK_bool, cond_false, List.drop_of_length_le (by omega), List.drop_of_length_le (by omega), if_pos rfl]
 | d + 1, i, q + 1, hi, hq => by
  have h1 : i < l.length := by omega
  have h2 : i < k.length := by omega
  obtain ⟨p, r, o, p1, p2⟩ := hl.ldOn ho (List.getElem?_eq_getElem h1) []
  obtain ⟨p', r', o', p1', p2'⟩ := hk.ldOn ho (List.getElem?_eq_getElem h2) []
  rw [L17_10_eq, hl.len, oB]
  dsimp only
  rw [binV_ii, intsV_lss, dec_lt h1, oB, ifK_bool, cond_true, p1, oB]
  simp only [ons, lglg]
  rw [p2, oB, p1', oB]
  simp only [ons, lglg]
  rw [p2', oB, neStr, oB]
  simp only [ons, lglg]
  rw [endP_rd (rds_of ?_), relog_same ho ho rfl, ifK_bool, List.drop_eq_getElem_cons h1, List.drop_eq_getElem_cons h2]
  · by_cases he : l[i] = k[i]
    · rw [show (l[i] == k[i]) = true by simp [he], Bool.not_true, cond_false, binV_ii, intsV_add, wrap_succ (by omega), oB, L17t_spec ho hl hk hlen hb nk ek d (i + 1) q (by omega) (by omega)]
      by_cases h3 : l.drop (i + 1) = k.drop (i + 1)
      · rw [if_pos h3, if_pos (by rw [he, h3])]
      · rw [if_neg h3, if_neg (fun e => h3 (List.cons.inj e).2)]
    · rw [show (l[i] == k[i]) = false from beq_false_of_ne he, Bool.not_false, cond_true, if_neg (fun e => he (List.cons.inj e).1)]
  · intro L hL e he
    simp only [List.mem_cons, List.not_mem_nil, or_false] at hL
    rcases hL with rfl | rfl | rfl | rfl | rfl | rfl | rfl | rfl | rfl <;> first | (cases he; done) | (cases List.mem_singleton.1 he; rfl)
theorem same_run (m : Nat) (ho : S.on = false) {v w : V} {l : List Bs} (hl : TL S v l) (hk : TL S w l) (hb : l.length < 1000000) : (ev E0 KD (m + 1)).f 17 [v, w] S = some (.ret (.bool true), S) := rd17 (by
 show F17 (ev E0 KD m) rounds v w S = _
 rw [F17_eq, hl.len, oB]
 dsimp only
 rw [hk.len, oB]
 dsimp only
 rw [neqInt, oB, decide_eq_true rfl, Bool.not_true, ifK_bool, cond_false, show (V.int .i64 0) = .int .i64 ((0 : Nat) : Int) from rfl, L17t_spec ho hl hk rfl hb _ _ l.length 0 rounds (Nat.zero_add _) (by unfold rounds; omega), if_pos rfl, exB_same, R17_7_eq])
end
end Go.Proofs.Ytginkdeicmdmaaa.W
namespace Go.Proofs.Ytginkdeicmdmaaa.W
open Go.Proofs.Ytginkdeicmdmaaa.Ev Go.RowKit
theorem lkP_foldl (a : Bs) : ∀ (l out : List Pth), lkP a (l.foldl addP out) = (lkP a out).or (lkP a l)
 | [], out => by
  show lkP a out = _
  cases lkP a out <;> rfl
 | p :: l, out => by
  rw [List.foldl_cons, lkP_foldl a l]
  unfold addP
  cases hq : lkP p.nm out with
  | some q =>
   simp only [Option.isSome_some, if_true]
   cases ha : lkP a out with
   | some x => rfl
   | none =>
    show lkP a l = lkP a (p :: l)
    rw [show lkP a (p :: l) = if a = p.nm then some p else lkP a l from rfl, if_neg (fun e => by rw [← e, ha] at hq; cases hq)]
  | none =>
   simp only [Option.isSome_none, Bool.false_eq_true, if_false]
   cases ha : lkP a out with
   | some x =>
    have : lkP a (out ++ [p]) = some x := by
     by_cases e : a = p.nm
     · rw [← e, ha] at hq; cases hq
     · rw [lkP_old e]; exact ha
    rw [this]; rfl
   | none =>
    rw [lkP_app ha]
    show _ = lkP a (p :: l)
    rw [show lkP a (p :: l) = if a = p.nm then some p else lkP a l from rfl]
    split <;> rfl
theorem lkP_refsOf (a : Bs) (l : List Pth) : lkP a (refsOf l) = lkP a l := by
 unfold refsOf
 rw [lkP_foldl]; rfl
theorem names_refsOf {a : Bs} {l : List Pth} : a ∈ names (refsOf l) ↔ a ∈ names l := by
 constructor
 · intro h
   by_cases hn : a ∈ names l
   · exact hn
   · have := lkP_none.2 hn
     rw [← lkP_refsOf] at this
     exact absurd h (lkP_none.1 this)
 · intro h
   by_cases hn : a ∈ names (refsOf l)
   · exact hn
   · have := lkP_none.2 hn
     rw [lkP_refsOf] at this
     exact absurd h (lkP_none.1 this)
theorem refsAt_refsOf (a : Bs) (l : List Pth) : refsAt (refsOf l) a = refsAt l a := by unfold refsAt; rw [lkP_refsOf]
def nextR (ps : List Pth) (acc rs : List Bs) : List Bs := rs.foldl (fun acc r => if r ∈ names ps then putB r acc else acc) acc
def nextL (ps : List Pth) (acc out : List Bs) : List Bs := out.foldl (fun acc a => nextR ps acc (refsAt ps a)) acc
def closR (ps : List Pth) : Nat → List Bs → List Bs
 | 0, out => out
 | n + 1, out => if (nextL ps out out).length = out.length then nextL ps out out else closR ps n (nextL ps out out)
theorem nextR_mem {ps : List Pth} {b : Bs} : ∀ {rs acc : List Bs}, b ∈ nextR ps acc rs ↔ b ∈ acc ∨ (b ∈ rs ∧ b ∈ names ps)
 | [], acc => by simp [nextR]
 | r :: rs, acc => by
  show b ∈ nextR ps (if r ∈ names ps then putB r acc else acc) rs ↔ _
  rw [nextR_mem]
  by_cases h : r ∈ names ps
  · rw [if_pos h, mem_putB, List.mem_cons]
    constructor
    · rintro ((rfl | h1) | h1)
      · exact .inr ⟨.inl rfl, h⟩
      · exact .inl h1
      · exact .inr ⟨.inr h1.1, h1.2⟩
    · rintro (h1 | ⟨rfl | h1, h2⟩)
      · exact .inl (.inr h1)
      · exact .inl (.inl rfl)
      · exact .inr ⟨h1, h2⟩
  · rw [if_neg h, List.mem_cons]
    constructor
    · rintro (h1 | h1)
      · exact .inl h1
      · exact .inr ⟨.inr h1.1, h1.2⟩
    · rintro (h1 | ⟨rfl | h1, h2⟩)
      · exact .inl h1
      · exact absurd h2 h
      · exact .inr ⟨h1, h2⟩
theorem nextR_pw {ps : List Pth} : ∀ {rs acc : List Bs}, acc.Pairwise (· < ·) → (nextR ps acc rs).Pairwise (· < ·)
 | [], _, h => h
 | r :: rs, acc, h => nextR_pw (rs := rs) (by dsimp only; split; exact putB_pw h; exact h)
theorem nextL_mem {ps : List Pth} {b : Bs} : ∀ {out acc : List Bs}, b ∈ nextL ps acc out ↔ b ∈ acc ∨ ∃ a ∈ out, b ∈ refsAt ps a ∧ b ∈ names ps
 | [], acc => by simp [nextL]
 | a :: out, acc => by
  show b ∈ nextL ps (nextR ps acc (refsAt ps a)) out ↔ _
  rw [nextL_mem, nextR_mem]
  constructor
  · rintro ((h | h) | ⟨c, h1, h2⟩)
    · exact .inl h
    · exact .inr ⟨a, List.mem_cons_self .., h⟩
    · exact .inr ⟨c, List.mem_cons_of_mem _ h1, h2⟩
  · rintro (h | ⟨c, h1, h2⟩)
    · exact .inl (.inl h)
    · rcases List.mem_cons.1 h1 with rfl | h1
      · exact .inl (.inr h2)
      · exact .inr ⟨c, h1, h2⟩
theorem nextL_pw {ps : List Pth} : ∀ {out acc : List Bs}, acc.Pairwise (· < ·) → (nextL ps acc out).Pairwise (· < ·)
 | [], _, h => h
 | a :: out, acc, h => nextL_pw (out := out) (nextR_pw h)
theorem sub_len {l m : List Bs} (hl : l.Nodup) (h : ∀ a ∈ l, a ∈ m) : l.length ≤ m.length := List.Nodup.length_le_of_subset hl h
theorem sub_same {l m : List Bs} (hl : l.Nodup) (h : ∀ a ∈ l, a ∈ m) (he : m.length = l.length) : ∀ a ∈ m, a ∈ l := fun a ha => by
 by_cases hn : a ∈ l
 · exact hn
 · have : (a :: l).length ≤ m.length := sub_len (List.nodup_cons.2 ⟨hn, hl⟩) fun b hb => by
    rcases List.mem_cons.1 hb with rfl | hb
    · exact ha
    · exact h b hb
   rw [List.length_cons] at this
   omega
structure CR (ps : List Pth) (out : List Bs) : Prop where
 pw : out.Pairwise (· < ·)
 sub : ∀ a ∈ out, a ∈ names ps
theorem CR.len {ps : List Pth} {out : List Bs} (h : CR ps out) : out.length ≤ ps.length := by
 have := sub_len (lt_nodup h.pw) h.sub
 unfold names at this
 rwa [List.length_map] at this
theorem CR.next {ps : List Pth} {out : List Bs} (h : CR ps out) : CR ps (nextL ps out out) := ⟨nextL_pw h.pw, fun a ha => by
 rcases nextL_mem.1 ha with h1 | ⟨c, h1, h2, h3⟩
 · exact h.sub a h1
 · exact h3⟩
theorem closR_spec {ps : List Pth} {f : List Bs} : ∀ (k : Nat) (out : List Bs), CR ps out → ps.length + 1 ≤ out.length + k → (∀ a ∈ out, Rch (refsOf ps) f a) →
 CR ps (closR ps k out) ∧ (∀ a ∈ out, a ∈ closR ps k out) ∧ (∀ a ∈ closR ps k out, ∀ r ∈ refsAt ps a, r ∈ names ps → r ∈ closR ps k out) ∧ (∀ a ∈ closR ps k out, Rch (refsOf ps) f a)
 | 0, out, h, hk, _ => by have := h.len; omega
 | k + 1, out, h, hk, hr => by
  have hsub : ∀ a ∈ out, a ∈ nextL ps out out := fun a ha => nextL_mem.2 (.inl ha)
  have hrn : ∀ a ∈ nextL ps out out, Rch (refsOf ps) f a := fun a ha => by
   rcases nextL_mem.1 ha with h1 | ⟨c, h1, h2, h3⟩
   · exact hr a h1
   · have hc := hr c h1
     unfold refsAt at h2
     cases hq : lkP c ps with
     | none => rw [hq] at h2; cases h2
     | some q =>
      rw [hq] at h2
      exact .step hc (by rw [lkP_refsOf]; exact hq) h2 (names_refsOf.2 h3)
  unfold closR
  by_cases he : (nextL ps out out).length = out.length
  · rw [if_pos he]
    have hsame := sub_same (lt_nodup h.pw) hsub he
    exact ⟨h.next, hsub, fun a ha r hra hn => nextL_mem.2 (.inr ⟨a, hsame a ha, hra, hn⟩), hrn⟩
  · rw [if_neg he]
    have hl := sub_len (lt_nodup h.pw) hsub
    obtain ⟨q1, q2, q3, q4⟩ := closR_spec (f := f) k (nextL ps out out) h.next (by omega) hrn
    exact ⟨q1, fun a ha => q2 a (hsub a ha), q3, q4⟩
def refClos (ps : List Pth) (f : List Bs) : List Bs := closR ps (ps.length + 1) (nextR ps [] f)
theorem initCR (ps : List Pth) (f : List Bs) : CR ps (nextR ps [] f) := ⟨nextR_pw .nil, fun a ha => by
 rcases nextR_mem.1 ha with h | h
 · cases h
 · exact h.2⟩
theorem refClos_eq (ps : List Pth) (f : List Bs) : refClos ps f = closL ps f := by
 obtain ⟨q1, q2, q3, q4⟩ := closR_spec (f := f) (ps.length + 1) (nextR ps [] f) (initCR ps f) (by omega) (fun a ha => by
  rcases nextR_mem.1 ha with h | h
  · cases h
  · exact .root h.1 (names_refsOf.2 h.2))
 refine rise_eq q1.pw (closL_pw _ _) fun a => ?_
 rw [mem_closL]
 refine ⟨fun h => q4 a h, fun h => ?_⟩
 show a ∈ closR ps (ps.length + 1) (nextR ps [] f)
 induction h with
 | root h1 h2 => exact q2 _ (nextR_mem.2 (.inr ⟨h1, names_refsOf.1 h2⟩))
 | step _ hq hr hn ih =>
  rw [lkP_refsOf] at hq
  exact q3 _ ih _ (by unfold refsAt; rw [hq]; exact hr) (names_refsOf.1 hn)
section
variable {S T U X : St}
theorem fix_at {ps : List Pth} {a : Bs} (h : a ∈ names ps) : ∃ (k : Nat) (p : Pth), fixI a ps = (k : Int) ∧ ps[k]? = some p ∧ refsAt ps a = p.refs := by
 cases hq : fixP a ps with
 | none => exact absurd h (fixP_none.1 hq)
 | some k =>
  obtain ⟨p, p1, p2⟩ := fixP_some hq
  exact ⟨k, p, by unfold fixI; rw [hq], p1, by unfold refsAt; rw [p2]⟩
theorem L69_spec {m N N0 : Nat} (ho : X.on = false) {v0 v1 : V} {ps : List Pth} {f : List Bs} (hp : PL X v0 ps) (hlen : ps.length < 1000) (hf : TL X v1 f) (hfl : f.length < 1000) (hN : N0 ≤ X.next) (nk : Ac → St → Rs) (ek : Nat → Ac → St → Rs) :
 ∀ (rest : List Bs) (i q : Nat) (v5 : V) (acc : List Bs) (U : St), f.drop i = rest → rest.length < q → Grew (fun _ => False) X U → TLo U v5 acc N0 → acc.length + rest.length < 4000 →
 ∃ w T, L18_69 (ev E0 KD (m + 1)) N nk ek q v0 v1 v5 (.int .i64 (i : Int)) U = ek 0 (fr 77 [(0, v0), (5, w)]) T ∧ TLo T w (nextR ps acc rest) N0 ∧ Grew (fun _ => False) X T
 | rest, i, 0, v5, acc, U, _, hq, _, _, _ => by omega
 | [], i, q + 1, v5, acc, U, hi, hq, g, ht, hb => by
  refine ⟨v5, U, ?_, ht, g⟩
  rw [L18_69_eq, (hf.grew0 g).len, oB]
  dsimp only
  rw [binV_ii, intsV_lss, dec_ge (drop_end hi), oB, ifK_bool, cond_false]
 | a :: rest, i, q + 1, v5, acc, U, hi, hq, g, ht, hb => by
  have onU := g.on.trans ho
  obtain ⟨hlt, hf', hrest, hmem⟩ := drop_at hi
  obtain ⟨x, x1, x2⟩ := (hf.grew0 g).ld onU (show f[i]? = some a by rw [List.getElem?_eq_getElem hlt, hf'])
  rw [List.length_cons] at hb
  have hfind := find_run m onU (hp.grew g) (by omega) a
  have hadd : binV E0 .add 3 false true (.int .i64 (i : Int)) (.int .i64 1) = some (.int .i64 ((i + 1 : Nat) : Int)) := by
   rw [binV_ii, intsV_add, wrap_succ (by omega)]
  rw [L18_69_eq, (hf.grew0 g).len, oB]
  dsimp only
  rw [binV_ii, intsV_lss, dec_lt hlt, oB, ifK_bool, cond_true, x1, oB, x2, oB]
  dsimp only
  rw [hfind, callP_ret, geq0, oB, ifK_bool]
  show ∃ w T, _ ∧ TLo T w (nextR ps (if a ∈ names ps then putB a acc else acc) rest) N0 ∧ _
  by_cases h : a ∈ names ps
  · obtain ⟨w, V1, a1, a2, a3⟩ := put_run m onU ht (Nat.le_trans hN g.next) (by omega) a
    rw [decide_eq_true ((fixI_geq a ps).2 h), cond_true, oB, x2, oB]
    dsimp only
    rw [a1, callP_ret, hadd, oB, if_pos h]
    exact L69_spec ho hp hlen hf hfl hN nk ek rest (i + 1) q w (putB a acc) V1 hrest (by simp at hq; omega) (g.trans a3) a2 (by have := putB_len a acc; omega)
  · rw [decide_eq_false (fun e => h ((fixI_geq a ps).1 e)), cond_false, hadd, oB, if_neg h]
    exact L69_spec ho hp hlen hf hfl hN nk ek rest (i + 1) q v5 acc U hrest (by simp at hq; omega) g ht (by omega)
theorem L40_spec {m N N0 : Nat} (ho : X.on = false) {v0 v5 v7 v9 : V} {ps : List Pth} {p : Pth} {b : Nat} (hp : PL X v0 ps) (hlen : ps.length < 1000) (hpm : p ∈ ps) (hrl : p.refs.length < 1000) (hN : N0 ≤ X.next) (nk : Ac → St → Rs) (ek : Nat → Ac → St → Rs) :
 ∀ (rest : List Bs) (i q : Nat) (v8 : V) (acc : List Bs) (U : St), p.refs.drop i = rest → rest.length < q → Grew (fun _ => False) X U → Bx U b 28 p.cells → b < U.next → TLo U v8 acc N0 → acc.length + rest.length < 4000 →
 ∃ w T, L18_40 (ev E0 KD (m + 1)) N nk ek q v0 v5 v7 v8 v9 (.ptr b 0) (.int .i64 (i : Int)) U = ek 6 (fr 77 [(0, v0), (5, v5), (7, v7), (8, w), (9, v9)]) T ∧ TLo T w (nextR ps acc rest) N0 ∧ Grew (fun _ => False) X T
 | rest, i, 0, v8, acc, U, _, hq, _, _, _, _, _ => by omega
 | rest, i, q + 1, v8, acc, U, hi, hq, g, hbx, hbn, ht, hb => by
  have onU := g.on.trans ho
  have l1 : ld1 (.ptr b (0 + 1)) U = some (p.rv, U) := Bx.ldv onU hbx big4 rfl
  have hT := (hp.2 p hpm).grew0 g
  rw [L18_40_eq, faPg, oB, l1, oB]
  dsimp only
  rw [hT.len, oB]
  dsimp only
  rw [binV_ii, intsV_lss]
  cases rest with
  | nil =>
   refine ⟨v8, U, ?_, ht, g⟩
   rw [dec_ge (drop_end hi), oB, ifK_bool, cond_false]
  | cons a rest =>
   obtain ⟨hlt, hf', hrest, hmem⟩ := drop_at hi
   obtain ⟨x, x1, x2⟩ := hT.ld onU (show p.refs[i]? = some a by rw [List.getElem?_eq_getElem hlt, hf'])
   rw [List.length_cons] at hb
   have hfind := find_run m onU (hp.grew g) (by omega) a
   have hadd : binV E0 .add 3 false true (.int .i64 (i : Int)) (.int .i64 1) = some (.int .i64 ((i + 1 : Nat) : Int)) := by
    rw [binV_ii, intsV_add, wrap_succ (by omega)]
   rw [dec_lt hlt, oB, ifK_bool, cond_true, oB, l1, oB]
   dsimp only
   rw [x1, oB, x2, oB]
   dsimp only
   rw [hfind, callP_ret, geq0, oB, ifK_bool]
   show ∃ w T, _ ∧ TLo T w (nextR ps (if a ∈ names ps then putB a acc else acc) rest) N0 ∧ _
   by_cases h : a ∈ names ps
   · obtain ⟨w, V1, a1, a2, a3⟩ := put_run m onU ht (Nat.le_trans hN g.next) (by omega) a
     rw [decide_eq_true ((fixI_geq a ps).2 h), cond_true, oB, l1, oB]
     dsimp only
     rw [x1, oB, x2, oB]
     dsimp only
     rw [a1, callP_ret, hadd, oB, if_pos h]
     exact L40_spec ho hp hlen hpm hrl hN nk ek rest (i + 1) q w (putB a acc) V1 hrest (by simp at hq; omega) (g.trans a3) (hbx.grew hbn (fun h => h) a3) (Nat.lt_of_lt_of_le hbn a3.next) a2 (by have := putB_len a acc; omega)
   · rw [decide_eq_false (fun e => h ((fixI_geq a ps).1 e)), cond_false, hadd, oB, if_neg h]
     exact L40_spec ho hp hlen hpm hrl hN nk ek rest (i + 1) q v8 acc U hrest (by simp at hq; omega) g hbx hbn ht (by omega)
end
end Go.Proofs.Ytginkdeicmdmaaa.W
namespace Go.Proofs.Ytginkdeicmdmaaa.W
open Go.Proofs.Ytginkdeicmdmaaa.Ev Go.RowKit
theorem nextR_CR {ps : List Pth} {acc rs : List Bs} (h : CR ps acc) : CR ps (nextR ps acc rs) := ⟨nextR_pw h.pw, fun a ha => by
 rcases nextR_mem.1 ha with h1 | h1
 · exact h.sub a h1
 · exact h1.2⟩
section
variable {S T U X : St}
theorem L19c_spec {m N0 : Nat} (ho : X.on = false) {v0 v5 v7 : V} {ps : List Pth} {out : List Bs} (hp : PL X v0 ps) (hlen : ps.length < 1000) (hrl : ∀ p ∈ ps, p.refs.length < 1000) (hout : CR ps out) (hN : N0 ≤ X.next) (h5 : TL X v5 out) (nk : Ac → St → Rs) (ek : Nat → Ac → St → Rs) :
 ∀ (rest : List Bs) (i q : Nat) (v8 : V) (acc : List Bs) (U : St), out.drop i = rest → rest.length < q → Grew (fun _ => False) X U → TLo U v8 acc N0 → CR ps acc →
 ∃ w T, L18_19 (ev E0 KD (m + 1)) rounds nk ek q v0 v5 v7 v8 (.int .i64 (i : Int)) U = ek 4 (fr 77 [(0, v0), (7, v7), (8, w)]) T ∧ TLo T w (nextL ps acc rest) N0 ∧ Grew (fun _ => False) X T
 | rest, i, 0, v8, acc, U, _, hq, _, _, _ => by omega
 | [], i, q + 1, v8, acc, U, hi, hq, g, ht, hc => by
  refine ⟨v8, U, ?_, ht, g⟩
  rw [L18_19_eq, (h5.grew0 g).len, oB]
  dsimp only
  rw [binV_ii, intsV_lss, dec_ge (drop_end hi), oB, ifK_bool, cond_false]
 | a :: rest, i, q + 1, v8, acc, U, hi, hq, g, ht, hc => by
  have onU := g.on.trans ho
  have hol := hout.len
  obtain ⟨hlt, hf', hrest, hmem⟩ := drop_at hi
  obtain ⟨x, x1, x2⟩ := (h5.grew0 g).ld onU (show out[i]? = some a by rw [List.getElem?_eq_getElem hlt, hf'])
  obtain ⟨k, p, k1, k2, k3⟩ := fix_at (hout.sub a hmem)
  have hfind := find_run m onU (hp.grew g) (by omega) a
  rw [k1] at hfind
  have hpm := List.mem_of_getElem? k2
  obtain ⟨r, y1, y2⟩ := (hp.grew g).ix k2
  obtain ⟨A, a1, a2, a3, a4⟩ := var_new onU 28 4 (Tr.ofListFrom .nil [(sv []), .nilslice, (sv []), (sv [])] 0) p.cells rfl (by omega) big4
  have hcl := hc.len
  have hpr := hrl p hpm
  have gA := g.trans a3
  obtain ⟨w, V1, b1, b2, b3⟩ := L40_spec (m := m) (N := rounds) (v5 := v5) (v7 := v7) (v9 := .int .i64 (i : Int)) (a3.on.trans onU) (hp.grew gA) hlen hpm hpr (Nat.le_trans hN gA.next)
   (R18_24 (ev E0 KD (m + 1)) rounds (N18_19 (ev E0 KD (m + 1)) rounds nk ek q) ek) (exB 6 (R18_24 (ev E0 KD (m + 1)) rounds (N18_19 (ev E0 KD (m + 1)) rounds nk ek q) ek) (exB 5 (R18_24 (ev E0 KD (m + 1)) rounds (N18_19 (ev E0 KD (m + 1)) rounds nk ek q) ek) ek)) p.refs 0 rounds v8 acc A rfl (by unfold rounds; omega) (Grew.refl _ _) a2 (by omega) (ht.grew a3) (by omega)
  obtain ⟨w', T, t1, t2, t3⟩ := L19c_spec (m := m) ho hp hlen hrl hout hN h5 nk ek rest (i + 1) q w (nextR ps acc p.refs) V1 hrest (by simp at hq; omega) (gA.trans b3) b2 (nextR_CR hc)
  refine ⟨w', T, ?_, ?_, t3⟩
  · rw [L18_19_eq, (h5.grew0 g).len, oB]
    dsimp only
    rw [binV_ii, intsV_lss, dec_lt hlt, oB, ifK_bool, cond_true, x1, oB, x2, oB]
    dsimp only
    rw [hfind, callP_ret, y1, oB, PL.all onU k2 y2, oB]
    dsimp only
    rw [oB, nwP_fst, a1, oB, show (V.int .i64 0) = .int .i64 ((0 : Nat) : Int) from rfl]
    dsimp only
    rw [b1, exB_same, R18_24_eq, binV_ii, intsV_add, wrap_succ (by omega), oB, N18_19_eq]
    exact t1
  · show TLo T w' (nextL ps (nextR ps acc (refsAt ps a)) rest) N0
    rw [k3]; exact t2
theorem eqInts (a c : Nat) : binV E0 .eql 3 false false (.int .i64 (a : Int)) (.int .i64 (c : Int)) = some (.bool (decide (a = c))) := by
 rw [binV_ii, intsV_eql]
 congr 2
 rw [decide_eq_decide]; omega
theorem L3c_spec {m N0 : Nat} (ho : X.on = false) {v0 : V} {ps : List Pth} (hp : PL X v0 ps) (hlen : ps.length < 1000) (hrl : ∀ p ∈ ps, p.refs.length < 1000) (hN : N0 ≤ X.next) (nk : Ac → St → Rs) (ek : Nat → Ac → St → Rs) :
 ∀ (k q : Nat) (out : List Bs) (v5 : V) (U : St), CR ps out → ps.length + 1 ≤ out.length + k → k < q → Grew (fun _ => False) X U → TLo U v5 out N0 →
 ∃ w T, L18_3 (ev E0 KD (m + 1)) rounds nk ek q v0 v5 U = some (.ret w, T) ∧ TLo T w (closR ps k out) N0 ∧ Grew (fun _ => False) X T
 | k, 0, out, v5, U, _, _, hq, _, _ => by omega
 | 0, q + 1, out, v5, U, hc, hk, _, _, _ => by have := hc.len; omega
 | k + 1, q + 1, out, v5, U, hc, hk, hq, g, h5 => by
  have onU := g.on.trans ho
  have hol := hc.len
  obtain ⟨w, T, t1, t2, t3⟩ := L19c_spec (m := m) (v7 := .int .i64 (out.length : Int)) onU (hp.grew g) hlen hrl hc (Nat.le_trans hN g.next) h5.tl
   (R18_9 (ev E0 KD (m + 1)) rounds (N18_3 (ev E0 KD (m + 1)) rounds nk ek q) (exB 3 (N18_3 (ev E0 KD (m + 1)) rounds nk ek q) ek)) (exB 4 (R18_9 (ev E0 KD (m + 1)) rounds (N18_3 (ev E0 KD (m + 1)) rounds nk ek q) (exB 3 (N18_3 (ev E0 KD (m + 1)) rounds nk ek q) ek)) (exB 3 (N18_3 (ev E0 KD (m + 1)) rounds nk ek q) ek)) out 0 rounds v5 out U rfl (by unfold rounds; omega) (Grew.refl _ _) h5 hc
  have hbase : ∀ R, (ifK (.bool (decide ((nextL ps out out).length = out.length))) (some (.ret w, T)) (N18_3 (ev E0 KD (m + 1)) rounds nk ek q (fr 77 [(0, v0), (5, w)]) T)) = R → L18_3 (ev E0 KD (m + 1)) rounds nk ek (q + 1) v0 v5 U = R := fun R hR => by
   rw [L18_3_eq, h5.tl.len, oB]
   dsimp only
   rw [show (V.int .i64 0) = .int .i64 ((0 : Nat) : Int) from rfl, t1, exB_same, R18_9_eq, t2.tl.len, oB]
   dsimp only
   rw [eqInts, oB]
   exact hR
  show ∃ w T, _ ∧ TLo T w (if (nextL ps out out).length = out.length then nextL ps out out else closR ps k (nextL ps out out)) N0 ∧ _
  by_cases he : (nextL ps out out).length = out.length
  · rw [if_pos he]
    exact ⟨w, T, hbase _ (by rw [decide_eq_true he]; rfl), t2, g.trans t3⟩
  · rw [if_neg he]
    have hl := sub_len (m := nextL ps out out) (lt_nodup hc.pw) fun a ha => nextL_mem.2 (.inl ha)
    obtain ⟨w', T', z1, z2, z3⟩ := L3c_spec (m := m) ho hp hlen hrl hN nk ek k q (nextL ps out out) w T hc.next (by omega) (by omega) (g.trans t3) t2
    exact ⟨w', T', hbase _ (by rw [decide_eq_false he, ifK_bool, cond_false, N18_3_eq]; exact z1), z2, z3⟩
theorem refClos_run (m : Nat) (ho : X.on = false) {v0 v1 : V} {ps : List Pth} {f : List Bs} (hp : PL X v0 ps) (hF : Fit ps) (hf : TL X v1 f) (hfl : f.length < 1000) : ∃ w T, (ev E0 KD (m + 2)).f 18 [v0, v1] X = some (.ret w, T) ∧ TLo T w (closL ps f) X.next ∧ Grew (fun _ => False) X T := by
 have hlen := hF.len
 obtain ⟨w, T, t1, t2, t3⟩ := L69_spec (m := m) (N := rounds) ho hp hlen hf hfl (Nat.le_refl _) (R18_2 (ev E0 KD (m + 1)) rounds (finN E0 (ev E0 KD (m + 1)) Try.f18) noEx) (exB 0 (R18_2 (ev E0 KD (m + 1)) rounds (finN E0 (ev E0 KD (m + 1)) Try.f18) noEx) noEx) f 0 rounds .nilslice [] X rfl (by unfold rounds; omega) (Grew.refl _ _) .nil (by simp; omega)
 obtain ⟨w', T', z1, z2, z3⟩ := L3c_spec (m := m) ho hp hlen hF.refs (Nat.le_refl _) (fun a s => projK [4] a fun a => finN E0 (ev E0 KD (m + 1)) Try.f18 a s) (exB 2 (fun a s => projK [4] a fun a => finN E0 (ev E0 KD (m + 1)) Try.f18 a s) noEx) (ps.length + 1) rounds (nextR ps [] f) w T (initCR ps f) (by omega) (by unfold rounds; omega) t3 t2
 refine ⟨w', T', rd18 ?_, ?_, z3⟩
 · show F18 (ev E0 KD (m + 1)) rounds v0 v1 X = _
   rw [F18_eq, show (V.int .i64 0) = .int .i64 ((0 : Nat) : Int) from rfl, t1, exB_same, R18_2_eq]
   exact z1
 · rw [← refClos_eq]; exact z2
theorem L13d_spec {m N : Nat} (ho : X.on = false) {v5 v6 : V} {live all : List Bs} (hl : TL X v5 live) (ha : TL X v6 all) (hll : live.length < 1000) (hal : all.length < 1000) (nk : Ac → St → Rs) (ek : Nat → Ac → St → Rs) :
 ∀ (d i q : Nat) (v7 : V) (U : St), i + d = all.length → d < q → Grew (fun _ => False) X U → TLo U v7 ((all.take i).filter fun k => !decide (k ∈ live)) X.next →
 ∃ w T, L19_13 (ev E0 KD (m + 1)) N nk ek q v5 v6 v7 (.int .i64 (i : Int)) U = ek 0 (fr 35 [(7, w)]) T ∧ TLo T w (all.filter fun k => !decide (k ∈ live)) X.next ∧ Grew (fun _ => False) X T
 | d, i, 0, v7, U, _, hq, _, _ => by omega
 | 0, i, q + 1, v7, U, hi, hq, g, ht => by
  refine ⟨v7, U, ?_, by rw [List.take_of_length_le (by omega)] at ht; exact ht, g⟩
  rw [L19_13_eq, (ha.grew0 g).len, oB]
  dsimp only
  rw [binV_ii, intsV_lss, dec_ge (by omega), oB, ifK_bool, cond_false]
 | d + 1, i, q + 1, v7, U, hi, hq, g, ht => by
  have onU := g.on.trans ho
  have hlt : i < all.length := by omega
  obtain ⟨x, x1, x2⟩ := (ha.grew0 g).ld onU (List.getElem?_eq_getElem hlt)
  have hadd : binV E0 .add 3 false true (.int .i64 (i : Int)) (.int .i64 1) = some (.int .i64 ((i + 1 : Nat) : Int)) := by
   rw [binV_ii, intsV_add, wrap_succ (by omega)]
  rw [L19_13_eq, (ha.grew0 g).len, oB]
  dsimp only
  rw [binV_ii, intsV_lss, dec_lt hlt, oB, ifK_bool, cond_true, x1, oB, x2, oB]
  dsimp only
  rw [hasR_run m onU (hl.grew0 g) (by omega), callP_ret, unV_not, oB, ifK_bool]
  cases hq' : (!decide (all[i] ∈ live)) with
  | true =>
   have hfl : ((all.take i).filter fun k => !decide (k ∈ live)).length < 100000 := Nat.lt_of_le_of_lt (List.length_filter_le _ _) (by rw [List.length_take]; omega)
   obtain ⟨y, W, v', T, b1, b2, b3, b4⟩ := ht.push onU g.next hfl all[i]
   rw [cond_true, oB, x2, oB]
   dsimp only
   rw [b1, oB]
   dsimp only
   rw [b2, oB]
   dsimp only
   rw [hadd, oB]
   exact L13d_spec ho hl ha hll hal nk ek d (i + 1) q v' T (by omega) (by omega) (Grew.fresh g (Nat.le_refl _) b4) (by rw [take_push hlt, filter_push, hq', if_pos rfl]; exact b3)
  | false =>
   rw [cond_false, hadd, oB]
   exact L13d_spec ho hl ha hll hal nk ek d (i + 1) q v7 U (by omega) (by omega) g (by rw [take_push hlt, filter_push, hq', if_neg (by simp), List.append_nil]; exact ht)
theorem allB_eq (ps : List Pth) : allB [] ps = sortB (names (refsOf ps)) := rise_eq (allB_pw .nil) (sortB_pw (refsOf_nd ps)) fun a => by
 rw [allB_mem, mem_sortB, names_refsOf]
 simp
theorem allB_len (ps : List Pth) : (allB [] ps).length ≤ ps.length := by
 rw [allB_eq, (sortB_perm _).length_eq]
 unfold names
 rw [List.length_map]
 exact refsOf_len ps
theorem refDead_run (m : Nat) (ho : X.on = false) {v0 v1 : V} {ps : List Pth} {f : List Bs} (hp : PL X v0 ps) (hF : Fit ps) (hf : TL X v1 f) (hfl : f.length < 1000) : ∃ w T, (ev E0 KD (m + 3)).f 19 [v0, v1] X = some (.ret w, T) ∧ TLo T w (deadL ps f) X.next ∧ Grew (fun _ => False) X T := by
 have hlen := hF.len
 obtain ⟨w1, A, a1, a2, a3⟩ := refClos_run m ho hp hF hf hfl
 have onA := a3.on.trans ho
 obtain ⟨w2, B, b1, b2, b3⟩ := all_run m onA (hp.grew a3) hlen
 have onB := b3.on.trans onA
 have gB := a3.trans b3
 have hcl := closL_len ps f
 have hal := allB_len ps
 obtain ⟨w, T, t1, t2, t3⟩ := L13d_spec (m := m + 1) (N := rounds) onB (a2.tl.grew0 b3) b2.tl (by omega) (by omega) (R19_9 (ev E0 KD (m + 2)) rounds (finN E0 (ev E0 KD (m + 2)) Try.f19) noEx) (exB 0 (R19_9 (ev E0 KD (m + 2)) rounds (finN E0 (ev E0 KD (m + 2)) Try.f19) noEx) noEx) (allB [] ps).length 0 rounds .nilslice B (Nat.zero_add _) (by unfold rounds; omega) (Grew.refl _ _) .nil
 refine ⟨w, T, rd19 ?_, ?_, gB.trans t3⟩
 · show F19 (ev E0 KD (m + 2)) rounds v0 v1 X = _
   rw [F19_eq, a1, callP_ret, b1, callP_ret, show (V.int .i64 0) = .int .i64 ((0 : Nat) : Int) from rfl, t1, exB_same, R19_9_eq]
 · have he : ((allB [] ps).filter fun k => !decide (k ∈ closL ps f)) = deadL ps f := by
    rw [allB_eq]
    unfold deadL
    refine List.filter_congr fun k _ => ?_
    rw [show decide (k ∈ closL ps f) = decide (k ∈ reachL (refsOf ps) f) from by rw [decide_eq_decide, mem_closL, mem_reachL]]
   rw [← he]
   exact t2.weak gB.next
end
end Go.Proofs.Ytginkdeicmdmaaa.W
namespace Go.Proofs.Ytginkdeicmdmaaa.W
open Go.Proofs.Ytginkdeicmdmaaa.Ev Go.RowKit
def isFirst (ps : List Pth) (i : Nat) (p : Pth) : Bool := fixI p.nm ps == (i : Int)
theorem lk_refs_mem {ps : List Pth} {p : Pth} (h : lkP p.nm ps = some p) : p ∈ refsOf ps := by
 rw [← lkP_refsOf] at h
 exact (lkP_mem h).1
theorem refs_lk {ps : List Pth} {p : Pth} (h : p ∈ refsOf ps) : lkP p.nm ps = some p := by
 rw [← lkP_refsOf]
 exact lkP_nd (refsOf_nd ps) h
theorem first_lk {ps : List Pth} {i : Nat} {p : Pth} (hi : ps[i]? = some p) (h : isFirst ps i p = true) : lkP p.nm ps = some p := by
 unfold isFirst at h
 have h' : fixI p.nm ps = (i : Int) := by simpa using h
 obtain ⟨k, q, k1, k2, k3⟩ := fix_at (ps := ps) (a := p.nm) ((fixI_geq p.nm ps).1 (by omega))
 have hk : k = i := by rw [k1] at h'; exact Int.ofNat.inj h'
 subst hk
 unfold fixI at k1
 cases hq : fixP p.nm ps with
 | none => rw [hq] at k1; simp only at k1; omega
 | some j =>
  rw [hq] at k1
  have hjk : j = k := by exact Int.ofNat.inj k1
  subst hjk
  obtain ⟨x, x1, x2⟩ := fixP_some hq
  rw [hi] at x1
  cases x1
  exact x2
theorem lk_first {ps : List Pth} {p : Pth} (h : lkP p.nm ps = some p) : ∃ i, ps[i]? = some p ∧ isFirst ps i p = true := by
 cases hq : fixP p.nm ps with
 | none => exact absurd (lk_names h) (fixP_none.1 hq)
 | some i =>
  obtain ⟨x, x1, x2⟩ := fixP_some hq
  rw [h] at x2
  cases x2
  exact ⟨i, x1, by unfold isFirst fixI; rw [hq]; simp⟩
def okP (ps : List Pth) (i : Nat) (p : Pth) : Bool := !isFirst ps i p || p.refs.all fun r => decide (r ∈ names ps)
def clB (ps : List Pth) : Nat → List Pth → Bool
 | _, [] => true
 | i, p :: rest => okP ps i p && clB ps (i + 1) rest
theorem clB_iff {ps : List Pth} : ∀ {rest : List Pth} {i : Nat}, clB ps i rest = true ↔ ∀ j p, rest[j]? = some p → okP ps (i + j) p = true
 | [], i => by simp [clB]
 | q :: rest, i => by
  unfold clB
  rw [Bool.and_eq_true, clB_iff]
  constructor
  · rintro ⟨h1, h2⟩ j p hp
    cases j with
    | zero => simp at hp; subst hp; exact h1
    | succ j =>
     rw [List.getElem?_cons_succ] at hp
     rw [show i + (j + 1) = i + 1 + j by omega]
     exact h2 j p hp
  · intro h
    exact ⟨h 0 q rfl, fun j p hp => by rw [show i + 1 + j = i + (j + 1) by omega]; exact h (j + 1) p (by rw [List.getElem?_cons_succ]; exact hp)⟩
theorem clB_eq (ps : List Pth) : clB ps 0 ps = closedB (refsOf ps) := by
 rw [Bool.eq_iff_iff, clB_iff]
 unfold closedB
 rw [List.all_eq_true]
 constructor
 · intro h p hp
   obtain ⟨i, i1, i2⟩ := lk_first (refs_lk hp)
   have := h i p i1
   unfold okP at this
   rw [Nat.zero_add, i2, Bool.not_true, Bool.false_or, List.all_eq_true] at this
   rw [List.all_eq_true]
   intro r hr
   have := this r hr
   rw [decide_eq_true_eq] at this ⊢
   exact names_refsOf.2 this
 · intro h j p hp
   unfold okP
   rw [Nat.zero_add]
   cases hf : isFirst ps j p with
   | false => rfl
   | true =>
    rw [Bool.not_true, Bool.false_or, List.all_eq_true]
    intro r hr
    have := h p (lk_refs_mem (first_lk hp hf))
    rw [List.all_eq_true] at this
    have := this r hr
    rw [decide_eq_true_eq] at this ⊢
    exact names_refsOf.1 this
def rfP (ps : List Pth) (path : Bs) (i : Nat) (p : Pth) : Bool := isFirst ps i p && (!(p.nm == path) && decide (path ∈ p.refs))
def rfB (ps : List Pth) (path : Bs) : Nat → List Bs → List Pth → List Bs
 | _, acc, [] => acc
 | i, acc, p :: rest => rfB ps path (i + 1) (if rfP ps path i p then putB p.nm acc else acc) rest
theorem rfB_mem {ps : List Pth} {path a : Bs} : ∀ {rest : List Pth} {i : Nat} {acc : List Bs}, a ∈ rfB ps path i acc rest ↔ a ∈ acc ∨ ∃ j p, rest[j]? = some p ∧ rfP ps path (i + j) p = true ∧ p.nm = a
 | [], i, acc => by simp [rfB]
 | q :: rest, i, acc => by
  unfold rfB
  rw [rfB_mem]
  constructor
  · rintro (h | ⟨j, p, h1, h2, h3⟩)
    · by_cases hq : rfP ps path i q = true
      · rw [if_pos hq, mem_putB] at h
        rcases h with rfl | h
        · exact .inr ⟨0, q, rfl, hq, rfl⟩
        · exact .inl h
      · rw [if_neg hq] at h; exact .inl h
    · exact .inr ⟨j + 1, p, by rw [List.getElem?_cons_succ]; exact h1, by rw [show i + (j + 1) = i + 1 + j by omega]; exact h2, h3⟩
  · rintro (h | ⟨j, p, h1, h2, h3⟩)
    · left
      split
      · exact mem_putB.2 (.inr h)
      · exact h
    · cases j with
      | zero =>
       simp at h1; subst h1
       left
       rw [Nat.add_zero] at h2
       rw [if_pos h2]
       exact mem_putB.2 (.inl h3.symm)
      | succ j =>
       rw [List.getElem?_cons_succ] at h1
       exact .inr ⟨j, p, h1, by rw [show i + 1 + j = i + (j + 1) by omega]; exact h2, h3⟩
theorem rfB_pw {ps : List Pth} {path : Bs} : ∀ {rest : List Pth} {i : Nat} {acc : List Bs}, acc.Pairwise (· < ·) → (rfB ps path i acc rest).Pairwise (· < ·)
 | [], _, _, h => h
 | q :: rest, i, acc, h => rfB_pw (rest := rest) (by split; exact putB_pw h; exact h)
theorem rfB_eq (ps : List Pth) (path : Bs) : rfB ps path 0 [] ps = referL ps path := by
 refine rise_eq (rfB_pw .nil) ((sortB_pw (refsOf_nd ps)).filter _) fun a => ?_
 rw [rfB_mem]
 unfold referL
 rw [List.mem_filter, mem_sortB, names_refsOf]
 constructor
 · rintro (h | ⟨j, p, h1, h2, rfl⟩)
   · cases h
   · unfold rfP at h2
     rw [Nat.zero_add, Bool.and_eq_true] at h2
     have hl := first_lk h1 h2.1
     refine ⟨lk_names hl, ?_⟩
     rw [refsAt_refsOf, show refsAt ps p.nm = p.refs from by unfold refsAt; rw [hl]]
     exact h2.2
 · rintro ⟨h1, h2⟩
   right
   cases hl : lkP a ps with
   | none => exact absurd h1 (lkP_none.1 hl)
   | some p =>
    have hnm := (lkP_mem hl).2
    subst hnm
    obtain ⟨i, i1, i2⟩ := lk_first hl
    refine ⟨i, p, i1, ?_, rfl⟩
    unfold rfP
    rw [Nat.zero_add, i2, Bool.true_and]
    rw [refsAt_refsOf, show refsAt ps p.nm = p.refs from by unfold refsAt; rw [hl]] at h2
    exact h2
section
variable {S T U X : St}
theorem ltzI (n : Int) : binV E0 .lss 3 false true (.int .i64 n) (.int .i64 0) = some (.bool (decide (n < 0))) := by rw [binV_ii, intsV_lss]
theorem eqII (a c : Int) : binV E0 .eql 3 false false (.int .i64 a) (.int .i64 c) = some (.bool (a == c)) := by
 rw [binV_ii, intsV_eql]
 rfl
theorem fixI_neg (a : Bs) (ps : List Pth) : decide (fixI a ps < 0) = !decide (a ∈ names ps) := by
 rw [Bool.eq_iff_iff, decide_eq_true_eq, Bool.not_eq_true', decide_eq_false_iff_not, ← fixI_geq]
 omega
theorem L14_spec {m N : Nat} (ho : S.on = false) {v0 : V} {ps : List Pth} {i : Nat} {p : Pth} (hp : PL S v0 ps) (hlen : ps.length < 1000) (hi : ps[i]? = some p) (hrl : p.refs.length < 1000) (nk : Ac → St → Rs) (ek : Nat → Ac → St → Rs) :
 ∀ (rest : List Bs) (j q : Nat), p.refs.drop j = rest → rest.length < q →
 L20_14 (ev E0 KD (m + 1)) N nk ek q v0 (.int .i64 (i : Int)) (.int .i64 (j : Int)) S = if (!isFirst ps i p || rest.all fun r => decide (r ∈ names ps)) = true then ek 2 (fr 43 [(0, v0), (3, .int .i64 (i : Int))]) S else some (.ret (.bool false), S)
 | rest, j, 0, _, hq => by omega
 | rest, j, q + 1, hj, hq => by
  obtain ⟨r0, x1, x2⟩ := hp.ix hi
  have hT := hp.2 p (List.mem_of_getElem? hi)
  have hfind := find_run m ho hp (by omega) p.nm
  have hf' : (fixI p.nm ps == (i : Int)) = isFirst ps i p := rfl
  rw [L20_14_eq, x1, oB, faPg, oB, PL.name ho hi x2, oB]
  dsimp only
  rw [hfind, callP_ret, eqII, hf', oB]
  cases hf : isFirst ps i p with
  | false =>
   simp only [gTF, oB, cond_false, pickV_bool, ifK_bool]
   rw [Bool.not_false, Bool.true_or, if_pos rfl]
  | true =>
   simp only [gTT, oB, cond_true]
   rw [x1, oB, faPg, oB, PL.refs ho hi x2, oB]
   dsimp only
   rw [hT.len, oB]
   dsimp only
   rw [binV_ii, intsV_lss, Bool.not_true, Bool.false_or]
   cases rest with
   | nil =>
    rw [dec_ge (drop_end hj), oB, pickV_bool, cond_true, oB, ifK_bool, cond_false, List.all_nil, if_pos rfl]
   | cons a rest =>
    obtain ⟨hlt, hf2, hrest, hmem⟩ := drop_at hj
    obtain ⟨x, y1, y2⟩ := hT.ld ho (show p.refs[j]? = some a by rw [List.getElem?_eq_getElem hlt, hf2])
    have hfa := find_run m ho hp (by omega) a
    rw [dec_lt hlt, oB, pickV_bool, cond_true, oB, ifK_bool, cond_true, oB, PL.refs ho hi x2, oB]
    dsimp only
    rw [y1, oB, y2, oB]
    dsimp only
    rw [hfa, callP_ret, ltzI, oB, fixI_neg, ifK_bool, List.all_cons]
    by_cases h : a ∈ names ps
    · rw [decide_eq_true h, Bool.not_true, cond_false, binV_ii, intsV_add, wrap_succ (by omega), oB, L14_spec (m := m) (N := N) ho hp hlen hi hrl nk ek rest (j + 1) q hrest (by simp at hq; omega), hf, Bool.not_true, Bool.false_or, Bool.true_and]
    · rw [decide_eq_false h, Bool.not_false, cond_true, Bool.false_and, if_neg (by simp)]
theorem L20_spec {m : Nat} (ho : S.on = false) {v0 : V} {ps : List Pth} (hp : PL S v0 ps) (hlen : ps.length < 1000) (hrl : ∀ p ∈ ps, p.refs.length < 1000) (nk : Ac → St → Rs) (ek : Nat → Ac → St → Rs) :
 ∀ (rest : List Pth) (i q : Nat), ps.drop i = rest → rest.length < q →
 L20_4 (ev E0 KD (m + 1)) rounds nk ek q v0 (.int .i64 (i : Int)) S = if clB ps i rest = true then ek 0 (fr 43 []) S else some (.ret (.bool false), S)
 | rest, i, 0, _, hq => by omega
 | [], i, q + 1, hi, hq => by
  rw [L20_4_eq, hp.len, oB]
  dsimp only
  rw [binV_ii, intsV_lss, dec_ge (drop_end hi), oB, ifK_bool, cond_false]
  rfl
 | p :: rest, i, q + 1, hi, hq => by
  obtain ⟨hlt, hf, hrest, hmem⟩ := drop_at hi
  have hpi : ps[i]? = some p := by rw [List.getElem?_eq_getElem hlt, hf]
  have h14 := L14_spec (m := m) (N := rounds) ho hp hlen hpi (hrl p hmem) (R20_9 (ev E0 KD (m + 1)) rounds (N20_4 (ev E0 KD (m + 1)) rounds nk ek q) ek) (exB 2 (R20_9 (ev E0 KD (m + 1)) rounds (N20_4 (ev E0 KD (m + 1)) rounds nk ek q) ek) (exB 1 (R20_9 (ev E0 KD (m + 1)) rounds (N20_4 (ev E0 KD (m + 1)) rounds nk ek q) ek) ek)) p.refs 0 rounds rfl (by have := hrl p hmem; unfold rounds; omega)
  rw [L20_4_eq, hp.len, oB]
  dsimp only
  rw [binV_ii, intsV_lss, dec_lt hlt, oB, ifK_bool, cond_true, show (V.int .i64 0) = .int .i64 ((0 : Nat) : Int) from rfl, h14]
  unfold clB
  show (if okP ps i p = true then _ else _) = _
  by_cases h : okP ps i p = true
  · rw [if_pos h, h, Bool.true_and, exB_same, R20_9_eq, binV_ii, intsV_add, wrap_succ (by omega), oB, N20_4_eq, L20_spec ho hp hlen hrl nk ek rest (i + 1) q hrest (by simp at hq; omega)]
  · rw [if_neg h, if_neg (by simp [h])]
theorem refClosed_run (m : Nat) (ho : S.on = false) {v0 : V} {ps : List Pth} (hp : PL S v0 ps) (hF : Fit ps) : (ev E0 KD (m + 2)).f 20 [v0] S = some (.ret (.bool (closedB (refsOf ps))), S) := rd20 (by
 have hlen := hF.len
 show F20 (ev E0 KD (m + 1)) rounds v0 S = _
 rw [F20_eq, show (V.int .i64 0) = .int .i64 ((0 : Nat) : Int) from rfl, L20_spec ho hp hlen hF.refs _ _ ps 0 rounds rfl (by unfold rounds; omega), clB_eq]
 cases h : closedB (refsOf ps) with
 | true => rw [if_pos rfl, exB_same, R20_1_eq]
 | false => rw [if_neg (by simp)])
theorem L24_spec {m N : Nat} (ho : X.on = false) {v0 : V} {ps : List Pth} (hp : PL X v0 ps) (hlen : ps.length < 1000) (hrl : ∀ p ∈ ps, p.refs.length < 1000) (path : Bs) (nk : Ac → St → Rs) (ek : Nat → Ac → St → Rs) :
 ∀ (rest : List Pth) (i q : Nat) (v5 : V) (acc : List Bs) (U : St), ps.drop i = rest → rest.length < q → Grew (fun _ => False) X U → TLo U v5 acc X.next → acc.length + rest.length < 4000 →
 ∃ w T, L24_6 (ev E0 KD (m + 1)) N nk ek q v0 (sv path) v5 (.int .i64 (i : Int)) U = ek 0 (fr 48 [(5, w)]) T ∧ TLo T w (rfB ps path i acc rest) X.next ∧ Grew (fun _ => False) X T
 | rest, i, 0, v5, acc, U, _, hq, _, _, _ => by omega
 | [], i, q + 1, v5, acc, U, hi, hq, g, ht, hb => by
  refine ⟨v5, U, ?_, ht, g⟩
  rw [L24_6_eq, (hp.grew g).len, oB]
  dsimp only
  rw [binV_ii, intsV_lss, dec_ge (drop_end hi), oB, ifK_bool, cond_false]
 | p :: rest, i, q + 1, v5, acc, U, hi, hq, g, ht, hb => by
  have onU := g.on.trans ho
  obtain ⟨hlt, hf', hrest, hmem⟩ := drop_at hi
  have hpi : ps[i]? = some p := by rw [List.getElem?_eq_getElem hlt, hf']
  have hpU := hp.grew g
  obtain ⟨r0, x1, x2⟩ := hpU.ix hpi
  have hnm := PL.name onU hpi x2
  have hfind := find_run m onU hpU (by omega) p.nm
  rw [List.length_cons] at hb
  have hadd : binV E0 .add 3 false true (.int .i64 (i : Int)) (.int .i64 1) = some (.int .i64 ((i + 1 : Nat) : Int)) := by
   rw [binV_ii, intsV_add, wrap_succ (by omega)]
  have hf'' : (fixI p.nm ps == (i : Int)) = isFirst ps i p := rfl
  have hskip : rfP ps path i p = false → ∃ w T, L24_6 (ev E0 KD (m + 1)) N nk ek q v0 (sv path) v5 (.int .i64 ((i + 1 : Nat) : Int)) U = ek 0 (fr 48 [(5, w)]) T ∧ TLo T w (rfB ps path i acc (p :: rest)) X.next ∧ Grew (fun _ => False) X T := fun h => by
   show ∃ w T, _ ∧ TLo T w (rfB ps path (i + 1) (if rfP ps path i p then putB p.nm acc else acc) rest) X.next ∧ _
   rw [h, if_neg (by simp)]
   exact L24_spec ho hp hlen hrl path nk ek rest (i + 1) q v5 acc U hrest (by simp at hq; omega) g ht (by omega)
  rw [L24_6_eq, hpU.len, oB]
  dsimp only
  rw [binV_ii, intsV_lss, dec_lt hlt, oB, ifK_bool, cond_true, x1, oB, faPg, oB, hnm, oB]
  dsimp only
  rw [hfind, callP_ret, eqII, hf'', oB]
  cases hf : isFirst ps i p with
  | false =>
   simp only [gTF, oB, cond_false, pickV_bool, ifK_bool, hadd]
   exact hskip (by unfold rfP; rw [hf]; rfl)
  | true =>
   simp only [gTT, oB, cond_true]
   rw [x1, oB, faPg, oB, hnm, oB]
   dsimp only
   rw [neStr, oB]
   cases hpath : (p.nm == path) with
   | true =>
    simp only [Bool.not_true, gTF, oB, cond_false, cond_true, pickV_bool, ifK_bool, hadd]
    exact hskip (by unfold rfP; rw [hf, hpath]; rfl)
   | false =>
    simp only [Bool.not_false, pickV_bool, gTT, oB, cond_true]
    rw [x1, oB, faPg, oB, PL.refs onU hpi x2, oB]
    dsimp only
    rw [hasR_run m onU (hpU.2 p hmem) (by have := hrl p hmem; omega), callP_ret, ifK_bool]
    cases hh : decide (path ∈ p.refs) with
    | false =>
     rw [cond_false, hadd, oB]
     exact hskip (by unfold rfP; rw [hf, hpath, hh]; rfl)
    | true =>
     obtain ⟨w, V1, a1, a2, a3⟩ := put_run m onU ht g.next (by omega) p.nm
     have hon : rfP ps path i p = true := by unfold rfP; rw [hf, hpath, hh]; rfl
     rw [cond_true, hnm, oB]
     dsimp only
     rw [a1, callP_ret, hadd, oB]
     show ∃ w T, _ ∧ TLo T w (rfB ps path (i + 1) (if rfP ps path i p then putB p.nm acc else acc) rest) X.next ∧ _
     rw [hon, if_pos rfl]
     exact L24_spec ho hp hlen hrl path nk ek rest (i + 1) q w (putB p.nm acc) V1 hrest (by simp at hq; omega) (g.trans a3) a2 (by have := putB_len p.nm acc; omega)
theorem refRefer_run (m : Nat) (ho : X.on = false) {v0 : V} {ps : List Pth} (hp : PL X v0 ps) (hF : Fit ps) (path : Bs) : ∃ w T, (ev E0 KD (m + 2)).f 24 [v0, sv path] X = some (.ret w, T) ∧ TLo T w (referL ps path) X.next ∧ Grew (fun _ => False) X T := by
 have hlen := hF.len
 obtain ⟨w, T, t1, t2, t3⟩ := L24_spec (m := m) (N := rounds) ho hp hlen hF.refs path (R24_2 (ev E0 KD (m + 1)) rounds (finN E0 (ev E0 KD (m + 1)) Try.f24) noEx) (exB 0 (R24_2 (ev E0 KD (m + 1)) rounds (finN E0 (ev E0 KD (m + 1)) Try.f24) noEx) noEx) ps 0 rounds .nilslice [] X rfl (by unfold rounds; omega) (Grew.refl _ _) .nil (by simp; omega)
 rw [rfB_eq] at t2
 refine ⟨w, T, rd24 ?_, t2, t3⟩
 show F24 (ev E0 KD (m + 1)) rounds v0 (sv path) X = _
 rw [F24_eq, show (V.int .i64 0) = .int .i64 ((0 : Nat) : Int) from rfl, t1, exB_same, R24_2_eq]
end
end Go.Proofs.Ytginkdeicmdmaaa.W
