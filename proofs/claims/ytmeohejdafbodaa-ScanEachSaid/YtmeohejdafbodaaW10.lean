/-
  WHAT THE FUNCTIONS COME TO: each is read by the evaluator, printed, and told as a function of data, part 10 of 12 (no condition).
-/
import Derived.Test.YtmeohejdafbodaaW9
namespace Go.Proofs.Ytmeohejdafbodaa.W
open Go.Proofs.Ytmeohejdafbodaa.Ev Go.RowKit
section
variable {S T U X : St}
theorem min40 (n : Nat) (S : St) : qhg minV (.int .i64 (n : Int)) [(.int .i64 40)] S = some (.int .i64 ((min n 40 : Nat) : Int), S) := by
 rw [qo8]
 congr 3
 omega
theorem bx_st5 (ho : S.on = false) {b e i : Nat} {l m : List V} {v : V} (h : Bx S b e l) (hl : l.length = 5) (hm : m.length = 5) (hi : i < 5) (hset : (Tr.ofListFrom .nil l 0).set v i = Tr.ofListFrom .nil m 0) (hv : OneV v) :
 stP 1 (.ptr b i) v S = some (.tuple [], S.put b (bxO e m)) := by
 obtain ⟨h1, h2, h3, _⟩ := hv;show vu (bif Nat.beq v.size 1 && !qa8 v then stK S b i 1 v.cells else none) = _;rw [h1, h2, h3]
 have hst : stK S b i 1 (Ev.one v) = some (S.put b (bxO e m)) := by
  unfold stK;rw [h, hl];simp only [ble_true.2 (show i + 1<=5 * 1 by omega), blt_true.2 (show 5 * 1 < big by unfold big; decide), Bool.and_self, nF, cT];unfold qe6;rw [show Nat.beq 1 5 = false from rfl];have hv0 : (Ev.one v).get 0 = some v := rfl;simp only [Bool.false_and, cF, qhd, Tr.setC_eq, hv0, oB, Nat.add_zero, Nat.div_eq_of_lt hi, Nat.mod_eq_of_lt hi];rw [Tr.get_ofList];simp only [List.getElem?_cons_zero, oB, hset, set_one, qai ho];unfold bxO;rw [hm]
 rw [hst]; rfl
theorem set5_4 (a b c d e v : V) : (Tr.ofListFrom .nil [a, b, c, d, e] 0).set v 4 = Tr.ofListFrom .nil [a, b, c, d, v] 0 := by kernel_rfl
theorem bx_putO (x e : Nat) (l : List V) : Bx (S.put x (bxO e l)) x e l := by
 show (S.put x (bxO e l)).heap.get x = some (bxO e l);rw [qby, iP rfl]
def topN (l : List Nd) : Nd := .mk [] 2 false [] l
theorem NodeR.setKids {b : Nat} {l m : List Nd} {kv kv' : V} (h : NodeR S b (topN l) kv) (hv : OneV kv') : ∃ U, stP 1 (.ptr b 4) kv' S = some (.tuple [], U)/\NodeR U b (topN m) kv'/\Grew (fun y => y = b) S U/\U.next = S.next := by
 have g : Grew (fun y => y = b) S (S.put b (bxO 24 (qjs (topN m) kv'))) := qb2 _ _;exact ⟨_, bx_st5 h.on h.bx rfl rfl (by decide) (set5_4 _ _ _ _ _ _) hv, ⟨g.on.trans h.on, bx_putO _ _ _⟩, g, rfl⟩
end
section
variable {S T U X : St} {ab wr N0 : Nat} {kv v5 : V} {hs ks : List Bs} {ps : List Nd}
def ltr (k : Nat) : Bs := [UInt8.ofNat (97 + k)]
theorem ltr_nat {k : Nat} (h : k < 100) : (UInt8.ofNat (97 + k)).toNat = 97 + k := by
 rw [UInt8.toNat_ofNat'];omega
theorem und34 : und E0 34 = some (.slice 5) := by kernel_rfl
theorem conv_row (ho : S.on = false) {r : Nat} {b : UInt8} (h : RowAt S r 5 1 ([b].map qdd)) : qaz E0 34 9 (.slice r 0 1 1) S = some (sv [b], S) :=
 convert_row ho und34 und5 und9 h (off := 0) (len := 1) (cap := 1) (by simp)
theorem letter_parts (ho : S.on = false) {k : Nat} (hk : k < 100) : ∃ W, Grew (fun _ => False) S W/\cvI .u8 (.int .i64 (k : Int)) S = some (.int .u8 (k : Int), S) /\
 ∃ t y, qa4 E0 .add 5 true false (.int .u8 97) (.int .u8 (k : Int)) = some t/\bsP 5 1 1 (Ev.one (.int .u8 0)) [(0, t)] S = some (y, W)/\qaz E0 34 9 y W = some (sv (ltr k), W) := by
 obtain ⟨W, w1, w2, w3, w4⟩ := bsP_byte ho 5 (UInt8.ofNat (97 + k));refine ⟨W, w3, ?_, _, _, ?_, w1, conv_row (w3.on.trans ho) w2⟩
 . rw [cvI_int, wrap_u8 (by omega) (by omega)]
 . rw [binV_ii, intsV_add, wrap_u8 (by omega) (by omega), show ((97 : Int) + (k : Int)) = ((UInt8.ofNat (97 + k)).toNat : Int) from by rw [ltr_nat hk]; omega]
end
section
variable {S T U X : St} {ab wr N0 : Nat} {kv v5 : V} {hs ks : List Bs} {ps : List Nd}
theorem faP0 (b : Nat) : faP 0 false 1 (.ptr b 0) = some (.ptr b 0) := by rw [show (1 : Nat) = 0 + 1 from rfl, faP_ptr]
end
section
variable {S T U X : St} {ab wr N0 : Nat} {kv v5 : V} {hs ks : List Bs} {ps : List Nd}
theorem true_run (n : Nat) (S : St) : (ev E0 KD (n + 1)).f 10 [] S = some (.ret (.bool true), S) := by rw [qaq kd10, kfTrue_run]
theorem build24 : qey E0 24 [(1, (.int .i64 2))] = some (qmc (qjs (topN []) .nilslice)) := by kernel_rfl
end
section
variable {H : Type} {enc : TypeId × Value->H} {W : World}
end
theorem rd84 {n : Nat} {args : List V} {s : St} {r : En × St} (e : qbu E0 (ev E0 KD n) qa1 Try.f84 B84 args s = some r) : (ev E0 KD (n + 1)).f 84 args s = some r := qar (c := C84) (d := B84) (by kernel_rfl) (by kernel_rfl) (qa3 C84 _ (by kernel_rfl)) rfl e
theorem rd85 {n : Nat} {args : List V} {s : St} {r : En × St} (e : qbu E0 (ev E0 KD n) qa1 Try.f85 B85 args s = some r) : (ev E0 KD (n + 1)).f 85 args s = some r := qar (c := C85) (d := B85) (by kernel_rfl) (by kernel_rfl) (qa3 C85 _ (by kernel_rfl)) rfl e
section
variable {S T U : St}
theorem qnc (c d : Bool) (a b : Int) : ∃ r, qa4 E0 .add 70 c d (.int .u32 a) (.int .u32 b) = some (.int .u32 r) := ⟨_, rfl⟩
theorem and32 (c d : Bool) (a b : Int) : ∃ r, qa4 E0 .and 70 c d (.int .u32 a) (.int .u32 b) = some (.int .u32 r) := ⟨_, rfl⟩
theorem xor32 (c d : Bool) (a b : Int) : ∃ r, qa4 E0 .xor 70 c d (.int .u32 a) (.int .u32 b) = some (.int .u32 r) := ⟨_, rfl⟩
theorem or32 (c d : Bool) (a b : Int) : ∃ r, qa4 E0 .or 70 c d (.int .u32 a) (.int .u32 b) = some (.int .u32 r) := ⟨_, rfl⟩
theorem not32 (a : Int) : ∃ r, unV .xor (.int .u32 a) = some (.int .u32 r) := ⟨_, rfl⟩
theorem shr32 (c d : Bool) (a : Int) (n : Nat) : ∃ r, qa4 E0 .shr 70 c d (.int .u32 a) (.int .u64 (n : Int)) = some (.int .u32 r) := ⟨_, rfl⟩
theorem shl32 (c d : Bool) (a : Int) (n : Nat) : ∃ r, qa4 E0 .shl 70 c d (.int .u32 a) (.int .u64 (n : Int)) = some (.int .u32 r) := ⟨_, rfl⟩
theorem and31 (c d : Bool) (a : Int) : ∃ n : Nat, n<=31/\qa4 E0 .and 56 c d (.int .u64 a) (.int .u64 31) = some (.int .u64 (n : Int)) := by
 have hle : Nat.land (qf7 .u64 a) 31<=31 := Nat.and_le_right;refine ⟨Nat.land (qf7 .u64 a) 31, hle, ?_⟩;show some (V.int .u64 (qin .u64 (Nat.land (qf7 .u64 a) (qf7 .u64 31)))) = _;rw [show qf7 .u64 31 = 31 from rfl];unfold qin;rw [show Nat.blt (Nat.land (qf7 .u64 a) 31) (qdf .u64) = true from blt_true.2 (by show _ < 18446744073709551616; omega)];rfl
theorem sub32 (c d : Bool) {n : Nat} (h : n<=31) : qa4 E0 .sub 56 c d (.int .u64 32) (.int .u64 (n : Int)) = some (.int .u64 ((32 - n : Nat) : Int)) := by
 rw [binV_ii, intsV_sub];have : ((32 : Int) - (n : Int)) = ((32 - n : Nat) : Int) := by omega
 rw [this]
 congr 2
 rw [<- qb7];show (bif Nat.blt (32 - n) (qdf .u64) then Int.ofNat (32 - n) else _) = _;rw [blt_true.2 (show 32 - n < qdf .u64 by show _ < 18446744073709551616; omega)]; rfl
theorem f85_run (m : Nat) (a k : Int) (S : St) : ∃ r, (ev E0 KD (m + 1)).f 85 [.int .u32 a, .int .i64 k] S = some (.ret (.int .u32 r), S) := by
 obtain ⟨n, hn, h1⟩ := and31 false true (IntKind.u64.wrap k);obtain ⟨r1, h2⟩ := shl32 false false a n;obtain ⟨r2, h3⟩ := shr32 false false a (32 - n);obtain ⟨r3, h4⟩ := or32 false false r1 r2;refine ⟨r3, rd85 ?_⟩;show F85 (ev E0 KD m) qa1 _ _ S = _;rw [F85_eq, cvI_int, oB];dsimp only;rw [h1, oB, h2, oB, sub32 true false hn, oB, h3, oB, h4, oB]
theorem L84_spec {m N : Nat} (nk : Ac->St->Rs) (ek : Nat->Ac->St->Rs) (ho : S.on = false) (x : Int) {r c : Nat} {l : List Int} (hr : RowAt S r 3 1 (l.map fun n => Ev.one (.int .i64 n))) (hl : l.length < 1000) :
 ∀ (rest : List Int) (i q : Nat) (y : Int) (L : List LE), l.drop i = rest->rest.length < q->(∀ e ∈ L, e.w = false/\e.b = r) ->
 ∃ y' L', L84_7 (ev E0 KD (m + 1)) N nk ek q (.int .u32 x) (.int .u32 y) (.slice r 0 l.length c) (.int .i64 (l.length : Int)) (.int .i64 (i : Int)) (S.lg L) = ek 0 (fr 21 [(4, .int .u32 y')]) (S.lg L')/\∀ e ∈ L', e.w = false/\e.b = r
 | _, _, 0, _, _, _, hq, _ => by omega
 | [], i, q + 1, y, L, hi, hq, hL => by
  refine ⟨y, L, ?_, hL⟩;rw [L84_7_eq, lssN, dF (Nat.not_lt.2 (qbm hi)), oB, ifK_bool, cF]
 | n :: rest, i, q + 1, y, L, hi, hq, hL => by
  obtain ⟨hil, hf, hrest, hmem⟩ := qcn hi
  have hix : ixP 1 (.slice r 0 l.length c) (.int .i64 (i : Int)) = some (.ptr r i) := by
   show (bif Nat.blt i l.length then some (V.ptr r (0 + i * 1)) else none) = _;rw [blt_true.2 hil, cT, Nat.zero_add, Nat.mul_one]
  have hld : ld1 (.ptr r i) S = some (.int .i64 n, S) := hr.ld1 ho (by rw [List.getElem?_map, List.getElem?_eq_getElem hil, hf]; rfl);have hld' := ld1_lg ho hld L;obtain ⟨r1, h1⟩ := f85_run m x (IntKind.i64.wrap (0 - n)) (S.lg (⟨r, i, i + 1, false⟩ :: L));obtain ⟨r2, h2⟩ := xor32 false false y r1
  obtain ⟨y', L', k1, k2⟩ := L84_spec (m := m) (N := N) nk ek ho x hr hl rest (i + 1) q r2 (⟨r, i, i + 1, false⟩ :: L) hrest (by simpa using hq) (fun e he => by
   rcases List.mem_cons.1 he with rfl | he
   . exact ⟨rfl, rfl⟩
   . exact hL e he)
  refine ⟨y', L', ?_, k2⟩;rw [L84_7_eq, lssN, dT hil, oB, ifK_bool, cT, hix, oB, hld', oB];dsimp only;rw [show unV .neg (.int .i64 n) = some (.int .i64 (IntKind.i64.wrap (0 - n))) from by show some (V.int .i64 (qjl .i64 (0 - n))) = _; rw [qb7], oB, h1, callP_ret, h2, oB, qgp (by omega), oB, k1]
theorem f84_run (m : Nat) (ho : S.on = false) (x : Int) {r c : Nat} {l : List Int} (hr : RowAt S r 3 1 (l.map fun n => Ev.one (.int .i64 n))) (hl : l.length < 1000) : ∃ y L, (ev E0 KD (m + 2)).f 84 [.int .u32 x, .slice r 0 l.length c] (S.lg []) = some (.ret (.int .u32 y), S.lg L)/\∀ e ∈ L, e.w = false/\e.b = r := by
 obtain ⟨y, L, h1, h2⟩ := L84_spec (m := m) (N := qa1) (c := c) (R84_1 (ev E0 KD (m + 1)) qa1 (qak E0 (ev E0 KD (m + 1)) Try.f84) qa9) (exB 0 (R84_1 (ev E0 KD (m + 1)) qa1 (qak E0 (ev E0 KD (m + 1)) Try.f84) qa9) qa9) ho x hr hl l 0 qa1 0 [] rfl (by unfold qa1; omega) (fun e he => by cases he);refine ⟨y, L, rd84 ?_, h2⟩;show F84 (ev E0 KD (m + 1)) qa1 _ _ (S.lg []) = _;rw [F84_eq, qk6 (n := l.length) (fun _ _ e => by cases e) rfl, oB];dsimp only;rw [show V.int .i64 0 = .int .i64 ((0 : Nat) : Int) from rfl, h1, exB_same, R84_1_eq]
end
def TagOk (r1 r2 : Nat) : Nat->LE->Prop
 | 1, e => e.w = false/\e.b ≠ r1/\e.b ≠ r2
 | 2, e => e.b = r1
 | 3, e => e.b = r2
 | 4, _ => True
 | _, _ => False
def Tags (r1 r2 : Nat) : List (List LE)->List Nat->Prop
 | [], _ => True
 | L :: ls, [] => (∀ e ∈ L, False)/\Tags r1 r2 ls []
 | L :: ls, k :: ks => (∀ e ∈ L, TagOk r1 r2 k e)/\Tags r1 r2 ls ks
def tagAt (i : Nat) : List Nat->Nat
 | [] => 0
 | k :: ks => if i = 0 then k else tagAt (i - 1) ks
theorem tags_at {r1 r2 : Nat} : ∀ {logs : List (List LE)} {tags : List Nat} (i : Nat), Tags r1 r2 logs tags->∀ e ∈ qf2 i logs, TagOk r1 r2 (tagAt i tags) e
 | [], _, _, _, _, h => by cases h
 | L :: ls, [], i, hT, e, h => by
  unfold qf2 at h;cases hi : Nat.beq i 0 with
  | true =>
   rw [hi] at h;exact (hT.1 e h).elim
  | false =>
   rw [hi] at h;have := tags_at (i - 1) hT.2 e h;exact this
 | L :: ls, k :: ks, i, hT, e, h => by
  unfold qf2 at h;unfold tagAt;cases hi : Nat.beq i 0 with
  | true =>
   rw [hi] at h;rw [iP (Nat.eq_of_beq_eq_true hi)];exact hT.1 e h
  | false =>
   rw [hi] at h;rw [iN (fun q => by rw [q] at hi; cases hi)];exact tags_at (i - 1) hT.2 e h
def compat (a b : Nat) : Bool := (a == 0 || b == 0) || (a != 4 && b != 4 && ((a == 1 && b == 1) || a != b))
theorem compat_ok {r1 r2 a b : Nat} (hr : r1 ≠ r2) (h : compat a b = true) {e f : LE} (he : TagOk r1 r2 a e) (hf : TagOk r1 r2 b f) : e.b ≠ f.b\/(e.w = false/\f.w = false) := by
 by_cases h4 : a = 4
 . subst h4
   match b, hf with
   | 1, _ => cases h
   | 2, _ => cases h
   | 3, _ => cases h
   | 4, _ => cases h
 by_cases k4 : b = 4
 . subst k4
   match a, he with
   | 1, _ => cases h
   | 2, _ => cases h
   | 3, _ => cases h
   | 4, _ => cases h
 match a, b, he, hf with
 | 1, 1, he, hf => exact .inr ⟨he.1, hf.1⟩
 | 1, 2, he, hf => exact .inl fun q => he.2.1 (q.trans hf)
 | 1, 3, he, hf => exact .inl fun q => he.2.2 (q.trans hf)
 | 2, 1, he, hf => exact .inl fun q => hf.2.1 (q.symm.trans he)
 | 3, 1, he, hf => exact .inl fun q => hf.2.2 (q.symm.trans he)
 | 2, 3, he, hf => exact .inl fun q => hr ((Eq.symm he).trans (q.trans hf))
 | 3, 2, he, hf => exact .inl fun q => hr ((Eq.symm hf).trans (q.symm.trans he))
 | 4, _, _, _ => exact (h4 rfl).elim
 | 1, 4, _, _ => exact (k4 rfl).elim
 | 2, 4, _, _ => exact (k4 rfl).elim
 | 3, 4, _, _ => exact (k4 rfl).elim
 | 2, 2, _, _ => cases h
 | 3, 3, _, _ => cases h
theorem qnt {x : List LE} {logs : List (List LE)} : ∀ {js : List Nat}, (∀ j ∈ js, qed x (qf2 j logs) = false)->qdn x logs js = false
 | [], _ => rfl
 | j :: js, h => by
  unfold qdn;rw [h j (List.mem_cons_self ..)];exact qnt fun k hk => h k (mO _ hk)
theorem qg8 {r1 r2 : Nat} (hr : r1 ≠ r2) {logs : List (List LE)} {tags : List Nat} (hT : Tags r1 r2 logs tags) : ∀ {prs : List (Nat × List Nat)}, (prs.all fun p => p.2.all fun j => compat (tagAt p.1 tags) (tagAt j tags)) = true->qav logs prs = true
 | [], _ => rfl
 | (i, js) :: l, h => by
  rw [List.all_cons, bA] at h;unfold qav;rw [qnt fun j hj => clash_or fun e he f hf => compat_ok hr (List.all_eq_true.1 h.1 j hj) (tags_at i hT e he) (tags_at j hT f hf)];exact qg8 hr hT h.2
section
variable {S T U : St}
def Arr (S : St) (b e z : Nat) : Prop := S.on = false/\∃ t, AgAt S b e z t/\∀ i, i < z->∃ n : Int, t.get i = some (.int .u32 n)
def AggV (z : Nat) (v : V) : Prop := ∃ t, v = .agg z t/\∀ i, i < z->∃ n : Int, t.get i = some (.int .u32 n)
theorem Arr.grew {W : Nat->Prop} {b e z : Nat} (h : Arr S b e z) (hb : b < S.next) (hw : ¬ W b) (g : Grew W S T) : Arr T b e z := by
 obtain ⟨ho, t, h1, h2⟩ := h;exact ⟨g.on.trans ho, t, h1.grew hb hw g, h2⟩
theorem Arr.ld {b e z i : Nat} (h : Arr S b e z) (hz : z < big) (hi : i < z) : ∃ n : Int, ld1 (.ptr b i) S = some (.int .u32 n, S) := by
 obtain ⟨ho, t, h1, h2⟩ := h;obtain ⟨n, hn⟩ := h2 i hi;exact ⟨n, h1.ld1 ho hz hi hn⟩
theorem Arr.ldOn {b e z i : Nat} (h : Arr S b e z) (hz : z < big) (hi : i < z) (L : List LE) : ∃ n : Int, ld1 (.ptr b i) (S.lg L) = some (.int .u32 n, S.lg (⟨b, i, i + 1, false⟩ :: L)) := by
 obtain ⟨n, hn⟩ := h.ld hz hi;exact ⟨n, ld1_lg h.1 hn L⟩
theorem Arr.st {b e z i : Nat} (h : Arr S b e z) (hz : z < big) (h1z : 1 < z) (hi : i < z) (n : Int) : ∃ U, stP 1 (.ptr b i) (.int .u32 n) S = some (.tuple [], U)/\Arr U b e z/\Grew (fun x => x = b) S U/\U.next = S.next := by
 obtain ⟨ho, t, h1, h2⟩ := h;obtain ⟨w, k1, k2, k3, k4⟩ := h1.st1 ho hz h1z hi (.int .u32 n) rfl rfl rfl;refine ⟨w, k1, ⟨k3.on.trans ho, _, k2, fun j hj => ?_⟩, k3, k4⟩;rw [Tr.get_set];by_cases e : j = i
 . exact ⟨n, by rw [iP e]⟩
 . rw [iN e]; exact h2 j hj
theorem Arr.all {b e z : Nat} (h : Arr S b e z) (hz : z < big) : ∃ v, ldA z (.ptr b 0) S = some (v, S)/\ldrA z (.ptr b 0) S = some (v, S)/\AggV z v := by
 obtain ⟨ho, t, h1, h2⟩ := h;exact ⟨_, h1.ldA ho hz, h1.ldrA ho hz, t, rfl, h2⟩
theorem Arr.put {b e z : Nat} (h : Arr S b e z) (hz : z < big) {v : V} (hv : AggV z v) : ∃ U, stP z (.ptr b 0) v S = some (.tuple [], U)/\Arr U b e z/\Grew (fun x => x = b) S U/\U.next = S.next := by
 obtain ⟨ho, t, h1, h2⟩ := h;obtain ⟨u, rfl, hu⟩ := hv;obtain ⟨w, k1, k2, k3, k4⟩ := h1.stA ho hz u;exact ⟨w, k1, ⟨k3.on.trans ho, u, k2, hu⟩, k3, k4⟩
theorem Arr.newOf (ho : S.on = false) (e z : Nat) {t : Tr V} (h : ∀ i, i < z->∃ n : Int, t.get i = some (.int .u32 n)) : Arr (nwP e z t S).2 S.next e z/\Grew (fun _ => False) S (nwP e z t S).2/\(nwP e z t S).2.next = S.next + 1 := by
 obtain ⟨h1, h2, h3⟩ := qne ho e z t;exact ⟨⟨h2.on.trans ho, t, h1, h⟩, h2, h3⟩
theorem qnj : 64 < big := by unfold big; decide
theorem qjq : 8 < big := by unfold big; decide
theorem ixAr {z b i : Nat} (h : i < z) : ixA z 1 false 1 (.ptr b 0) (.int .i64 (i : Int)) = some (.ptr b i) := by
 show (bif Nat.blt i z then some (V.ptr b (0 + i * 1)) else none) = _;rw [blt_true.2 h, cT, Nat.zero_add, Nat.mul_one]
def Blk (S : St) (v : V) : Prop := ∃ (r : Nat) (bs : Bs), v = .oslice r 0 64 1/\RowAt S r 5 1 (bs.map qdd)/\64<=bs.length/\r < S.next
theorem Blk.grew {W : Nat->Prop} {v : V} (h : Blk S v) (hw : ∀ r, v = .oslice r 0 64 1->¬ W r) (g : Grew W S T) : Blk T v := by
 obtain ⟨r, bs, h1, h2, h3, h4⟩ := h;exact ⟨r, bs, h1, h2.grew h4 (hw r h1) g, h3, Nat.lt_of_lt_of_le h4 g.next⟩
theorem Blk.ld {v : V} (h : Blk S v) (ho : S.on = false) {i : Nat} (hi : i < 64) (L : List LE) : ∃ p r n, ixP 1 v (.int .i64 (i : Int)) = some p/\ld1 p (S.lg L) = some (.int .u8 n, S.lg (⟨r, i, i + 1, false⟩ :: L)) := by
 obtain ⟨r, bs, rfl, h2, h3, h4⟩ := h;have hx : (bs.map qdd)[i]? = some (qdd bs[i]) := by rw [List.getElem?_map, List.getElem?_eq_getElem (by omega)]; rfl
 refine ⟨.ptr r i, r, (bs[i].toNat : Int), ?_, ld1_lg ho (show ld1 (.ptr r i) S = _ from h2.ld1 ho hx) L⟩;show (bif Nat.blt i 64 then some (V.ptr r (0 + i * 1)) else none) = _;rw [blt_true.2 hi, cT, Nat.zero_add, Nat.mul_one]
theorem mul4 {i : Nat} (h : i < 1000) : qa4 E0 .mul 3 true false (.int .i64 4) (.int .i64 (i : Int)) = some (.int .i64 ((4 * i : Nat) : Int)) := by
 rw [binV_ii, intsV_mul, show ((4 : Int) * (i : Int)) = ((4 * i : Nat) : Int) by omega, qb8 (by omega) (by omega)]
theorem addC {i : Nat} (k : Nat) (h : i < 100000) (hk : k < 1000) : qa4 E0 .add 3 false true (.int .i64 (i : Int)) (.int .i64 (k : Int)) = some (.int .i64 ((i + k : Nat) : Int)) := by
 rw [binV_ii, intsV_add, show ((i : Int) + (k : Int)) = ((i + k : Nat) : Int) by omega, qb8 (by omega) (by omega)]
theorem subC {i : Nat} (k : Nat) (h : k<=i) (hi : i < 100000) : qa4 E0 .sub 3 false true (.int .i64 (i : Int)) (.int .i64 (k : Int)) = some (.int .i64 ((i - k : Nat) : Int)) := by
 rw [binV_ii, intsV_sub, show ((i : Int) - (k : Int)) = ((i - k : Nat) : Int) by omega, qb8 (by omega) (by omega)]
theorem cv32 (k : IntKind) (n : Int) (S : St) : ∃ r, cvI .u32 (.int k n) S = some (.int .u32 r, S) := ⟨_, cvI_int _ _ _⟩
end
section
variable {S T U : St}
def zz (S U : St) : St := { U with on := false, log := S.log }
theorem qhv (ho : S.on = false) (U : St) (l : List LE) (ls : List (List LE)) : qb3 S (U.lg l) ls = zz S U := by
 unfold qb3 zz;rw [ho]; rfl
theorem qof {W : Nat->Prop} (ho : S.on = false) (g : Grew W S U) : Grew W S (zz S U) := Grew.same g rfl rfl (by show false = U.on; rw [g.on, ho])
theorem grew_zz' (ho : S.on = false) (hU : U.on = false) : Grew (fun _ => False) U (zz S U) := Grew.same (Grew.refl _ _) rfl rfl (by show false = U.on; rw [hU])
theorem body84 : E0.ext.get 84 = none/\qb9 E0 84 = true := ⟨by kernel_rfl, by kernel_rfl⟩
theorem ints_one (l : List Int) : ∀ v ∈ l.map (V.int .i64), OneV v := fun v hv => by
 rw [List.mem_map] at hv;obtain ⟨n, _, rfl⟩ := hv;exact ⟨rfl, rfl, rfl, rfl⟩
theorem turn2 (m : Nat) (ho : S.on = false) (x a b : Int) : ∃ U y L, bsP 3 1 2 (Ev.one (.int .i64 0)) [(0, (.int .i64 a)), (1, (.int .i64 b))] (S.lg []) = some (.slice S.next 0 2 2, U.lg [⟨S.next, 0, big, true⟩]) /\
 qdl E0 (ev E0 KD (m + 2)) (.fn (.func 84) [] []) [.int .u32 x, .slice S.next 0 2 2] (U.lg []) = some (.ret (.int .u32 y), U.lg L)/\(∀ e ∈ L, e.b = S.next)/\Grew (fun _ => False) S U/\U.next = S.next + 1 := by
 obtain ⟨U, a1, a2, a3, a4⟩ := qme ho 3 (Ev.one (.int .i64 0)) ([a, b].map (V.int .i64)) (ints_one _) (by show 2 < big; unfold big; decide);rw [List.map_map] at a2;obtain ⟨y, L, h1, h2⟩ := f84_run m (a3.on.trans ho) x (c := 2) a2 (by show 2 < 1000; omega);refine ⟨U, y, L, a1 (some []), ?_, fun e he => (h2 e he).2, a3, a4⟩;rw [qdm body84.1 body84.2];exact h1
theorem turn3 (m : Nat) (ho : S.on = false) (x a b c : Int) : ∃ U y L, bsP 3 1 3 (Ev.one (.int .i64 0)) [(0, (.int .i64 a)), (1, (.int .i64 b)), (2, (.int .i64 c))] (S.lg []) = some (.slice S.next 0 3 3, U.lg [⟨S.next, 0, big, true⟩]) /\
 qdl E0 (ev E0 KD (m + 2)) (.fn (.func 84) [] []) [.int .u32 x, .slice S.next 0 3 3] (U.lg []) = some (.ret (.int .u32 y), U.lg L)/\(∀ e ∈ L, e.b = S.next)/\Grew (fun _ => False) S U/\U.next = S.next + 1 := by
 obtain ⟨U, a1, a2, a3, a4⟩ := qme ho 3 (Ev.one (.int .i64 0)) ([a, b, c].map (V.int .i64)) (ints_one _) (by show 3 < big; unfold big; decide);rw [List.map_map] at a2;obtain ⟨y, L, h1, h2⟩ := f84_run m (a3.on.trans ho) x (c := 3) a2 (by show 3 < 1000; omega);refine ⟨U, y, L, a1 (some []), ?_, fun e he => (h2 e he).2, a3, a4⟩;rw [qdm body84.1 body84.2];exact h1
theorem sixteen (i : Nat) : qa4 E0 .lss 3 false true (.int .i64 (i : Int)) (.int .i64 16) = some (.bool (decide (i < 16))) := by
 rw [show V.int .i64 16 = .int .i64 ((16 : Nat) : Int) from rfl, binV_ii, intsV_lss]
 congr 2
 simp;omega
theorem sixty (i : Nat) : qa4 E0 .lss 3 false true (.int .i64 (i : Int)) (.int .i64 64) = some (.bool (decide (i < 64))) := by
 rw [show V.int .i64 64 = .int .i64 ((64 : Nat) : Int) from rfl, binV_ii, intsV_lss]
 congr 2
 simp;omega
theorem step16 {m N wb : Nat} (hA : Arr S wb 73 64) (hw : wb < S.next) {v1 v2 v3 v6 v7 : V} (hb : Blk S v1) (nk : Ac->St->Rs) (ek : Nat->Ac->St->Rs) {i q : Nat} (hi : i < 16) :
 ∃ U, Arr U wb 73 64/\Grew (fun x => x = wb) S U/\qgc (ev E0 KD (m + 3)) N nk ek (q + 1) v1 v2 v3 v6 v7 (.ptr wb 0) (.int .i64 (i : Int)) S = qgc (ev E0 KD (m + 3)) N nk ek q v1 v2 v3 v6 v7 (.ptr wb 0) (.int .i64 ((i + 1 : Nat) : Int)) U := by
 have ho := hA.1;obtain ⟨p1, r, n1, a1, a2⟩ := hb.ld ho (i := 4 * i) (by omega) [];obtain ⟨p2, r2, n2, b1, b2⟩ := hb.ld ho (i := 4 * i + 1) (by omega) [];obtain ⟨p3, r3, n3, c1, c2⟩ := hb.ld ho (i := 4 * i + 2) (by omega) [];obtain ⟨p4, r4, n4, d1, d2⟩ := hb.ld ho (i := 4 * i + 3) (by omega) [];obtain ⟨w1, e1⟩ := cv32 .u8 n1 (S.lg []);obtain ⟨w2, e2⟩ := cv32 .u8 n2 (S.lg []);obtain ⟨w3, e3⟩ := cv32 .u8 n3 (S.lg []);obtain ⟨w4, e4⟩ := cv32 .u8 n4 (S.lg []);obtain ⟨x1, f1⟩ := shl32 false true w1 24;obtain ⟨x2, f2⟩ := shl32 false true w2 16;obtain ⟨x3, f3⟩ := shl32 false true w3 8;obtain ⟨y1, g1⟩ := or32 false false x1 x2;obtain ⟨y2, g2⟩ := or32 false false y1 x3;obtain ⟨y3, g3⟩ := or32 false false y2 w4;obtain ⟨U, k1, k2, k3, k4⟩ := hA.st qnj (by decide) (i := i) (by omega) y3;obtain ⟨l, k1'⟩ := stP_lg ho k1;refine ⟨zz S U, k2.grew (by omega) (fun h => h) (grew_zz' ho k2.1), qof ho k3, ?_⟩;rw [qkv, sixty, dT (by omega), oB, ifK_bool, cT, sixteen, dT hi, oB, ifK_bool, cT];rw [mul4 (by omega), oB, a1, oB];simp only [ons, qc4];rw [a2, oB];simp only [ons, qc4];rw [e1, oB, show V.int .u64 24 = .int .u64 ((24 : Nat) : Int) from rfl, f1, oB, oB, show V.int .i64 1 = .int .i64 ((1 : Nat) : Int) from rfl, addC 1 (by omega) (by omega), oB, b1, oB];simp only [ons, qc4];rw [b2, oB];simp only [ons, qc4];rw [e2, oB, show V.int .u64 16 = .int .u64 ((16 : Nat) : Int) from rfl, f2, oB, g1, oB, oB, show V.int .i64 2 = .int .i64 ((2 : Nat) : Int) from rfl, addC 2 (by omega) (by omega), oB, c1, oB]
 simp only [ons, qc4];rw [c2, oB];simp only [ons, qc4];rw [e3, oB, show V.int .u64 8 = .int .u64 ((8 : Nat) : Int) from rfl, f3, oB, g2, oB, oB, show V.int .i64 3 = .int .i64 ((3 : Nat) : Int) from rfl, addC 3 (by omega) (by omega), oB, d1, oB];simp only [ons, qc4];rw [d2, oB];simp only [ons, qc4];rw [e4, oB, g3, oB, ixAr (by omega), oB];simp only [ons, qc4];rw [k1', oB];dsimp only;rw [qcg ?_, qhv ho, addC 1 (by omega) (by omega), oB];refine qg8 (r1 := r + r2 + r3 + r4 + 1) (r2 := r + r2 + r3 + r4 + 2) (tags := [0, 0, 0, 0, 0, 1, 1, 0, 0, 0, 0, 0, 0, 1, 1, 0, 0, 0, 0, 0, 0, 0, 1, 1, 0, 0, 0, 0, 0, 0, 0, 1, 1, 0, 0, 4]) (by omega) ?_ (by decide)
 repeat' apply And.intro
 all_goals first
  | trivial
  | (intro e he; cases he; done)
  | (intro e he; cases List.mem_singleton.1 he; exact ⟨rfl, by dsimp only; omega, by dsimp only; omega⟩)
  | (intro e he; trivial)
end
section
variable {S T U : St}
theorem step48 {m N wb : Nat} (hA : Arr S wb 73 64) (hw : wb < S.next) {v1 v2 v3 v6 : V} (nk : Ac->St->Rs) (ek : Nat->Ac->St->Rs) {i q : Nat} (h16 : 16<=i) (hi : i < 64) :
 ∃ U, Arr U wb 73 64/\Grew (fun x => x = wb) S U/\qgc (ev E0 KD (m + 2)) N nk ek (q + 1) v1 v2 v3 v6 (.fn (.func 84) [] []) (.ptr wb 0) (.int .i64 (i : Int)) S = qgc (ev E0 KD (m + 2)) N nk ek q v1 v2 v3 v6 (.fn (.func 84) [] []) (.ptr wb 0) (.int .i64 ((i + 1 : Nat) : Int)) U := by
 have ho := hA.1;obtain ⟨n1, a1⟩ := hA.ldOn qnj (i := i - 16) (by omega) [];obtain ⟨n2, a2⟩ := hA.ldOn qnj (i := i - 15) (by omega) [];obtain ⟨U1, y1, L1, b1, b2, b3, b4, b5⟩ := turn2 m ho n2 7 18;have hA1 := hA.grew hw (fun h => h) b4;have on1 := hA1.1;obtain ⟨n3, a3⟩ := hA1.ldOn qnj (i := i - 15) (by omega) [];obtain ⟨x1, f1⟩ := shr32 false true n3 3;obtain ⟨x2, f2⟩ := xor32 false false y1 x1;obtain ⟨x3, f3⟩ := qnc false false n1 x2;obtain ⟨n4, a4⟩ := hA1.ldOn qnj (i := i - 7) (by omega) [];obtain ⟨x4, f4⟩ := qnc false false x3 n4;obtain ⟨n5, a5⟩ := hA1.ldOn qnj (i := i - 2) (by omega) [];obtain ⟨U2, y2, L2, c1, c2, c3, c4, c5⟩ := turn2 m on1 n5 17 19;have hA2 := hA1.grew (by omega) (fun h => h) c4;have on2 := hA2.1;obtain ⟨n6, a6⟩ := hA2.ldOn qnj (i := i - 2) (by omega) [];obtain ⟨x5, f5⟩ := shr32 false true n6 10;obtain ⟨x6, f6⟩ := xor32 false false y2 x5;obtain ⟨x7, f7⟩ := qnc false false x4 x6;obtain ⟨U, k1, k2, k3, k4⟩ := hA2.st qnj (by decide) (i := i) hi x7;obtain ⟨l, k1'⟩ := stP_lg on2 k1;have gU : Grew (fun x => x = wb) S U := (b4.mono fun _ _ h => h.elim).trans ((c4.mono fun _ _ h => h.elim).trans k3);have nU := k3.next
 refine ⟨zz S U, k2.grew (by omega) (fun h => h) (grew_zz' ho k2.1), qof ho gU, ?_⟩;rw [qkv, sixty, dT hi, oB, ifK_bool, cT, sixteen, dF (by omega), oB, ifK_bool, cF];rw [show V.int .i64 16 = .int .i64 ((16 : Nat) : Int) from rfl, subC 16 h16 (by omega), oB, ixAr (by omega), oB];simp only [ons, qc4];rw [a1, oB];simp only [ons, qc4];rw [show V.int .i64 15 = .int .i64 ((15 : Nat) : Int) from rfl, subC 15 (by omega) (by omega), oB, ixAr (by omega), oB, a2, oB];simp only [ons, qc4];rw [b1, oB];simp only [ons, qc4];rw [b2, qbg, oB, ixAr (by omega), oB];simp only [ons, qc4];rw [a3, oB];simp only [ons, qc4];rw [show V.int .u64 3 = .int .u64 ((3 : Nat) : Int) from rfl, f1, oB, f2, oB, f3, oB, show V.int .i64 7 = .int .i64 ((7 : Nat) : Int) from rfl, subC 7 (by omega) (by omega), oB, ixAr (by omega), oB, a4, oB];simp only [ons, qc4];rw [f4, oB, show V.int .i64 2 = .int .i64 ((2 : Nat) : Int) from rfl, subC 2 (by omega) (by omega), oB, ixAr (by omega), oB, a5, oB];simp only [ons, qc4];rw [c1, oB];simp only [ons, qc4];rw [c2, qbg, oB, ixAr (by omega), oB];simp only [ons, qc4];rw [a6, oB];simp only [ons, qc4];rw [show V.int .u64 10 = .int .u64 ((10 : Nat) : Int) from rfl, f5, oB, f6, oB, f7, oB, ixAr hi, oB, k1', oB];dsimp only;rw [qcg ?_, qhv ho, show V.int .i64 1 = .int .i64 ((1 : Nat) : Int) from rfl, addC 1 (by omega) (by omega), oB]
 refine qg8 (r1 := S.next) (r2 := U1.next) (tags := [0, 0, 0, 0, 1, 0, 0, 0, 0, 1, 2, 2, 0, 0, 0, 1, 0, 0, 0, 0, 0, 0, 1, 0, 0, 0, 0, 0, 1, 3, 3, 0, 0, 0, 1, 0, 0, 0, 0, 4]) (by omega) ?_ (by decide)
 repeat' apply And.intro
 all_goals first
  | trivial
  | (intro e he; cases he; done)
  | (intro e he; cases List.mem_singleton.1 he; exact ⟨rfl, by dsimp only; omega, by dsimp only; omega⟩)
  | (intro e he; cases List.mem_singleton.1 he; rfl)
  | exact b3
  | exact c3
  | (intro e he; trivial)
theorem qn0 {m N wb : Nat} {v1 v2 v3 v6 : V} (hne : ∀ r, v1 = .oslice r 0 64 1->r ≠ wb) (nk : Ac->St->Rs) (ek : Nat->Ac->St->Rs) :
 ∀ (d i q : Nat) (S : St), i + d = 64->d < q->Arr S wb 73 64->Blk S v1->wb < S.next ->
 ∃ U, qgc (ev E0 KD (m + 3)) N nk ek q v1 v2 v3 v6 (.fn (.func 84) [] []) (.ptr wb 0) (.int .i64 (i : Int)) S = ek 0 (fr 187 [(2, v2), (3, v3), (6, v6), (7, .fn (.func 84) [] []), (8, .ptr wb 0)]) U/\Arr U wb 73 64/\Grew (fun x => x = wb) S U
 | _, _, 0, _, _, hq, _, _, _ => by omega
 | 0, i, q + 1, S, hi, hq, hA, hB, hw => by
  refine ⟨S, ?_, hA, Grew.refl _ _⟩;rw [qkv, sixty, dF (by omega), oB, ifK_bool, cF]
 | d + 1, i, q + 1, S, hi, hq, hA, hB, hw => by
  by_cases h16 : i < 16
  . obtain ⟨U, u1, u2, u3⟩ := step16 (m := m) (N := N) (v2 := v2) (v3 := v3) (v6 := v6) (v7 := .fn (.func 84) [] []) hA hw hB nk ek (q := q) h16
    obtain ⟨T, t1, t2, t3⟩ := qn0 (m := m) (N := N) hne nk ek d (i + 1) q U (by omega) (by omega) u1 (hB.grew (fun r hr e => hne r hr e) u2) (Nat.lt_of_lt_of_le hw u2.next);exact ⟨T, u3.trans t1, t2, u2.trans t3⟩
  . obtain ⟨U, u1, u2, u3⟩ := step48 (m := m + 1) (N := N) (v1 := v1) (v2 := v2) (v3 := v3) (v6 := v6) hA hw nk ek (q := q) (show 16<=i by omega) (by omega)
    obtain ⟨T, t1, t2, t3⟩ := qn0 (m := m) (N := N) hne nk ek d (i + 1) q U (by omega) (by omega) u1 (hB.grew (fun r hr e => hne r hr e) u2) (Nat.lt_of_lt_of_le hw u2.next);exact ⟨T, u3.trans t1, t2, u2.trans t3⟩
end
section
variable {S T U : St}
theorem build72 (a b c d e f g h : Int) : qey E0 72 [(0, .int .u32 a), (1, .int .u32 b), (2, .int .u32 c), (3, .int .u32 d), (4, .int .u32 e), (5, .int .u32 f), (6, .int .u32 g), (7, .int .u32 h)] = some (.agg 8 (Tr.ofListFrom .nil [.int .u32 a, .int .u32 b, .int .u32 c, .int .u32 d, .int .u32 e, .int .u32 f, .int .u32 g, .int .u32 h] 0)) := by kernel_rfl
theorem agg8 (a b c d e f g h : Int) : AggV 8 (.agg 8 (Tr.ofListFrom .nil [.int .u32 a, .int .u32 b, .int .u32 c, .int .u32 d, .int .u32 e, .int .u32 f, .int .u32 g, .int .u32 h] 0)) := ⟨_, rfl, fun i hi => by
 rw [Tr.get_ofList]
 match i, hi with
 | 0, _ => exact ⟨_, rfl⟩
 | 1, _ => exact ⟨_, rfl⟩
 | 2, _ => exact ⟨_, rfl⟩
 | 3, _ => exact ⟨_, rfl⟩
 | 4, _ => exact ⟨_, rfl⟩
 | 5, _ => exact ⟨_, rfl⟩
 | 6, _ => exact ⟨_, rfl⟩
 | 7, _ => exact ⟨_, rfl⟩⟩
theorem nilCk (b o : Nat) : qe8 (.ptr b o) = some (.ptr b o) := rfl
theorem step31 {m N vb kb wb : Nat} (hV : Arr S vb 72 8) (hvl : vb < S.next) (hK : Arr S kb 73 64) (hkl : kb < S.next) (hW : Arr S wb 73 64) (hwl : wb < S.next) {v3 v6 : V} (nk : Ac->St->Rs) (ek : Nat->Ac->St->Rs) {i q : Nat} (hi : i < 64) :
 ∃ U, Arr U vb 72 8/\Grew (fun x => x = vb) S U/\L54_31 (ev E0 KD (m + 2)) N nk ek (q + 1) (.ptr kb 0) v3 v6 (.fn (.func 84) [] []) (.ptr wb 0) (.ptr vb 0) (.int .i64 (i : Int)) S = L54_31 (ev E0 KD (m + 2)) N nk ek q (.ptr kb 0) v3 v6 (.fn (.func 84) [] []) (.ptr wb 0) (.ptr vb 0) (.int .i64 ((i + 1 : Nat) : Int)) U := by
 have ho := hV.1;obtain ⟨n1, a1⟩ := hV.ldOn qjq (i := 7) (by omega) [];obtain ⟨n2, a2⟩ := hV.ldOn qjq (i := 4) (by omega) [];obtain ⟨U1, y1, L1, b1, b2, b3, b4, b5⟩ := turn3 m ho n2 6 11 25;have hV1 := hV.grew hvl (fun h => h) b4;have hK1 := hK.grew hkl (fun h => h) b4;have hW1 := hW.grew hwl (fun h => h) b4;have on1 := hV1.1;obtain ⟨x1, f1⟩ := qnc false false n1 y1;obtain ⟨n3, a3⟩ := hV1.ldOn qjq (i := 4) (by omega) [];obtain ⟨n4, a4⟩ := hV1.ldOn qjq (i := 5) (by omega) [];obtain ⟨x2, f2⟩ := and32 false false n3 n4;obtain ⟨x3, f3⟩ := not32 n3;obtain ⟨n5, a5⟩ := hV1.ldOn qjq (i := 6) (by omega) [];obtain ⟨x4, f4⟩ := and32 false false x3 n5;obtain ⟨x5, f5⟩ := xor32 false false x2 x4;obtain ⟨x6, f6⟩ := qnc false false x1 x5;obtain ⟨n6, a6⟩ := hK1.ldOn qnj (i := i) hi [];obtain ⟨x7, f7⟩ := qnc false false x6 n6;obtain ⟨n7, a7⟩ := hW1.ldOn qnj (i := i) hi [];obtain ⟨x8, f8⟩ := qnc false false x7 n7;have gZ : Grew (fun _ => False) S (zz S U1) := qof ho b4;have hVz := hV.grew hvl (fun h => h) gZ;have onZ := hVz.1;have nZ : (zz S U1).next = U1.next := rfl
 generalize hZ : zz S U1 = Z at gZ hVz onZ nZ;obtain ⟨m1, c1⟩ := hVz.ldOn qjq (i := 0) (by omega) [];obtain ⟨U2, y2, L2, d1, d2, d3, d4, d5⟩ := turn3 m onZ m1 2 13 22;have hV2 := hVz.grew (by omega) (fun h => h) d4;have on2 := hV2.1;obtain ⟨m2, c2⟩ := hV2.ldOn qjq (i := 0) (by omega) [];obtain ⟨m3, c3⟩ := hV2.ldOn qjq (i := 1) (by omega) [];obtain ⟨z1, g1⟩ := and32 false false m2 m3;obtain ⟨m4, c4⟩ := hV2.ldOn qjq (i := 2) (by omega) [];obtain ⟨z2, g2⟩ := and32 false false m2 m4;obtain ⟨z3, g3⟩ := xor32 false false z1 z2;obtain ⟨z4, g4⟩ := and32 false false m3 m4;obtain ⟨z5, g5⟩ := xor32 false false z3 z4;obtain ⟨z6, g6⟩ := qnc false false y2 z5;obtain ⟨z7, g7⟩ := qnc false false x8 z6;have gY : Grew (fun _ => False) Z (zz Z U2) := qof onZ d4;have hVy := hVz.grew (by omega) (fun h => h) gY;have nY : (zz Z U2).next = U2.next := rfl
 generalize hY : zz Z U2 = Y at gY hVy nY;obtain ⟨w0, e0⟩ := hVy.ld qjq (i := 0) (by omega);obtain ⟨w1, e1⟩ := hVy.ld qjq (i := 1) (by omega);obtain ⟨w2, e2⟩ := hVy.ld qjq (i := 2) (by omega);obtain ⟨w3, e3⟩ := hVy.ld qjq (i := 3) (by omega);obtain ⟨w4, e4⟩ := hVy.ld qjq (i := 4) (by omega);obtain ⟨w5, e5⟩ := hVy.ld qjq (i := 5) (by omega);obtain ⟨w6, e6⟩ := hVy.ld qjq (i := 6) (by omega);obtain ⟨z8, g8⟩ := qnc false false w3 x8;obtain ⟨U, k1, k2, k3, k4⟩ := hVy.put qjq (agg8 z7 w0 w1 w2 z8 w4 w5 w6);refine ⟨U, k2, (gZ.mono fun _ _ h => h.elim).trans ((gY.mono fun _ _ h => h.elim).trans k3), ?_⟩;have ix : ∀ k : Nat, k < 8->ixA 8 1 false 1 (.ptr vb 0) (.int .i64 (k : Int)) = some (.ptr vb k) := fun k hk => ixAr hk;have i0 := ix 0 (by omega); have i1 := ix 1 (by omega); have i2 := ix 2 (by omega); have i3 := ix 3 (by omega);have i4 := ix 4 (by omega); have i5 := ix 5 (by omega); have i6 := ix 6 (by omega); have i7 := ix 7 (by omega);rw [L54_31_eq, sixty, dT hi, oB, ifK_bool, cT];rw [show V.int .i64 7 = .int .i64 ((7 : Nat) : Int) from rfl, show V.int .i64 4 = .int .i64 ((4 : Nat) : Int) from rfl, show V.int .i64 5 = .int .i64 ((5 : Nat) : Int) from rfl, show V.int .i64 0 = .int .i64 ((0 : Nat) : Int) from rfl, show V.int .i64 1 = .int .i64 ((1 : Nat) : Int) from rfl, show V.int .i64 3 = .int .i64 ((3 : Nat) : Int) from rfl];rw [i7, oB];simp only [ons, qc4];rw [a1, oB, i4, oB];simp only [ons, qc4];rw [a2, oB];simp only [ons, qc4]
 rw [show bsP 3 1 3 (Ev.one (.int .i64 ((0 : Nat) : Int))) [(0, .int .i64 6), (1, .int .i64 11), (2, .int .i64 25)] (S.lg []) = _ from b1, oB];simp only [ons, qc4];rw [b2, qbg, f1, oB, oB];simp only [ons, qc4];rw [a3, oB, i5, oB];simp only [ons, qc4];rw [a4, oB, f2, oB, oB];simp only [ons, qc4];rw [a3, oB];dsimp only;rw [f3, oB, show V.int .i64 6 = .int .i64 ((6 : Nat) : Int) from rfl, i6, oB];simp only [ons, qc4];rw [a5, oB];dsimp only;rw [f4, oB, f5, oB, f6, oB, nilCk, oB, ixAr hi, oB];simp only [ons, qc4];rw [a6, oB];dsimp only;rw [f7, oB, ixAr hi, oB];simp only [ons, qc4];rw [a7, oB];dsimp only;rw [f8, oB];simp only [ons, qc4];rw [qcg ?_, qhv ho, hZ, i0, oB]
 . rw [c1, oB]
   try simp only [ons, qc4]
   rw [show bsP 3 1 3 (Ev.one (.int .i64 ((0 : Nat) : Int))) [(0, .int .i64 2), (1, .int .i64 13), (2, .int .i64 22)] (Z.lg []) = _ from d1, oB]
   try simp only [ons, qc4]
   rw [show V.int .i64 2 = .int .i64 ((2 : Nat) : Int) from rfl, d2, qbg, oB]
   try simp only [ons, qc4]
   rw [c2, oB, i1, oB]
   try simp only [ons, qc4]
   rw [c3, oB];dsimp only;rw [g1, oB, oB]
   try simp only [ons, qc4]
   rw [c2, oB, i2, oB]
   try simp only [ons, qc4]
   rw [c4, oB];dsimp only;rw [g2, oB, g3, oB, oB]
   try simp only [ons, qc4]
   rw [c3, oB, oB]
   try simp only [ons, qc4]
   rw [c4, oB];dsimp only;rw [g4, oB, g5, oB, g6, oB]
   try simp only [ons, qc4]
   rw [qcg ?_, qhv onZ, hY, g7, oB, oB, e0, oB, oB]
   . dsimp only
     rw [e1, oB, oB];dsimp only;rw [e2, oB, i3, oB];dsimp only;rw [e3, oB];dsimp only;rw [g8, oB, oB, e4, oB, oB];dsimp only;rw [e5, oB, oB];dsimp only;rw [e6, oB];dsimp only;rw [build72, oB, k1, oB];dsimp only;rw [addC 1 (by omega) (by omega), oB]
   . refine qg8 (r1 := Z.next) (r2 := Z.next + 1) (tags := [0, 0, 1, 2, 2, 0, 1, 0, 1, 0, 0, 1, 0, 1, 0, 0, 0, 1, 0, 1]) (by omega) ?_ (by decide)
     repeat' apply And.intro
     all_goals first
      | trivial
      | (intro e he; cases he; done)
      | (intro e he; cases List.mem_singleton.1 he; exact ⟨rfl, by dsimp only; omega, by dsimp only; omega⟩)
      | (intro e he; cases List.mem_singleton.1 he; rfl)
      | exact d3
 . refine qg8 (r1 := S.next) (r2 := S.next + 1 + kb + wb + vb) (tags := [0, 1, 0, 0, 1, 2, 2, 0, 0, 1, 0, 1, 0, 0, 1, 0, 0, 1, 0, 0, 0, 0, 0, 0, 0, 1, 0, 0, 0, 1]) (by omega) ?_ (by decide)
   repeat' apply And.intro
   all_goals first
    | trivial
    | (intro e he; cases he; done)
    | (intro e he; cases List.mem_singleton.1 he; exact ⟨rfl, by dsimp only; omega, by dsimp only; omega⟩)
    | (intro e he; cases List.mem_singleton.1 he; rfl)
    | exact b3
end
theorem rd54 {n : Nat} {args : List V} {s : St} {r : En × St} (e : qbu E0 (ev E0 KD n) qa1 Try.f54 B54 args s = some r) : (ev E0 KD (n + 1)).f 54 args s = some r := qar (c := C54) (d := B54) (by kernel_rfl) (by kernel_rfl) (qa3 C54 _ (by kernel_rfl)) rfl e
section
variable {S T U : St}
theorem L31_spec {m N vb kb wb : Nat} (hkv : kb ≠ vb) (hwv : wb ≠ vb) {v3 v6 : V} (nk : Ac->St->Rs) (ek : Nat->Ac->St->Rs) :
 ∀ (d i q : Nat) (S : St), i + d = 64->d < q->Arr S vb 72 8->vb < S.next->Arr S kb 73 64->kb < S.next->Arr S wb 73 64->wb < S.next ->
 ∃ U, L54_31 (ev E0 KD (m + 2)) N nk ek q (.ptr kb 0) v3 v6 (.fn (.func 84) [] []) (.ptr wb 0) (.ptr vb 0) (.int .i64 (i : Int)) S = ek 2 (fr 187 [(3, v3), (6, v6), (10, .ptr vb 0)]) U/\Arr U vb 72 8/\Grew (fun x => x = vb) S U
 | _, _, 0, _, _, hq, _, _, _, _, _, _ => by omega
 | 0, i, q + 1, S, hi, hq, hV, hv, hK, hk, hW, hw => by
  refine ⟨S, ?_, hV, Grew.refl _ _⟩;rw [L54_31_eq, sixty, dF (by omega), oB, ifK_bool, cF]
 | d + 1, i, q + 1, S, hi, hq, hV, hv, hK, hk, hW, hw => by
  obtain ⟨U, u1, u2, u3⟩ := step31 (m := m) (N := N) (v3 := v3) (v6 := v6) hV hv hK hk hW hw nk ek (q := q) (show i < 64 by omega);have := u2.next
  obtain ⟨T, t1, t2, t3⟩ := L31_spec (m := m) (N := N) hkv hwv nk ek d (i + 1) q U (by omega) (by omega) u1 (by omega) (hK.grew hk hkv u2) (by omega) (hW.grew hw hwv u2) (by omega);exact ⟨T, u3.trans t1, t2, u2.trans t3⟩
theorem eight (i : Nat) : qa4 E0 .lss 3 false true (.int .i64 (i : Int)) (.int .i64 8) = some (.bool (decide (i < 8))) := by
 rw [show V.int .i64 8 = .int .i64 ((8 : Nat) : Int) from rfl, binV_ii, intsV_lss]
 congr 2
 simp;omega
theorem L14s_spec {m N vb hb : Nat} (hne : vb ≠ hb) {v6 : V} (nk : Ac->St->Rs) (ek : Nat->Ac->St->Rs) :
 ∀ (d i q : Nat) (S : St), i + d = 8->d < q->Arr S hb 72 8->hb < S.next->Arr S vb 72 8->vb < S.next ->
 ∃ U, L54_14 (ev E0 KD m) N nk ek q (.ptr hb 0) v6 (.ptr vb 0) (.int .i64 (i : Int)) S = ek 4 (fr 187 [(3, .ptr hb 0), (6, v6)]) U/\Arr U hb 72 8/\Grew (fun x => x = hb) S U
 | _, _, 0, _, _, hq, _, _, _, _ => by omega
 | 0, i, q + 1, S, hi, hq, hH, hh, hV, hv => by
  refine ⟨S, ?_, hH, Grew.refl _ _⟩;rw [L54_14_eq, eight, dF (by omega), oB, ifK_bool, cF]
 | d + 1, i, q + 1, S, hi, hq, hH, hh, hV, hv => by
  have ho := hH.1;have hi8 : i < 8 := by omega
  obtain ⟨n1, a1⟩ := hH.ldOn qjq hi8 [];obtain ⟨n2, a2⟩ := hV.ldOn qjq hi8 [];obtain ⟨x, f1⟩ := qnc false false n1 n2;obtain ⟨U, k1, k2, k3, k4⟩ := hH.st qjq (by decide) hi8 x;obtain ⟨l, k1'⟩ := stP_lg ho k1;have gz : Grew (fun x => x = hb) S (zz S U) := qof ho k3;have nz : (zz S U).next = U.next := rfl
  obtain ⟨T, t1, t2, t3⟩ := L14s_spec (m := m) (N := N) (v6 := v6) hne nk ek d (i + 1) q (zz S U) (by omega) (by omega) (k2.grew (by omega) (fun h => h) (grew_zz' ho k2.1)) (by omega) (hV.grew hv hne gz) (by omega);refine ⟨T, ?_, t2, gz.trans t3⟩;rw [L54_14_eq, eight, dT hi8, oB, ifK_bool, cT, ixAr hi8, oB];simp only [ons, qc4];rw [a1, oB, ixAr hi8, oB];simp only [ons, qc4];rw [a2, oB];dsimp only;rw [f1, oB, oB];simp only [ons, qc4];rw [k1', oB];dsimp only;rw [qcg ?_, qhv ho, qgp (by omega), oB, t1];refine qg8 (r1 := hb + vb + 1) (r2 := hb + vb + 2) (tags := [0, 0, 1, 0, 0, 1, 0, 0, 4]) (by omega) ?_ (by decide)
  repeat' apply And.intro
  all_goals first
   | trivial
   | (intro e he; cases he; done)
   | (intro e he; cases List.mem_singleton.1 he; exact ⟨rfl, by dsimp only; omega, by dsimp only; omega⟩)
   | (intro e he; trivial)
theorem box_agg (e z : Nat) (t : Tr V) (S : St) : qm6 e (.agg z t) S = some (nwP e z t S) := rfl
theorem zeros (n : Nat) (l : List V) (h : l = List.replicate n (.int .u32 0)) : ∀ i, i < n->∃ k : Int, (Tr.ofListFrom .nil l 0).get i = some (.int .u32 k) := fun i hi => ⟨0, by
 rw [Tr.get_ofList, h, List.getElem?_replicate, iP hi]⟩
theorem f54_run (m : Nat) (ho : S.on = false) {x0 x1 : V} {kb : Nat} (h0 : AggV 8 x0) (h1 : Blk S x1) (hK : Arr S kb 73 64) (hk : kb < S.next) : ∃ v U, (ev E0 KD (m + 4)).f 54 [x0, x1, .ptr kb 0] S = some (.ret v, U)/\AggV 8 v/\Grew (fun _ => False) S U := by
 obtain ⟨t, rfl, ht⟩ := h0;obtain ⟨a1, a2, a3⟩ := Arr.newOf ho 72 8 ht;have ea : nwP 72 8 t S = (.ptr S.next 0, (nwP 72 8 t S).2) := rfl;generalize (nwP 72 8 t S).2 = S1 at a1 a2 a3 ea;have on1 := a1.1;obtain ⟨b1, b2, b3⟩ := Arr.newOf on1 72 8 (zeros 8 [(.int .u32 0), (.int .u32 0), (.int .u32 0), (.int .u32 0), (.int .u32 0), (.int .u32 0), (.int .u32 0), (.int .u32 0)] rfl);have eb : nwP 72 8 (Tr.ofListFrom .nil [(.int .u32 0), (.int .u32 0), (.int .u32 0), (.int .u32 0), (.int .u32 0), (.int .u32 0), (.int .u32 0), (.int .u32 0)] 0) S1 = (.ptr S1.next 0, (nwP 72 8 (Tr.ofListFrom .nil [(.int .u32 0), (.int .u32 0), (.int .u32 0), (.int .u32 0), (.int .u32 0), (.int .u32 0), (.int .u32 0), (.int .u32 0)] 0) S1).2) := rfl;generalize (nwP 72 8 (Tr.ofListFrom .nil [(.int .u32 0), (.int .u32 0), (.int .u32 0), (.int .u32 0), (.int .u32 0), (.int .u32 0), (.int .u32 0), (.int .u32 0)] 0) S1).2 = S2 at b1 b2 b3 eb;have on2 := b1.1;obtain ⟨c1, c2, c3⟩ := Arr.newOf on2 73 64 (zeros 64 (List.replicate 64 (.int .u32 0)) rfl);have ec : nwP 73 64 (Tr.ofListFrom .nil (List.replicate 64 (.int .u32 0)) 0) S2 = (.ptr S2.next 0, (nwP 73 64 (Tr.ofListFrom .nil (List.replicate 64 (.int .u32 0)) 0) S2).2) := rfl;generalize (nwP 73 64 (Tr.ofListFrom .nil (List.replicate 64 (.int .u32 0)) 0) S2).2 = S3 at c1 c2 c3 ec;have g3 := (a2.trans b2).trans c2
 have hbl : ∀ r, x1 = .oslice r 0 64 1->r < S.next := fun r hr => by
  obtain ⟨r', bs, q1, _, _, q4⟩ := h1;rw [hr] at q1; cases q1; exact q4
 obtain ⟨S4, d1, d2, d3⟩ := qn0 (m := m) (N := qa1) (wb := S2.next) (v1 := x1) (v2 := .ptr kb 0) (v3 := .ptr S.next 0) (v6 := .ptr S1.next 0) (fun r hr => by have := hbl r hr; omega) (R54_4 (ev E0 KD (m + 3)) qa1 (qak E0 (ev E0 KD (m + 3)) Try.f54) qa9) (exB 0 (R54_4 (ev E0 KD (m + 3)) qa1 (qak E0 (ev E0 KD (m + 3)) Try.f54) qa9) qa9) 64 0 qa1 S3 rfl (by unfold qa1; omega) c1 (h1.grew (fun _ _ h => h) g3) (by omega);have n4 := d3.next
 have hH4 : Arr S4 S.next 72 8 := ((a1.grew (by omega) (fun h => h) b2).grew (by omega) (fun h => h) c2).grew (by omega) (by omega) d3
 have hO4 : Arr S4 S1.next 72 8 := (b1.grew (by omega) (fun h => h) c2).grew (by omega) (by omega) d3
 have hK4 : Arr S4 kb 73 64 := (hK.grew hk (fun h => h) g3).grew (by omega) (by omega) d3;obtain ⟨w, e1, _, ew⟩ := hH4.all qjq;obtain ⟨tw, rfl, htw⟩ := ew
 obtain ⟨S5, f1, f2, f3, f4⟩ : ∃ S5, stP 8 (.ptr S4.next 0) (.agg 8 tw) (nwP 72 8 (Tr.ofListFrom .nil [(.int .u32 0), (.int .u32 0), (.int .u32 0), (.int .u32 0), (.int .u32 0), (.int .u32 0), (.int .u32 0), (.int .u32 0)] 0) S4).2 = some (.tuple [], S5)/\Arr S5 S4.next 72 8/\Grew (fun _ => False) S4 S5/\S5.next = S4.next + 1 := by
  obtain ⟨q1, q2, q3⟩ := Arr.newOf hH4.1 72 8 (zeros 8 [(.int .u32 0), (.int .u32 0), (.int .u32 0), (.int .u32 0), (.int .u32 0), (.int .u32 0), (.int .u32 0), (.int .u32 0)] rfl);obtain ⟨U, p1, p2, p3, p4⟩ := q1.put qjq ⟨tw, rfl, htw⟩;exact ⟨U, p1, p2, Grew.then q2 p3 fun x hx e => by omega, by omega⟩
 obtain ⟨S6, k1, k2, k3⟩ := L31_spec (m := m + 1) (N := qa1) (vb := S4.next) (kb := kb) (wb := S2.next) (v3 := .ptr S.next 0) (v6 := .ptr S1.next 0) (by omega) (by omega) (R54_8 (ev E0 KD (m + 3)) qa1 (fun a s => qaa [6] a fun a => qak E0 (ev E0 KD (m + 3)) Try.f54 a s) qa9) (exB 2 (R54_8 (ev E0 KD (m + 3)) qa1 (fun a s => qaa [6] a fun a => qak E0 (ev E0 KD (m + 3)) Try.f54 a s) qa9) qa9) 64 0 qa1 S5 rfl (by unfold qa1; omega) f2 (by omega) (hK4.grew (by omega) (fun h => h) f3) (by omega) (d2.grew (by omega) (fun h => h) f3) (by omega);have n6 := k3.next
 have hH6 : Arr S6 S.next 72 8 := (hH4.grew (by omega) (fun h => h) f3).grew (by omega) (by omega) k3
 have hO6 : Arr S6 S1.next 72 8 := (hO4.grew (by omega) (fun h => h) f3).grew (by omega) (by omega) k3
 obtain ⟨S7, p1, p2, p3⟩ := L14s_spec (m := m + 3) (N := qa1) (vb := S4.next) (hb := S.next) (v6 := .ptr S1.next 0) (by omega) (R54_9 (ev E0 KD (m + 3)) qa1 (fun a s => qaa [6] a fun a => (fun a s => qaa [6] a fun a => qak E0 (ev E0 KD (m + 3)) Try.f54 a s) a s) qa9) (exB 4 (R54_9 (ev E0 KD (m + 3)) qa1 (fun a s => qaa [6] a fun a => (fun a s => qaa [6] a fun a => qak E0 (ev E0 KD (m + 3)) Try.f54 a s) a s) qa9) qa9) 8 0 qa1 S6 rfl (by unfold qa1; omega) hH6 (by omega) k2 (by omega);have n7 := p3.next
 have hO7 : Arr S7 S1.next 72 8 := hO6.grew (by omega) (by omega) p3
 obtain ⟨w7, q1, _, q3⟩ := p2.all qjq;obtain ⟨S8, r1, r2, r3, r4⟩ := hO7.put qjq q3;obtain ⟨w8, _, s2, s3⟩ := r2.all qjq;refine ⟨w8, S8, rd54 ?_, s3, ?_⟩
 . show F54 (ev E0 KD (m + 3)) qa1 (.agg 8 t) x1 (.ptr kb 0) S = _
   rw [F54_eq, box_agg, ea, oB];dsimp only;rw [eb, oB];dsimp only;rw [show (Tr.ofListFrom .nil [(.int .u32 0), (.int .u32 0), (.int .u32 0), (.int .u32 0), (.int .u32 0), (.int .u32 0), (.int .u32 0), (.int .u32 0), (.int .u32 0), (.int .u32 0), (.int .u32 0), (.int .u32 0), (.int .u32 0), (.int .u32 0), (.int .u32 0), (.int .u32 0), (.int .u32 0), (.int .u32 0), (.int .u32 0), (.int .u32 0), (.int .u32 0), (.int .u32 0), (.int .u32 0), (.int .u32 0), (.int .u32 0), (.int .u32 0), (.int .u32 0), (.int .u32 0), (.int .u32 0), (.int .u32 0), (.int .u32 0), (.int .u32 0), (.int .u32 0), (.int .u32 0), (.int .u32 0), (.int .u32 0), (.int .u32 0), (.int .u32 0), (.int .u32 0), (.int .u32 0), (.int .u32 0), (.int .u32 0), (.int .u32 0), (.int .u32 0), (.int .u32 0), (.int .u32 0), (.int .u32 0), (.int .u32 0), (.int .u32 0), (.int .u32 0), (.int .u32 0), (.int .u32 0), (.int .u32 0), (.int .u32 0), (.int .u32 0), (.int .u32 0), (.int .u32 0), (.int .u32 0), (.int .u32 0), (.int .u32 0), (.int .u32 0), (.int .u32 0), (.int .u32 0), (.int .u32 0)] 0 : Tr V) = Tr.ofListFrom .nil (List.replicate 64 (.int .u32 0)) 0 from rfl, ec, oB];dsimp only;rw [show V.int .i64 0 = .int .i64 ((0 : Nat) : Int) from rfl, d1, exB_same, R54_4_eq, e1, oB];dsimp only;rw [oB, qfv, f1, oB];dsimp only;rw [show V.int .i64 0 = .int .i64 ((0 : Nat) : Int) from rfl];refine k1.trans ?_;rw [exB_same, R54_8_eq, show V.int .i64 0 = .int .i64 ((0 : Nat) : Int) from rfl];refine p1.trans ?_
   rw [exB_same, R54_9_eq, q1, oB];dsimp only;rw [r1, oB];dsimp only;rw [s2, oB]
 . exact Grew.then (Grew.then (Grew.then (Grew.then (Grew.then g3 d3 fun x hx e => by omega) f3 fun _ _ h => h) k3 fun x hx e => by omega) p3 fun x hx e => by omega) r3 fun x hx e => by omega
end
theorem rd53 {n : Nat} {args : List V} {s : St} {r : En × St} (e : qbu E0 (ev E0 KD n) qa1 Try.f53 B53 args s = some r) : (ev E0 KD (n + 1)).f 53 args s = some r := qar (c := C53) (d := B53) (by kernel_rfl) (by kernel_rfl) (qa3 C53 _ (by kernel_rfl)) rfl e
theorem rd83 {n : Nat} {args : List V} {s : St} {r : En × St} (e : qbu E0 (ev E0 KD n) qa1 Try.f83 B83 args s = some r) : (ev E0 KD (n + 1)).f 83 args s = some r := qar (c := C83) (d := B83) (by kernel_rfl) (by kernel_rfl) (qa3 C83 _ (by kernel_rfl)) rfl e
section
variable {S T U : St} {v : V} {bs : Bs} {N : Nat}
def BL (S : St) (v : V) (bs : Bs) (N : Nat) : Prop := ∃ r, v = .oslice r 0 bs.length 1/\RowAt S r 5 1 (bs.map qdd)/\r < S.next/\N<=r
theorem BL.push (h : BL S v bs N) (ho : S.on = false) (hN : N<=S.next) (hl : bs.length < 100000) (c : UInt8) : ∃ y W v' U, bsP 5 1 1 (Ev.one (.int .u8 0)) [(0, .int .u8 (c.toNat : Int))] S = some (y, W)/\apP 5 1 1 v y W = some (v', U)/\BL U v' (bs ++ [c]) N/\Grew (fun x => N<=x) S U := by
 obtain ⟨r, rfl, hr, hr2, hr3⟩ := h;obtain ⟨W, h1, h2, h3, h4⟩ := bsP_byte ho 5 c;have on1 := h3.on.trans ho;have hrow := hr.grew hr2 (fun h => h) h3;obtain ⟨U, k1, k2, k3, k4⟩ := ap1_more (B := 1) on1 h2 hrow (by rw [lM]; unfold qae; omega) (by rw [lM]; unfold big; omega);rw [lM] at k1;refine ⟨_, W, _, U, h1, k1, ⟨W.next, by rw [lA]; rfl, by rw [List.map_append]; exact k2, by omega, by omega⟩, (h3.mono fun _ _ h => h.elim).trans (k3.mono fun x _ e => by subst e; exact hr3)⟩
theorem BL.len (h : BL S v bs N) (U : St) : lnS v U = some (.int .i64 (bs.length : Int), U) := by
 obtain ⟨r, rfl, _⟩ := h;exact qk6 (fun _ _ e => by cases e) rfl
theorem rem64 (n : Nat) : qa4 E0 .rem 3 false true (.int .i64 (n : Int)) (.int .i64 64) = some (.int .i64 ((n % 64 : Nat) : Int)) := by
 rw [binV_ii, qoi _ _ _ (by decide)]
 congr 2
theorem neq56 (n : Nat) : qa4 E0 .neq 3 false true (.int .i64 (n : Int)) (.int .i64 56) = some (.bool (!decide (n = 56))) := by
 rw [show V.int .i64 56 = .int .i64 ((56 : Nat) : Int) from rfl, binV_ii, intsV_neq]
 congr 3
 simp;omega
theorem L39p_spec {m Nn : Nat} {v0 v1 : V} (nk : Ac->St->Rs) (ek : Nat->Ac->St->Rs) :
 ∀ (d q : Nat) (v : V) (bs : Bs) (S : St), bs.length + d = 56->d < q->S.on = false->BL S v bs N->N<=S.next ->
 ∃ v' bs' U, L83_39 (ev E0 KD m) Nn nk ek q v0 v1 v S = ek 0 (fr 42 [(0, v0), (1, v1), (3, v')]) U/\BL U v' bs' N/\bs'.length = 56/\Grew (fun x => N<=x) S U
 | _, 0, _, _, _, _, hq, _, _, _ => by omega
 | 0, q + 1, v, bs, S, hd, hq, ho, hB, hN => by
  refine ⟨v, bs, S, ?_, hB, by omega, Grew.refl _ _⟩;rw [L83_39_eq, hB.len, oB];dsimp only;rw [rem64, oB, neq56, oB, dT (by omega), Bool.not_true, ifK_bool, cF]
 | d + 1, q + 1, v, bs, S, hd, hq, ho, hB, hN => by
  obtain ⟨y, W, v', U, a1, a2, a3, a4⟩ := hB.push ho hN (by omega) 0;have nU := a4.next
  obtain ⟨v2, bs2, T, t1, t2, t3, t4⟩ := L39p_spec (m := m) (Nn := Nn) (v0 := v0) (v1 := v1) nk ek d q v' (bs ++ [0]) U (by rw [lA, List.length_singleton]; omega) (by omega) (a4.on.trans ho) a3 (by omega);refine ⟨v2, bs2, T, ?_, t2, t3, a4.trans t4⟩;rw [L83_39_eq, hB.len, oB];dsimp only;rw [rem64, oB, neq56, oB, dF (by omega), nF, ifK_bool, cT, show (V.int .u8 0) = .int .u8 (((0 : UInt8).toNat : Nat) : Int) from rfl];rw [show bsP 5 1 1 (Ev.one (.int .u8 (((0 : UInt8).toNat : Nat) : Int))) [(0, .int .u8 (((0 : UInt8).toNat : Nat) : Int))] S = _ from a1, oB];dsimp only;rw [a2, oB, t1]
theorem cv8 (k : IntKind) (n : Int) (S : St) : ∃ c : UInt8, cvI .u8 (.int k n) S = some (.int .u8 (c.toNat : Int), S) := by
 have hr : 0<=IntKind.u8.wrap n/\IntKind.u8.wrap n < 256 := by
  rw [<- qb7];show 0<=qjl .u8 n/\qjl .u8 n < 256;rw [qb7];unfold IntKind.wrap;have e1 : IntKind.u8.bits = 8 := rfl;have e2 : IntKind.u8.signed = false := rfl;simp only [e1, e2, Bool.false_and, Bool.false_eq_true, if_false];omega
 refine ⟨UInt8.ofNat (IntKind.u8.wrap n).toNat, ?_⟩;rw [cvI_int]
 congr 3
 rw [UInt8.toNat_ofNat'];omega
theorem sub7 {i : Nat} (h : i<=7) : qa4 E0 .sub 3 true false (.int .i64 7) (.int .i64 (i : Int)) = some (.int .i64 ((7 - i : Nat) : Int)) := by
 rw [binV_ii, intsV_sub, show ((7 : Int) - (i : Int)) = ((7 - i : Nat) : Int) by omega, qb8 (by omega) (by omega)]
theorem mul8 {i : Nat} (h : i < 1000) : qa4 E0 .mul 3 true false (.int .i64 8) (.int .i64 (i : Int)) = some (.int .i64 ((8 * i : Nat) : Int)) := by
 rw [binV_ii, intsV_mul, show ((8 : Int) * (i : Int)) = ((8 * i : Nat) : Int) by omega, qb8 (by omega) (by omega)]
theorem L20p_spec {m Nn xb : Nat} {v0 : V} {s : Bs} (nk : Ac->St->Rs) (ek : Nat->Ac->St->Rs) :
 ∀ (d i q : Nat) (v : V) (bs : Bs) (S : St), i + d = 8->d < q->S.on = false->One S xb 9 (sv s)->xb < N->BL S v bs N->N<=S.next->bs.length < 1000 + i ->
 ∃ v' bs' U, L83_20 (ev E0 KD m) Nn nk ek q v0 (.ptr xb 0) v (.int .i64 (i : Int)) S = ek 2 (fr 42 [(0, v0), (3, v')]) U/\BL U v' bs' N/\bs'.length = bs.length + d/\Grew (fun x => N<=x) S U
 | _, _, 0, _, _, _, _, hq, _, _, _, _, _, _ => by omega
 | 0, i, q + 1, v, bs, S, hi, hq, ho, hx, hxb, hB, hN, hl => by
  refine ⟨v, bs, S, ?_, hB, rfl, Grew.refl _ _⟩;rw [L83_20_eq, eight, dF (by omega), oB, ifK_bool, cF]
 | d + 1, i, q + 1, v, bs, S, hi, hq, ho, hx, hxb, hB, hN, hl => by
  obtain ⟨x, hx1⟩ : ∃ x, qa4 E0 .mul 96 false true (.int .u64 (IntKind.u64.wrap (s.length : Int))) (.int .u64 8) = some (.int .u64 x) := ⟨_, rfl⟩
  obtain ⟨y, hy1⟩ : ∃ y, qa4 E0 .shr 96 false false (.int .u64 x) (.int .i64 ((8 * (7 - i) : Nat) : Int)) = some (.int .u64 y) := ⟨_, rfl⟩
  obtain ⟨c, hc⟩ := cv8 .u64 y S;obtain ⟨z, W, v', U, a1, a2, a3, a4⟩ := hB.push ho hN (by omega) c;have nU := a4.next
  obtain ⟨v2, bs2, T, t1, t2, t3, t4⟩ := L20p_spec (m := m) (Nn := Nn) (v0 := v0) (s := s) nk ek d (i + 1) q v' (bs ++ [c]) U (by omega) (by omega) (a4.on.trans ho) (hx.grew (by omega) (by omega) a4) hxb a3 (by omega) (by rw [lA, List.length_singleton]; omega);refine ⟨v2, bs2, T, ?_, t2, by rw [t3, lA, List.length_singleton]; omega, a4.trans t4⟩;rw [L83_20_eq, eight, dT (by omega), oB, ifK_bool, cT, hx.ld ho, oB];dsimp only;rw [qc9, oB];dsimp only;rw [cvI_int, oB];dsimp only;rw [hx1, oB, sub7 (by omega), oB, mul8 (by omega), oB, hy1, oB, hc, oB];dsimp only;rw [a1, oB];dsimp only;rw [a2, oB];dsimp only;rw [qgp (by omega), oB, t1]
end
end Go.Proofs.Ytmeohejdafbodaa.W
