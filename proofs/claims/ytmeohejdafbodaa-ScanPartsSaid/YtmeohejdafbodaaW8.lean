/-
  WHAT THE FUNCTIONS COME TO: each is read by the evaluator, printed, and told as a function of data, part 8 of 8 (no condition).
-/
import Derived.Test.YtmeohejdafbodaaW7
namespace Go.Proofs.Ytmeohejdafbodaa.W
open Go.Proofs.Ytmeohejdafbodaa.Ev Go.RowKit
section
variable {S T U X S0 : St} {r a o f N l : Nat} {v kv : V} {p : List Bs × List Bs}
noncomputable def qlf (x : Nd) (kv : V) : V := .agg 5 (rowN x kv)
theorem nodeV_enc (x : Nd) : qlf x (qe2 (qfv x.kids)) = qc7 x := by rw [qbz]; rfl
def cellsV (x : Nd) (kv : V) : List V := [sv x.name, .int .i64 x.kind, .bool x.exec, sv x.data, kv]
theorem qne (x : Nd) (kv : V) : qlf x kv = vAgg (cellsV x kv) := rfl
structure NodeR (S : St) (b : Nat) (x : Nd) (kv : V) : Prop where
 on : S.on = false
 bx : Bx S b 24 (cellsV x kv)
theorem NodeR.f3 {b : Nat} {x : Nd} (h : NodeR S b x kv) : ld1 (.ptr b 3) S = some (sv x.data, S) := Bx.ld1 h.on h.bx 3 (by show 3 < 5; decide) big5
theorem NodeR.f4 {b : Nat} {x : Nd} (h : NodeR S b x kv) : ld1 (.ptr b 4) S = some (kv, S) := Bx.ld1 h.on h.bx 4 (by show 4 < 5; decide) big5
theorem NodeR.fA {b : Nat} {x : Nd} (h : NodeR S b x kv) : ldA 5 (.ptr b 0) S = some (qlf x kv, S) := by rw [qne]; exact Bx.ldA h.on h.bx rfl big5
theorem NodeR.grew {W : Nat → Prop} {b : Nat} {x : Nd} (h : NodeR S b x kv) (hb : b < S.next) (hw : ¬ W b) (g : Grew W S T) : NodeR T b x kv := ⟨g.on.trans h.on, h.bx.grew hb hw g⟩
theorem qnd (ho : S.on = false) (x : Nd) (kv : V) : ∃ t, boxK 24 (qlf x kv) S = some (.ptr S.next 0, t) ∧ NodeR t S.next x kv ∧ Grew (fun _ => False) S t ∧ t.next = S.next + 1 := by
 obtain ⟨t, h1, h2, h3, h4⟩ := box_new ho 24 (cellsV x kv)
 rw [qne]
 exact ⟨t, h1, ⟨h3.on.trans ho, h2⟩, h3, h4⟩
def Kids (S : St) (kv : V) (M : Nat) (l : List Nd) : Prop := kv = qe2 (qfv l) ∨ (0 < l.length ∧ ∃ k, kv = .oslice k 0 l.length 5 ∧ RowAt S k 24 5 (l.map qet) ∧ k < S.next ∧ k < M)
theorem Kids.grew {W : Nat → Prop} {M : Nat} {l : List Nd} (h : Kids S kv M l) (hw : ∀ k, k < M → ¬ W k) (g : Grew W S T) : Kids T kv M l := by
 rcases h with h | ⟨h0, k, h1, h2, h3, h4⟩
 · exact .inl h
 · exact .inr ⟨h0, k, h1, h2.grew h3 (hw k h4) g, Nat.lt_of_lt_of_le h3 g.next, h4⟩
theorem Kids.more {M M' : Nat} {l : List Nd} (h : Kids S kv M l) (hM : M ≤ M') : Kids S kv M' l := by
 rcases h with h | ⟨h0, k, h1, h2, h3, h4⟩
 · exact .inl h
 · exact .inr ⟨h0, k, h1, h2, h3, by omega⟩
theorem Kids.len {M : Nat} {l : List Nd} (h : Kids S kv M l) (U : St) : lnS kv U = some (.int .i64 (l.length : Int), U) := by
 rcases h with rfl | ⟨h0, k, rfl, _⟩
 · exact qc8 l
 · exact lnS_of (fun _ _ e => by cases e) rfl
theorem Kids.at {M : Nat} {l : List Nd} (h : Kids S kv M l) (ho : S.on = false) {i : Nat} (hi : i < l.length) : ∃ q, ixP 5 kv (.int .i64 (i : Int)) = some q ∧ ldA 5 q S = some (qc7 l[i], S) := by
 rcases h with rfl | ⟨h0, k, rfl, h2, h3, h4⟩
 · exact ⟨_, qcy l i hi, qgw _⟩
 · refine ⟨.ptr k (0 + i * 5), ?_, ?_⟩
   · show (bif Nat.blt i l.length then some (V.ptr k (0 + i * 5)) else none) = _
     rw [blt_true.2 hi]; rfl
   · have := h2.ldK ho (i := i) (t := qet l[i]) (by rw [List.getElem?_map, List.getElem?_eq_getElem hi]; rfl)
     rw [Nat.zero_add]
     show ((ldK S k (i * 5) 5).bind fun p => some (V.agg 5 p.1, p.2)) = _
     rw [this, qbz]; rfl
theorem qhe (n : Nat) (x : Nd) (ok : x.ok) {M : Nat} (ho : S.on = false) (hk : Kids S kv M x.kids) : (ev E0 KD (n + 1)).f 11 [qlf x kv] S = some (.ret (.int .i64 (qev x)), S) := by
 rcases hk with rfl | ⟨h0, k, rfl, h2, _⟩
 · rw [nodeV_enc, qk6 n x ok]
 · rw [qaq kd11]
   exact kfNodeR_row qev x ok S ho h0 h2
theorem L33R_spec {self : EV} {Nn : Nat} (nk : Ac → St → Rs) (ek : Nat → Ac → St → Rs) (x : Nd) (ok : x.ok)
 (hself : ∀ y ∈ x.kids, ∀ (v : V) (p : List Bs × List Bs) (S : St), Lp S r a o f N l v p → ∃ v' U, self.f 33 [qc7 y, .yield l] S = some (.ret (.bool true), U) ∧ Lp U r a o f N l v' ((qfu y).foldl stepF p) ∧ Grew (Wf r o l v) S U ∧ Fr v v' S) :
 ∀ (rest : List Nd) (i q : Nat) (v : V) (p : List Bs × List Bs) (S : St), x.kids.drop i = rest → rest.length < q → Lp S r a o f N l v p → Kids S kv r x.kids →
 ∃ v' U, L33_14 self Nn nk ek q (.yield l) kv (.int .i64 (x.kids.length : Int)) (.int .i64 (i : Int)) S = ek 0 (fr 24 []) U ∧ Lp U r a o f N l v' ((qg8 rest).foldl stepF p) ∧ Grew (Wf r o l v) S U ∧ Fr v v' S
 | _, _, 0, _, _, _, _, hq, _, _ => by omega
 | [], i, q + 1, v, p, S, hi, hq, L, K => by
  refine ⟨v, S, ?_, by rw [qg8]; exact L, Grew.refl _ _, fun b hb => .inl hb⟩
  rw [qiu, lssN, decide_eq_false (Nat.not_lt.2 (qbq hi)), oB, ifK_bool, cond_false]
 | y :: rest, i, q + 1, v, p, S, hi, hq, L, K => by
  obtain ⟨hil, hy, hr, hmem⟩ := qd0 hi
  have few := ok.at.few
  obtain ⟨S1, a1, a2, a3, a4⟩ := qhn L.fd.on (Tr.ofListFrom .nil [(sv []), (.int .i64 0), (.bool false), (sv []), .nilslice] 0) y
  obtain ⟨v1, U1, b1, b2, b3, b4⟩ := hself y hmem v p S1 (L.grew0 a3)
  have f1 : Fr v v1 S := fun b hb => by
   rcases b4 b hb with e | e
   · exact .inl e
   · exact .inr (by omega)
  have g1 : Grew (Wf r o l v) S U1 := (a3.mono fun _ _ h => h.elim).trans b3
  have hra := L.fd.ra; have hao := L.fd.ao; have hof := L.fd.of; have hfN := L.fd.fN; have hfl := L.fl
  have K1 : Kids U1 kv r x.kids := K.grew (fun k hk e => by
   rcases e with e | e | e | e
   · omega
   · omega
   · omega
   · have := (L.fd.tl.blk e).1; omega) g1
  obtain ⟨q', x1, x2⟩ := K.at L.fd.on hil
  obtain ⟨v', U, c1, c2, c3, c4⟩ := L33R_spec (self := self) (Nn := Nn) nk ek x ok hself rest (i + 1) q v1 _ U1 hr (by simpa using hq) b2 K1
  refine ⟨v', U, ?_, by rw [qg8, List.foldl_append]; exact c2, Wf.then g1 f1 c3, Fr.trans f1 g1.next c4⟩
  rw [qiu, lssN, decide_eq_true hil, oB, ifK_bool, cond_true, x1, oB, x2, oB, hy]
  dsimp only
  rw [oB, qel, a1, oB]
  dsimp only
  rw [a2.fA, oB]
  dsimp only
  rw [b1, callP_ret, unV_not, oB, ifK_bool, Bool.not_true, cond_false, qli (by omega), oB, c1]
theorem each_runR (m : Nat) (x : Nd) (ok : x.ok) (L : Lp S r a o f N l v p) (K : Kids S kv r x.kids) : ∃ v' U, (ev E0 KD (m + qei x + 2)).f 33 [qlf x kv, .yield l] S = some (.ret (.bool true), U) ∧ Lp U r a o f N l v' ((qfu x).foldl stepF p) ∧ Grew (Wf r o l v) S U ∧ Fr v v' S := by
 have hcx := qk7 x
 obtain ⟨k, hk⟩ : ∃ k, qei x = k + 1 := ⟨cntL x.kids, by omega⟩
 rw [hk]
 obtain ⟨S1, k1, k2, k3, k4⟩ := qnd L.fd.on x kv
 have L1 := L.grew0 k3
 obtain ⟨v1, S2, a1, a2, a3, a4⟩ := round8 (m + k) L1 x.data (by have := ok.at.data; omega)
 have hnx := L.fd.nx; have hra := L.fd.ra; have hao := L.fd.ao; have hof := L.fd.of; have hfl := L.fl; have hlN := L.lN
 have k2' : NodeR S2 S.next x kv := k2.grew (by omega) (fun e => by
  rcases e with e | e | e | e
  · omega
  · omega
  · omega
  · have := L.fd.tl.lt e; omega) a3
 have K2 : Kids S2 kv r x.kids := (K.grew (fun _ _ h => h) k3).grew (fun k hk e => by
  rcases e with e | e | e | e
  · omega
  · omega
  · omega
  · have := (L.fd.tl.blk e).1; omega) a3
 have f1 : Fr v v1 S := fun b hb => by
  rcases a4 b hb with e | e
  · exact .inl e
  · exact .inr (by omega)
 have g1 : Grew (Wf r o l v) S S2 := (k3.mono fun _ _ h => h.elim).trans a3
 obtain ⟨v', U, b1, b2, b3, b4⟩ := L33R_spec (self := ev E0 KD (m + k + 2)) (Nn := qa1) (R33_8 (ev E0 KD (m + k + 2)) qa1 (qaw E0 (ev E0 KD (m + k + 2)) Try.f33) qad) (exB 0 (R33_8 (ev E0 KD (m + k + 2)) qa1 (qaw E0 (ev E0 KD (m + k + 2)) Try.f33) qad) qad) x ok
  (fun y hy v p S hL => each_run m k y (by have := cntL_mem hy; omega) (ok.at.kids y hy) v p S hL) x.kids 0 qa1 v1 _ S2 rfl (by have := ok.at.few; unfold qa1; omega) a2 K2
 refine ⟨v', U, rd33 ?_, by rw [qhv, List.foldl_append]; exact b2, Wf.then g1 f1 b3, Fr.trans f1 g1.next b4⟩
 show F33 (ev E0 KD (m + k + 2)) qa1 (qlf x kv) (.yield l) S = _
 rw [F33_eq, k1, oB]
 dsimp only
 rw [faP3, oB, k2.f3, oB]
 dsimp only
 rw [a1, callP_ret, unV_not, oB, ifK_bool, Bool.not_true, cond_false, faP4, oB, k2'.f4, oB]
 dsimp only
 rw [K.len, oB]
 dsimp only
 rw [show V.int .i64 0 = .int .i64 ((0 : Nat) : Int) from rfl, b1, exB_same, R33_8_eq]
theorem f32R_run (m : Nat) (x : Nd) (ok : x.ok) {b : Nat} (L : Lp S r a o f N l v p) (hb : NodeR S b x kv) (K : Kids S kv r x.kids) : ∃ v' U, (ev E0 KD (m + qei x + 3)).f 32 [.yield l, .ptr b 0] S = some (.ret (.tuple []), U) ∧ Lp U r a o f N l v' ((qfu x).foldl stepF p) ∧ Grew (Wf r o l v) S U ∧ Fr v v' S := by
 obtain ⟨v', U, b1, b2, b3, b4⟩ := each_runR m x ok L K
 refine ⟨v', U, rd32 ?_, b2, b3, b4⟩
 show F32 (ev E0 KD (m + qei x + 2)) qa1 (.yield l) (.ptr b 0) S = _
 rw [F32_eq, hb.fA, oB]
 dsimp only
 rw [b1, callP_ret]
theorem f16R_run (m : Nat) (x : Nd) (kv : V) (ho : S.on = false) : ∃ U, (ev E0 KD (m + 1)).f 16 [qlf x kv] S = some (.ret (.fn (.func 32) [] [.ptr S.next 0]), U) ∧ NodeR U S.next x kv ∧ Grew (fun _ => False) S U ∧ U.next = S.next + 1 := by
 obtain ⟨S1, k1, k2, k3, k4⟩ := qnd ho x kv
 refine ⟨S1, rd16 ?_, k2, k3, k4⟩
 show F16 (ev E0 KD m) qa1 (qlf x kv) S = _
 rw [F16_eq, k1, oB]
theorem qm4 {m N : Nat} {v1 v2 v4 : V} {hs : List Bs} (hv : TL S0 v1 hs) (hS0 : S0.on = false) (hr0 : S0.next ≤ r) (hsh : Short hs) (hfew : hs.length ≤ 1000) (nk : Ac → St → Rs) (ek : Nat → Ac → St → Rs) :
 ∀ (rest : List Bs) (i q : Nat) (ks : List Bs) (S : St), hs.drop i = rest → rest.length < q → S.on = false → MapAt S r (kvS (qd9 ks)) → One S a 31 (.map r) → r < a → a < S.next → Grew (fun _ => False) S0 S →
 ∃ U, L8_51 (ev E0 KD (m + 4)) N nk ek q [] v2 v4 (.ptr a 0) v1 (.int .i64 (hs.length : Int)) (.int .i64 (i : Int)) S = ek 0 (frD 60 [(2, v2), (4, v4), (5, .ptr a 0)] []) U ∧ MapAt U r (kvS (qd9 (askL ks rest))) ∧ Grew (fun x => x = r) S U
 | _, _, 0, _, _, _, hq, _, _, _, _, _, _ => by omega
 | [], i, q + 1, ks, S, hi, hq, ho, hm, hp, hra, ha, g0 => by
  refine ⟨S, ?_, hm, Grew.refl _ _⟩
  rw [L8_51_eq, lssN, decide_eq_false (Nat.not_lt.2 (qbq hi)), oB, ifK_bool, cond_false]
 | h :: rest, i, q + 1, ks, S, hi, hq, ho, hm, hp, hra, ha, g0 => by
  obtain ⟨hil, hf, hrest, hmem⟩ := qd0 hi
  rw [List.length_cons] at hq
  have hih : hs[i]? = some h := by rw [List.getElem?_eq_getElem hil, hf]
  obtain ⟨q', x1, x2⟩ := (hv.grew0 g0).ld ho hih
  obtain ⟨U1, a1, a2⟩ := f14_run ho m h (hsh h hmem)
  have on1 := a2.on.trans ho
  have hm1 := hm.grew (by omega) (fun h => h) a2
  have hp1 := hp.grew ha (fun h => h) a2
  have n1 := a2.next
  cases hx : isH h with
  | false =>
   obtain ⟨U, b1, b2, b3⟩ := qm4 (m := m) (N := N) hv hS0 hr0 hsh hfew nk ek rest (i + 1) q ks U1 hrest (by omega) on1 hm1 hp1 hra (by omega) (g0.trans a2)
   refine ⟨U, ?_, by rw [askL, hx, if_neg (by simp)]; exact b2, (a2.mono fun _ _ h => h.elim).trans b3⟩
   rw [L8_51_eq, lssN, decide_eq_true hil, oB, ifK_bool, cond_true, x1, oB, x2, oB]
   dsimp only
   rw [a1, qec, hx, if_neg (by simp), ext0, oB, ext1, oB, eqE, oB, ifK_bool, show decide ((2 : Int) = 0) = false from rfl, cond_false, qli (by omega), oB, b1]
  | true =>
   obtain ⟨es, cl, d1, d2⟩ := upd_str on1 hm1 h 1
   have hd := d2 none
   have g3 : Grew (fun x => x = r) U1 (U1.put r (.map es cl)) := qbl _ _
   have hm2 := qnb (S := U1) r d1
   rw [qo3] at hm2
   obtain ⟨U, b1, b2, b3⟩ := qm4 (m := m) (N := N) hv hS0 hr0 hsh hfew nk ek rest (i + 1) q _ (U1.put r (.map es cl)) hrest (by omega) (g3.on.trans on1) hm2 (hp1.grew (by omega) (by omega) g3) hra (by have := g3.next; omega) (Grew.then (g0.trans a2) g3 fun x hx e => by omega)
   refine ⟨U, ?_, by rw [askL, hx, if_pos rfl]; exact b2, ((a2.mono fun _ _ h => h.elim).trans g3).trans b3⟩
   rw [L8_51_eq, lssN, decide_eq_true hil, oB, ifK_bool, cond_true, x1, oB, x2, oB]
   dsimp only
   rw [a1, qec, hx, if_pos rfl, ext0, oB, ext1, oB, eqE, oB, ifK_bool, show decide ((0 : Int) = 0) = true from rfl, cond_true, hp1.ld on1, oB]
   dsimp only
   rw [show qbe E0 31 (.map r) (sv h) (.int .i64 1) U1 = _ from hd]
   show ((qab E0 .add 3 false true (.int .i64 (i : Int)) (.int .i64 1)).bind fun t68 => _) = _
   rw [qli (by omega), oB]
   exact b1
theorem R9R_spec (m : Nat) (nk : Ac → St → Rs) (ek : Nat → Ac → St → Rs) (x : Nd) (ok : x.ok) {nb : Nat} (hb : NodeR S nb x kv) (hnb : nb < S.next) (K : Kids S kv r x.kids) {ks : List Bs} (hks : ks.length ≤ 1000) (hnd : ((qfu x).foldl stepF (ks, [])).2.Nodup) (hm : MapAt S r (kvS (qd9 ks))) (hp : One S a 31 (.map r)) (hra : r < a) (ha : a < S.next) :
 ∃ w U M, R8_9 (ev E0 KD (m + qei x + 4)) qa1 nk ek (frD 60 [(2, .ptr nb 0), (4, .nilslice), (5, .ptr a 0)] []) S = some (.ret w, U) ∧ TLo U w (qjx ((qfu x).foldl stepF (ks, [])).2) M ∧ S.next ≤ M ∧ Grew (fun b => b = r) S U := by
 have ho := hb.on
 obtain ⟨o1, g1, n1⟩ := one_new ho 25 .nilslice
 have e10 : (nwP 25 1 (Go.Proofs.Ytmeohejdafbodaa.Ev.one .nilslice) S) = (.ptr S.next 0, (nwP 25 1 (Go.Proofs.Ytmeohejdafbodaa.Ev.one .nilslice) S).2) := rfl
 generalize (nwP 25 1 (Go.Proofs.Ytmeohejdafbodaa.Ev.one .nilslice) S).2 = S1 at o1 g1 n1 e10
 have on1 := g1.on.trans ho
 obtain ⟨o2, g2, n2⟩ := one_new on1 41 .nilfn
 have e12 : (nwP 41 1 (Go.Proofs.Ytmeohejdafbodaa.Ev.one .nilfn) S1) = (.ptr S1.next 0, (nwP 41 1 (Go.Proofs.Ytmeohejdafbodaa.Ev.one .nilfn) S1).2) := rfl
 generalize (nwP 41 1 (Go.Proofs.Ytmeohejdafbodaa.Ev.one .nilfn) S1).2 = S2 at o2 g2 n2 e12
 have on2 := g2.on.trans on1
 obtain ⟨S3, c1, c2, c3, c4⟩ := o2.st on2 (oneV_fn a S.next)
 have on3 := c3.on.trans on2
 have g12 := g1.trans g2
 have hb3 : NodeR S3 nb x kv := (hb.grew hnb (fun h => h) g12).grew (by omega) (by omega) c3
 obtain ⟨S4, d1, d2, d3, d4⟩ := f16R_run (m + qei x + 3) x kv on3
 have on4 := d3.on.trans on3
 have g5 : Grew (fun _ => False) S4 (nw (nw S4 .defb) (qeq 0 none (.ptr a 0) (.ptr S1.next 0))) := (qc6 on4 _ _).trans (qc6 (nw_on on4 _) _ _)
 have n5 : (nw (nw S4 .defb) (qeq 0 none (.ptr a 0) (.ptr S1.next 0))).next = S4.next + 2 := rfl
 have hd5 : (nw (nw S4 .defb) (qeq 0 none (.ptr a 0) (.ptr S1.next 0))).heap.get S4.next = some .defb := by
  rw [qem, if_neg (by show S4.next ≠ S4.next + 1; omega), qem, if_pos rfl]
 have hl5 : (nw (nw S4 .defb) (qeq 0 none (.ptr a 0) (.ptr S1.next 0))).heap.get (S4.next + 1) = some (qeq 0 none (.ptr a 0) (.ptr S1.next 0)) := by
  rw [qem]; exact if_pos rfl
 have hrange := fun (self : EV) (kn kr : St → Rs) (ke : Nat → St → Rs) (kp : V → St → Rs) => rangeP_fn (s := S4) (self := self) (first := []) (captured := [.ptr S3.next 0]) (o := qeq 0 none (.ptr a 0) (.ptr S1.next 0)) (kn := kn) (kr := kr) (ke := ke) (kp := kp) body32.1 body32.2
 generalize nw (nw S4 .defb) (qeq 0 none (.ptr a 0) (.ptr S1.next 0)) = S5 at g5 n5 hd5 hl5 hrange
 have on5 := g5.on.trans on4
 have g35 := d3.trans g5
 have L : Lp S5 r a S.next S1.next S5.next (S4.next + 1) .nilslice (ks, []) :=
  ⟨⟨on5, (((hm.grew (by omega) (fun h => h) g12).grew (by omega) (by omega) c3).grew (by omega) (fun h => h) g35),
    ((hp.grew ha (fun h => h) g12).grew (by omega) (by omega) c3).grew (by omega) (fun h => h) g35,
    ((o1.grew (by omega) (fun h => h) g2).grew (by omega) (by omega) c3).grew (by omega) (fun h => h) g35,
    .nil, c2.grew (by omega) (fun h => h) g35, hra, ha, by omega, by omega, Nat.le_refl _, by simpa using hks⟩, by omega, by omega, hl5⟩
 have K5 : Kids S5 kv r x.kids := ((K.grew (fun _ _ h => h) g12).grew (fun k hk e => by omega) c3).grew (fun _ _ h => h) g35
 obtain ⟨v', S6, f1, f2, f3, f4⟩ := f32R_run (m + 1) x ok L (d2.grew (by omega) (fun h => h) g5) K5
 rw [show m + 1 + qei x + 3 = m + qei x + 4 by omega] at f1
 have F := f2.fd
 have n6 := f3.next
 have hbl : ∀ b, qfd v' = some b → S5.next ≤ b := fun b hb => (F.tl.blk hb).1
 have g7 : Grew (fun b => b = S4.next + 1) S6 (S6.put (S4.next + 1) (qeq 3 none (.ptr a 0) (.ptr S1.next 0))) := qbl _ _
 have n7 : (S6.put (S4.next + 1) (qeq 3 none (.ptr a 0) (.ptr S1.next 0))).next = S6.next := rfl
 have hend : ∀ (kn kr : St → Rs) (ke : Nat → St → Rs), endLP (S4.next + 1) S6 kn kr ke = kn (S6.put (S4.next + 1) (qeq 3 none (.ptr a 0) (.ptr S1.next 0))) := fun kn kr ke => endLP_norm (kn := kn) (kr := kr) (ke := ke) F.on f2.rcd (by decide)
 generalize S6.put (S4.next + 1) (qeq 3 none (.ptr a 0) (.ptr S1.next 0)) = S7 at g7 n7 hend
 have on7 := g7.on.trans F.on
 have out7 : One S7 S.next 25 v' := F.out.grew (by omega) (by omega) g7
 have tl7 : TLo S7 v' ((qfu x).foldl stepF (ks, [])).2 S5.next := F.tl.grewW (fun b hb e => by have := hbl b hb; omega) g7
 have few := F.few
 obtain ⟨S8, h1, h2, h3⟩ := sort_run (m + qei x + 3) on7 tl7 hnd (by omega)
 have on8 := h3.on.trans on7
 have out8 : One S8 S.next 25 v' := out7.grew (by omega) (fun e => by have := hbl _ e; omega) h3
 have hdef : S8.heap.get S4.next = some .defb := by
  rw [h3.keep S4.next (by omega) (fun e => by have := hbl _ e; omega), g7.keep S4.next (by omega) (by omega), f3.keep S4.next (by omega) (fun e => by
   rcases e with e | e | e | e
   · omega
   · omega
   · omega
   · cases e)]
  exact hd5
 obtain ⟨S9, k1, k2, k3⟩ := qkw (E := E0) (self := ev E0 KD (m + qei x + 4)) (fn := Try.f8) (a := frD 60 [(4, v'), (10, .ptr S.next 0), (57, v'), (58, .tuple []), (59, v')] [mkR S4.next]) (m := .ret) [S4.next] on8 (List.pairwise_singleton _ _) (fun b hb => by rw [List.mem_singleton.1 hb]; exact hdef)
 have n8 := h3.next
 have n9 := k2.next
 refine ⟨v', S9, S5.next, ?_, h2.grewW (fun b hb e => by have := hbl b hb; have := List.mem_singleton.1 e; omega) k2, by omega, ?_⟩
 · rw [R8_9_eq, e10, oB]
   dsimp only
   rw [e12, oB]
   dsimp only
   rw [show (V.fn (.func 15) [] [.ptr a 0, .ptr S.next 0]) = fnF a S.next from rfl, c1, oB]
   dsimp only
   rw [hb3.fA, oB]
   dsimp only
   rw [show m + qei x + 3 + 1 = m + qei x + 4 from rfl] at d1
   rw [d1, qec, hrange]
   show onEn ((ev E0 KD (m + qei x + 4)).f 32 [.yield (S4.next + 1), .ptr S3.next 0] S5) _ _ = _
   rw [f1]
   show endLP (S4.next + 1) S6 _ _ _ = _
   rw [hend, R8_14_eq, out7.ld on7, oB]
   dsimp only
   rw [show m + qei x + 3 + 1 = m + qei x + 4 from rfl] at h1
   rw [h1, qec, out8.ld on8, oB]
   dsimp only
   rw [finR_defer (d := mkR S4.next) (ds := []) rfl]
   rw [show [mkR S4.next] = List.map mkR [S4.next] from rfl]
   exact k1.trans (lv8 _ _ _ _ _ _)
 · refine ⟨by omega, by rw [k2.on, on8, ho], fun b hb hw => ?_⟩
   rw [k2.keep b (by omega) (fun e => by have := List.mem_singleton.1 e; omega), h3.keep b (by omega) (fun e => by have := hbl _ e; omega), g7.keep b (by omega) (by omega), f3.keep b (by omega) (fun e => by
    rcases e with e | e | e | e
    · exact hw e
    · omega
    · omega
    · cases e), g35.keep b (by omega) (fun h => h), c3.keep b (by omega) (by omega), g12.keep b hb (fun h => h)]
theorem f8R_run (m : Nat) (ho : S.on = false) (x : Nd) (ok : x.ok) {v1 : V} {hs : List Bs} (K : Kids S kv S.next x.kids) (hv : TL S v1 hs) (hsh : Short hs) (hfew : hs.length ≤ 1000) : ∃ w T, (ev E0 KD (m + qei x + 5)).f 8 [qlf x kv, v1] S = some (.ret w, T) ∧ TL T w (if qev x = 0 then qfk x [] hs else []) ∧ Grew (fun _ => False) S T := by
 obtain ⟨S1, k1, k2, k3, k4⟩ := qnd ho x kv
 by_cases hc : qev x = 0
 · -- the map, and the variable that holds it
   have gm : Grew (fun _ => False) S1 (nw S1 (.map [] 0)) := qc6 k2.on _ _
   have hm2 : MapAt (nw S1 (.map [] 0)) S1.next (kvS (qd9 [])) := ⟨[], 0, by rw [qem, if_pos rfl], MapOk.new⟩
   have n2 : (nw S1 (.map [] 0)).next = S1.next + 1 := rfl
   have emk : qex E0 31 none S1 = some (.map S1.next, nw S1 (.map [] 0)) := rfl
   generalize nw S1 (.map [] 0) = S2 at gm hm2 n2 emk
   have on2 := gm.on.trans k2.on
   obtain ⟨o1, g1, n3⟩ := one_new on2 31 .nilmap
   have e7 : (nwP 31 1 (Go.Proofs.Ytmeohejdafbodaa.Ev.one .nilmap) S2) = (.ptr S2.next 0, (nwP 31 1 (Go.Proofs.Ytmeohejdafbodaa.Ev.one .nilmap) S2).2) := rfl
   generalize (nwP 31 1 (Go.Proofs.Ytmeohejdafbodaa.Ev.one .nilmap) S2).2 = S3 at o1 g1 n3 e7
   have on3 := g1.on.trans on2
   obtain ⟨S4, c1, c2, c3, c4⟩ := o1.st on3 (oneV_map S1.next)
   have on4 := c3.on.trans on3
   have hm4 := (hm2.grew (by omega) (fun h => h) g1).grew (by omega) (by omega) c3
   obtain ⟨S5, d1, d2, d3⟩ := qm4 (m := m + qei x) (S0 := S) (N := qa1) (v2 := .ptr S.next 0) (v4 := .nilslice) hv ho (by omega) hsh hfew (R8_9 (ev E0 KD (m + qei x + 4)) qa1 (qaw E0 (ev E0 KD (m + qei x + 4)) Try.f8) qad) (exB 0 (R8_9 (ev E0 KD (m + qei x + 4)) qa1 (qaw E0 (ev E0 KD (m + qei x + 4)) Try.f8) qad) qad) hs 0 qa1 [] S4 rfl (by unfold qa1; omega) on4 hm4 c2 (by omega) (by omega) (Grew.then ((k3.trans gm).trans g1) c3 fun x hx e => by omega)
   have n5 := d3.next
   have hb5 : NodeR S5 S.next x kv := (((k2.grew (by omega) (fun h => h) gm).grew (by omega) (fun h => h) g1).grew (by omega) (by omega) c3).grew (by omega) (by omega) d3
   have K5 : Kids S5 kv S1.next x.kids := (((((K.grew (fun _ _ h => h) k3).grew (fun _ _ h => h) gm).grew (fun _ _ h => h) g1).grew (fun k hk e => by omega) c3).grew (fun k hk e => by omega) d3).more (by omega)
   obtain ⟨w, U, M, q1, q2, q3, q4⟩ := R9R_spec m (qaw E0 (ev E0 KD (m + qei x + 4)) Try.f8) qad x ok hb5 (by omega) K5 (ks := askL [] hs) (by have := askL_len hs []; simp at this; omega) (qih x hs).nd2 d2 (c2.grew (by omega) (by omega) d3) (by omega) (by omega)
   refine ⟨w, U, rd8 ?_, ?_, ?_⟩
   · show F8 (ev E0 KD (m + qei x + 4)) qa1 (qlf x kv) v1 S = _
     rw [F8_eq, k1, oB]
     dsimp only
     rw [k2.fA, oB]
     dsimp only
     rw [qhe _ x ok k2.on (K.grew (fun _ _ h => h) k3), qec, neqE, oB, decide_eq_true hc, Bool.not_true, ifK_bool, cond_false, emk, oB]
     dsimp only
     rw [e7, oB]
     dsimp only
     rw [c1, oB]
     dsimp only
     rw [hv.len, oB]
     dsimp only
     rw [show V.int .i64 0 = .int .i64 ((0 : Nat) : Int) from rfl, d1, exB_same, q1]
   · rw [if_pos hc, ← same_found]
     exact q2.tl
   · refine ⟨?_, ?_, fun b hb _ => ?_⟩
     · have := q4.next; have := k3.next; omega
     · rw [q4.on, d3.on, on4, ho]
     · rw [q4.keep b (by omega) (by omega), d3.keep b (by omega) (by omega), c3.keep b (by omega) (by omega), g1.keep b (by omega) (fun h => h), gm.keep b (by omega) (fun h => h), k3.keep b hb (fun h => h)]
 · refine ⟨.nilslice, S1, rd8 ?_, by rw [if_neg hc]; exact .nil, k3⟩
   show F8 (ev E0 KD (m + qei x + 4)) qa1 (qlf x kv) v1 S = _
   rw [F8_eq, k1, oB]
   dsimp only
   rw [k2.fA, oB]
   dsimp only
   rw [qhe _ x ok k2.on (K.grew (fun _ _ h => h) k3), qec, neqE, oB, decide_eq_false hc, Bool.not_false, ifK_bool, cond_true, fin8_none]
end
section
variable {S T U X : St}
theorem min40 (n : Nat) (S : St) : qk8 minV (.int .i64 (n : Int)) [(.int .i64 40)] S = some (.int .i64 ((min n 40 : Nat) : Int), S) := by
 rw [foldK_min]
 congr 3
 omega
def cutH (l : List Bs) : List Bs := (l.take 8).map fun a => a.take 40
theorem L106_spec {m N : Nat} (ho : X.on = false) {v0 v1 : V} {l : List Bs} (hl : TV v1 l) (nk : Ac → St → Rs) (ek : Nat → Ac → St → Rs) :
 ∀ (d i q : Nat) (v3 : V) (U : St), i + d = min l.length 8 → d < q → Grew (fun _ => False) X U → TLo U v3 (((l.take 8).take i).map fun a => a.take 40) X.next →
 ∃ w T, L4_106 (ev E0 KD m) N nk ek q v0 v1 v3 (.int .i64 (i : Int)) U = ek 0 (fr 112 [(0, v0), (5, w)]) T ∧ TLo T w (cutH l) X.next ∧ Grew (fun _ => False) X T
 | d, i, 0, v3, U, _, hq, _, _ => by omega
 | 0, i, q + 1, v3, U, hi, hq, g, ht => by
  refine ⟨v3, U, ?_, ?_, g⟩
  · rw [L4_106_eq, hl.len, oB]
    dsimp only
    rw [show (V.int .i64 8) = .int .i64 ((8 : Nat) : Int) from rfl, qjd i l.length 8 (by omega), show (decide (i < l.length) && decide (i < 8)) = false from by
     rw [Bool.and_eq_false_iff, decide_eq_false_iff_not, decide_eq_false_iff_not]; omega, ifK_bool, cond_false]
  · rw [List.take_of_length_le (l := l.take 8) (by rw [List.length_take]; omega)] at ht
    exact ht
 | d + 1, i, q + 1, v3, U, hi, hq, g, ht => by
  have onU := g.on.trans ho
  have h1 : i < l.length := by omega
  have h2 : i < 8 := by omega
  have hix := hl.ix (List.getElem?_eq_getElem h1)
  obtain ⟨y, W, v', V1, b1, b2, b3, b4⟩ := ht.push onU g.next (by rw [List.length_map, List.length_take, List.length_take]; omega) (l[i].take 40)
  obtain ⟨L1, c1⟩ := lg_of (lg_bsP _ _ _ _ _) b1 []
  obtain ⟨L2, c2⟩ := lg_of (lg_apP _ _ _ _ _) b2 []
  obtain ⟨U', u1, u2, u3, u4⟩ := relog_any onU V1 [] [[], [], [], [], (U.lg []).log, [], [], [], (U.lg []).log, (U.lg []).log, (U.lg []).log, (U.lg []).log, (W.lg L1).log, (V1.lg L2).log, []]
  have gV : Grew (fun _ => False) X V1 := Grew.fresh g (Nat.le_refl _) b4
  have gU' : Grew (fun _ => False) X U' := Grew.same gV u2 u3 (u4.trans (gV.on.trans ho).symm)
  have ht' : TLo U' v' (((l.take 8).take (i + 1)).map fun a => a.take 40) X.next := by
   rw [map_take_push l _ h1 h2]
   rcases b3 with h | ⟨r, k0, k1, k2, k3⟩
   · exact .inl h
   · exact .inr ⟨r, k0, k1.same u2, by rw [u3]; exact k2, k3⟩
  obtain ⟨w, T, t1, t2, t3⟩ := L106_spec (m := m) (N := N) (v0 := v0) ho hl nk ek d (i + 1) q v' U' (by omega) (by omega) gU' ht'
  refine ⟨w, T, ?_, t2, t3⟩
  rw [L4_106_eq, hl.len, oB]
  dsimp only
  rw [show (V.int .i64 8) = .int .i64 ((8 : Nat) : Int) from rfl, qjd i l.length 8 (by omega), decide_eq_true h1, decide_eq_true h2, Bool.and_self, ifK_bool, cond_true, hix, oB]
  simp only [ons, lglg, ldc, oB, lnStr_sv]
  rw [min40, oB]
  simp only [ons, lglg]
  rw [cutN, oB]
  simp only [ons, lglg]
  rw [c1, oB]
  simp only [ons, lglg]
  rw [c2, oB]
  simp only [ons, lglg]
  have hp : qau [[], [], [], [], (U.lg []).log, [], [], [], (U.lg []).log, (U.lg []).log, (U.lg []).log, (U.lg []).log, (W.lg L1).log, (V1.lg L2).log, []] [(4, [8, 9, 10])] = true := rfl
  rw [endP_of hp]
  refine Eq.trans (b := L4_106 (ev E0 KD m) N nk ek q v0 v1 v' (.int .i64 ((i + 1 : Nat) : Int)) U') ?_ t1
  rw [binV_ii, intsV_add, qbk (by omega), oB]
  rw [← u1]
theorem cutH_short (l : List Bs) : Short (cutH l) := fun h hh => by
 unfold cutH at hh
 rw [List.mem_map] at hh
 obtain ⟨a, _, rfl⟩ := hh
 rw [List.length_take]; omega
theorem cutH_few (l : List Bs) : (cutH l).length ≤ 8 := by unfold cutH; rw [List.length_map, List.length_take]; omega
theorem bx_st5 (ho : S.on = false) {b e i : Nat} {l m : List V} {v : V} (h : Bx S b e l) (hl : l.length = 5) (hm : m.length = 5) (hi : i < 5) (hset : (Tr.ofListFrom .nil l 0).set v i = Tr.ofListFrom .nil m 0) (hv : OneV v) :
 stP 1 (.ptr b i) v S = some (.tuple [], S.put b (bxO e m)) := by
 obtain ⟨h1, h2, h3, _⟩ := hv
 show vu (bif Nat.beq v.size 1 && !qa9 v then stK S b i 1 v.cells else none) = _
 rw [h1, h2, h3]
 have hst : stK S b i 1 (Go.Proofs.Ytmeohejdafbodaa.Ev.one v) = some (S.put b (bxO e m)) := by
  unfold stK
  rw [h, hl]
  simp only [ble_true.2 (show i + 1 ≤ 5 * 1 by omega), blt_true.2 (show 5 * 1 < big by unfold big; decide), Bool.and_self, Bool.not_false, cond_true]
  unfold qdx
  rw [show Nat.beq 1 5 = false from rfl]
  have hv0 : (Go.Proofs.Ytmeohejdafbodaa.Ev.one v).get 0 = some v := rfl
  simp only [Bool.false_and, cond_false, qgo, Tr.setC_eq, hv0, oB, Nat.add_zero, Nat.div_eq_of_lt hi, Nat.mod_eq_of_lt hi]
  rw [Tr.get_ofList]
  simp only [List.getElem?_cons_zero, oB, hset, set_one, qat ho]
  unfold bxO
  rw [hm]
 rw [hst]; rfl
theorem set5_0 (a b c d e v : V) : (Tr.ofListFrom .nil [a, b, c, d, e] 0).set v 0 = Tr.ofListFrom .nil [v, b, c, d, e] 0 := by kernel_rfl
theorem set5_4 (a b c d e v : V) : (Tr.ofListFrom .nil [a, b, c, d, e] 0).set v 4 = Tr.ofListFrom .nil [a, b, c, d, v] 0 := by kernel_rfl
theorem bx_putO (x e : Nat) (l : List V) : Bx (S.put x (bxO e l)) x e l := by
 show (S.put x (bxO e l)).heap.get x = some (bxO e l)
 rw [qbp, if_pos rfl]
def renN (n : Bs) (x : Nd) : Nd := .mk n x.kind x.exec x.data x.kids
theorem NodeAt.rename {b : Nat} {x : Nd} (h : NodeAt S b x) (n : Bs) : ∃ U, stP 1 (.ptr b 0) (sv n) S = some (.tuple [], U) ∧ NodeAt U b (renN n x) ∧ Grew (fun y => y = b) S U ∧ U.next = S.next := by
 have g : Grew (fun y => y = b) S (S.put b (bxO 24 (qe5 (renN n x)))) := qbl _ _
 exact ⟨_, bx_st5 h.on h.bx rfl rfl (by decide) (set5_0 _ _ _ _ _ _) (oneV_sv n), ⟨g.on.trans h.on, bx_putO _ _ _⟩, g, rfl⟩
def qit (l : List Nd) : Nd := .mk [] 2 false [] l
theorem NodeR.setKids {b : Nat} {l m : List Nd} {kv kv' : V} (h : NodeR S b (qit l) kv) (hv : OneV kv') : ∃ U, stP 1 (.ptr b 4) kv' S = some (.tuple [], U) ∧ NodeR U b (qit m) kv' ∧ Grew (fun y => y = b) S U ∧ U.next = S.next := by
 have g : Grew (fun y => y = b) S (S.put b (bxO 24 (cellsV (qit m) kv'))) := qbl _ _
 exact ⟨_, bx_st5 h.on h.bx rfl rfl (by decide) (set5_4 _ _ _ _ _ _) hv, ⟨g.on.trans h.on, bx_putO _ _ _⟩, g, rfl⟩
theorem winsN_ren (n : Bs) (x : Nd) : qfu (renN n x) = qfu x := by rw [qhv, qhv]; rfl
theorem cntN_ren (n : Bs) (x : Nd) : qei (renN n x) = qei x := by rw [qk7, qk7]; rfl
theorem hit_ren (n : Bs) (x : Nd) (h : Bs) : hit (renN n x) h = hit x h := by unfold hit; rw [winsN_ren]
theorem ok_ren {n : Bs} {x : Nd} (h : x.ok) (hn : n.length < 9223372036854775808) : (renN n x).ok := by
 cases x with
 | mk a k e d l =>
  unfold Nd.ok at h
  show (Nd.mk n k e d l).ok
  unfold Nd.ok
  exact ⟨hn, h.2⟩
end
section
variable {S T U X : St} {ab wr N0 : Nat} {kv v5 : V} {hs ks : List Bs} {ps : List Nd}
theorem row_notmap {b e z : Nat} {l : List (Tr V)} {kvs : List (V × V)} (h : RowAt S b e z l) (h' : MapAt S b kvs) : False := by
 obtain ⟨c, h1, _⟩ := h.row
 obtain ⟨es, cl, h2, _⟩ := h'
 rw [h1] at h2
 cases h2
def addL (ks : List Bs) : List Bs → List Bs
 | [] => ks
 | h :: l => addL (if h ∈ ks then ks else ks ++ [h]) l
theorem addL_nodup : ∀ (l ks : List Bs), ks.Nodup → (addL ks l).Nodup
 | [], ks, h => h
 | h :: l, ks, hk => by
  rw [addL]
  refine addL_nodup l _ ?_
  split
  · exact hk
  · next hm => exact List.nodup_append.2 ⟨hk, List.pairwise_singleton _ h, fun x hx y hy e => hm (by rw [List.mem_singleton.1 hy] at e; rw [← e]; exact hx)⟩
theorem mem_addL {x : Bs} : ∀ (l ks : List Bs), x ∈ addL ks l ↔ x ∈ ks ∨ x ∈ l
 | [], ks => by simp [addL]
 | h :: l, ks => by
  rw [addL, mem_addL l]
  by_cases hm : h ∈ ks
  · rw [if_pos hm, List.mem_cons]
    constructor
    · rintro (e | e)
      · exact .inl e
      · exact .inr (.inr e)
    · rintro (e | e | e)
      · exact .inl e
      · rw [e]; exact .inl hm
      · exact .inr e
  · rw [if_neg hm, List.mem_append, List.mem_singleton, List.mem_cons]
    constructor
    · rintro ((e | e) | e)
      · exact .inl e
      · exact .inr (.inl e)
      · exact .inr (.inr e)
    · rintro (e | e | e)
      · exact .inl (.inl e)
      · exact .inl (.inr e)
      · exact .inr e
theorem L91_spec {self : EV} {N : Nat} (nk : Ac → St → Rs) (ek : Nat → Ac → St → Rs) {v0 v8 v10 v11 w : V} {gl : List Bs} (hfew : gl.length ≤ 1000000) :
 ∀ (rest : List Bs) (j q : Nat) (ks : List Bs) (S : St), gl.drop j = rest → rest.length < q → S.on = false → TL S w gl → MapAt S wr (kvS (qd9 ks)) → wr < S.next →
 ∃ U, L4_91 self N nk ek q v0 v5 v8 (.map wr) v10 v11 w (.int .i64 (j : Int)) S = ek 4 (fr 112 [(0, v0), (5, v5), (8, v8), (9, .map wr), (10, v10), (11, v11)]) U ∧ MapAt U wr (kvS (qd9 (addL ks rest))) ∧ Grew (fun x => x = wr) S U
 | _, _, 0, _, _, _, hq, _, _, _, _ => by omega
 | [], j, q + 1, ks, S, hj, hq, ho, ht, hm, hl => by
  refine ⟨S, ?_, hm, Grew.refl _ _⟩
  rw [L4_91_eq, ht.len, oB]
  dsimp only
  rw [lssN, decide_eq_false (Nat.not_lt.2 (qbq hj)), oB, ifK_bool, cond_false]
 | h :: rest, j, q + 1, ks, S, hj, hq, ho, ht, hm, hl => by
  obtain ⟨hjl, hf, hrest, hmem⟩ := qd0 hj
  obtain ⟨p, x1, x2⟩ := ht.ld ho (show gl[j]? = some h by rw [List.getElem?_eq_getElem hjl, hf])
  obtain ⟨es, cl, d1, d2⟩ := upd_str ho hm h 1
  have hd := d2 none
  have g3 : Grew (fun x => x = wr) S (S.put wr (.map es cl)) := qbl _ _
  have hm2 := qnb (S := S) wr d1
  rw [qo3] at hm2
  have ht2 : TL (S.put wr (.map es cl)) w gl := ht.grew (fun r e _ hr hx => row_notmap (by rw [← hx]; exact hr) hm) g3
  obtain ⟨U, b1, b2, b3⟩ := L91_spec (self := self) (N := N) nk ek (v0 := v0) (v8 := v8) (v10 := v10) (v11 := v11) hfew rest (j + 1) q _ (S.put wr (.map es cl)) hrest (by simpa using hq) (g3.on.trans ho) ht2 hm2 (by have := g3.next; omega)
  refine ⟨U, ?_, b2, g3.trans b3⟩
  rw [L4_91_eq, ht.len, oB]
  dsimp only
  rw [lssN, decide_eq_true hjl, oB, ifK_bool, cond_true, x1, oB, x2, oB]
  dsimp only
  rw [show qbe E0 31 (.map wr) (sv h) (.int .i64 1) S = _ from hd]
  show ((qab E0 .add 3 false true (.int .i64 (j : Int)) (.int .i64 1)).bind fun t68 => _) = _
  rw [qli (by omega), oB]
  exact b1
structure Pt (S : St) (ab wr N0 : Nat) (kv v5 : V) (hs : List Bs) (ps : List Nd) (ks : List Bs) : Prop where
 box : NodeR S ab (qit ps) kv
 kids : SliceIs S N0 kv ps
 map : MapAt S wr (kvS (qd9 ks))
 txt : TL S v5 hs
 old : ∀ b, qfd v5 = some b → b < ab
 aw : ab < wr
 wN : wr < N0
 nx : N0 ≤ S.next
theorem Pt.grew {W : Nat → Prop} (P : Pt S ab wr N0 kv v5 hs ps ks) (g : Grew W S T) (h1 : ∀ b, b < N0 → ¬ W b) (h2 : ∀ b, N0 ≤ b → b < S.next → ¬ W b) : Pt T ab wr N0 kv v5 hs ps ks := by
 have := P.aw; have := P.wN; have := P.nx
 exact ⟨P.box.grew (by omega) (h1 _ (by omega)) g, P.kids.grew h2 g, P.map.grew (by omega) (h1 _ P.wN) g, P.txt.grew (fun r _ hr _ => h1 r (by have := P.old r hr; omega)) g, P.old, P.aw, P.wN, Nat.le_trans P.nx g.next⟩
theorem Pt.grew0 (P : Pt S ab wr N0 kv v5 hs ps ks) (g : Grew (fun _ => False) S T) : Pt T ab wr N0 kv v5 hs ps ks := P.grew g (fun _ _ h => h) (fun _ _ _ h => h)
theorem Pt.kidsAt (P : Pt S ab wr N0 kv v5 hs ps ks) : Kids S kv S.next ps := by
 rcases P.kids with ⟨rfl, rfl⟩ | ⟨h0, r, h1, h2, h3, h4⟩
 · exact .inl rfl
 · exact .inr ⟨List.length_pos_iff.2 h0, r, h1, h2, h4, h4⟩
def ltr (k : Nat) : Bs := [UInt8.ofNat (97 + k)]
theorem ltr_nat {k : Nat} (h : k < 100) : (UInt8.ofNat (97 + k)).toNat = 97 + k := by
 rw [UInt8.toNat_ofNat']
 omega
theorem und34 : und E0 34 = some (.slice 5) := by kernel_rfl
theorem conv_row (ho : S.on = false) {r : Nat} {b : UInt8} (h : RowAt S r 5 1 ([b].map qiz)) : qb8 E0 34 9 (.slice r 0 1 1) S = some (sv [b], S) :=
 convert_row ho und34 und5 und9 h (off := 0) (len := 1) (cap := 1) (by simp)
theorem letter_parts (ho : S.on = false) {k : Nat} (hk : k < 100) : ∃ W, Grew (fun _ => False) S W ∧ cvI .u8 (.int .i64 (k : Int)) S = some (.int .u8 (k : Int), S) ∧
 ∃ t y, qab E0 .add 5 true false (.int .u8 97) (.int .u8 (k : Int)) = some t ∧ bsP 5 1 1 (Go.Proofs.Ytmeohejdafbodaa.Ev.one (.int .u8 0)) [(0, t)] S = some (y, W) ∧ qb8 E0 34 9 y W = some (sv (ltr k), W) := by
 obtain ⟨W, w1, w2, w3, w4⟩ := bsP_byte ho 5 (UInt8.ofNat (97 + k))
 refine ⟨W, w3, ?_, _, _, ?_, w1, conv_row (w3.on.trans ho) w2⟩
 · rw [cvI_int, wrap_u8 (by omega) (by omega)]
 · rw [binV_ii, intsV_add, wrap_u8 (by omega) (by omega), show ((97 : Int) + (k : Int)) = ((UInt8.ofNat (97 + k)).toNat : Int) from by rw [ltr_nat hk]; omega]
end
section
variable {S T U X : St} {ab wr N0 : Nat} {kv v5 : V} {hs ks : List Bs} {ps : List Nd}
def NV (v : V) (l : List Rw) : Prop := (l = [] ∧ (v = .nilslice ∨ v = .eslice)) ∨ v = .list 5 (l.map rwV)
theorem NV.len {v : V} {l : List Rw} (h : NV v l) : lnS v S = some (.int .i64 (l.length : Int), S) := by
 rcases h with ⟨rfl, rfl | rfl⟩ | rfl
 · rfl
 · rfl
 · show some (V.int .i64 (Int.ofNat (l.map rwV).length), S) = _
   rw [List.length_map]; rfl
theorem NV.ix {v : V} {l : List Rw} (h : NV v l) {i : Nat} {a : Rw} (ha : l[i]? = some a) : ixP 5 v (.int .i64 (i : Int)) = some (.cptr (rwV a)) := by
 rcases h with ⟨rfl, _⟩ | rfl
 · simp at ha
 · show (bif Nat.beq 5 5 && Nat.blt 0 5 then ((l.map rwV)[i]?).bind fun v => some (V.cptr v) else none) = _
   rw [List.getElem?_map, ha]; rfl
theorem faP0 (b : Nat) : faP 0 false 1 (.ptr b 0) = some (.ptr b 0) := by rw [show (1 : Nat) = 0 + 1 from rfl, faP_ptr]
theorem qkk {W : Nat → Prop} {v : V} {acc : List Nd} (h : SliceIs S N0 v acc) (hw : ∀ k n z, v = .oslice k 0 n z → ¬ W k) (g : Grew W S T) : SliceIs T N0 v acc := by
 rcases h with h | ⟨h1, r, rfl, h3, h4, h5⟩
 · exact .inl h
 · exact .inr ⟨h1, r, rfl, h3.grew h5 (hw r _ _ rfl) g, h4, Nat.lt_of_lt_of_le h5 g.next⟩
def qen (r : Rw) : Nd := renN [] (qb3 5 r)
def qjn (hs : List Bs) : List Rw → Nat → List Nd × List Bs → List Nd × List Bs
 | [], _, p => p
 | r :: rs, i, p => qjn hs rs (i + 1) (if qev (qen r) = 0 then (p.1 ++ [renN (ltr i) (qen r)], addL p.2 (qfk (qen r) [] hs)) else p)
theorem part_ok {r : Rw} (hr : qgj r) : (qen r).ok ∧ qei (qen r) ≤ most 5 := by
 refine ⟨ok_ren (short_ok 5 r (by omega) (allOk_deep 5 r hr)) (by show 0 < _; omega), ?_⟩
 unfold qen
 rw [cntN_ren]
 exact qo6 5 r
theorem L46_spec {n Nn : Nat} (hn : most 5 + 10 ≤ n) {v0 : V} {rs : List Rw} (hv : NV v0 rs) (hok : ∀ r ∈ rs, qgj r) (hsh : Short hs) (hfew : hs.length ≤ 8) (nk : Ac → St → Rs) (ek : Nat → Ac → St → Rs) (hNn : 1000000 < Nn) :
 ∀ (rest : List Rw) (i q : Nat) (kv : V) (ps : List Nd) (ks : List Bs) (S : St), (rs.take 6).drop i = rest → rest.length < q → ps.length ≤ i → i ≤ 6 → Pt S ab wr N0 kv v5 hs ps ks →
 ∃ kv' U, L4_46 (ev E0 KD n) Nn nk ek q v0 v5 (.ptr ab 0) (.map wr) (.int .i64 (i : Int)) S = ek 2 (fr 112 [(5, v5), (8, .ptr ab 0), (9, .map wr)]) U ∧ Pt U ab wr N0 kv' v5 hs (qjn hs rest i (ps, ks)).1 (qjn hs rest i (ps, ks)).2
 | _, _, 0, _, _, _, _, _, hq, _, _, _ => by omega
 | [], i, q + 1, kv, ps, ks, S, hi, hq, hps, hi6, P => by
  refine ⟨kv, S, ?_, P⟩
  have hge := qbq hi
  rw [List.length_take] at hge
  rw [L4_46_eq, hv.len, oB]
  dsimp only
  rw [show (V.int .i64 6) = .int .i64 ((6 : Nat) : Int) from rfl, qjd i rs.length 6 (by omega), show (decide (i < rs.length) && decide (i < 6)) = false from by
   rw [Bool.and_eq_false_iff, decide_eq_false_iff_not, decide_eq_false_iff_not]; omega, ifK_bool, cond_false]
 | r :: rest, i, q + 1, kv, ps, ks, S, hi, hq, hps, hi6, P => by
  obtain ⟨hil, hf, hrest, hmem⟩ := qd0 hi
  have hil' := hil
  rw [List.length_take] at hil'
  have hri : rs[i]? = some r := by
   rw [← hf, List.getElem_take]
   exact List.getElem?_eq_getElem (by omega)
  have hAll := hok r (List.mem_of_getElem? hri)
  obtain ⟨okp, cntp⟩ := part_ok hAll
  obtain ⟨n', rfl⟩ : ∃ n', n = n' + 1 := ⟨n - 1, by omega⟩
  have haw := P.aw; have hwN := P.wN; have hnx := P.nx
  rw [List.length_cons] at hq
  obtain ⟨S1, a1, a2, a3, a4⟩ := qhn P.box.on (Tr.ofListFrom .nil [(sv []), (.int .i64 0), (.bool false), (sv []), .nilslice] 0) (qb3 5 r)
  obtain ⟨S2, b1, b2, b3, b4⟩ := a2.rename []
  rw [show renN [] (qb3 5 r) = qen r from rfl] at b2
  have g02 : Grew (fun _ => False) S S2 := Grew.then a3 b3 fun x hx e => by omega
  have P2 := P.grew0 g02
  by_cases hc : qev (qen r) = 0
  · -- it counts
    obtain ⟨w, S3, c1, c2, c3⟩ := f8R_run (n' + 1 - qei (qen r) - 5) b2.on (qen r) okp (kv := qe2 (qfv (qen r).kids)) (.inl rfl) P2.txt hsh (by omega)
    rw [show n' + 1 - qei (qen r) - 5 + qei (qen r) + 5 = n' + 1 by omega, nodeV_enc] at c1
    rw [if_pos hc] at c2
    have on3 := c3.on.trans b2.on
    have P3 := P2.grew0 c3
    have n3 := c3.next
    have hgl : (qfk (qen r) [] hs).length ≤ 1000000 := by
     have := qn1 (qen r) hs []
     simp at this; omega
    have ihead : ∀ (K4 : Ac → St → Rs) (E4 : Nat → Ac → St → Rs), ∃ S4, L4_91 (ev E0 KD (n' + 1)) Nn K4 E4 Nn v0 v5 (.ptr ab 0) (.map wr) (.int .i64 (i : Int)) (.ptr S.next 0) w (.int .i64 ((0 : Nat) : Int)) S3 = E4 4 (fr 112 [(0, v0), (5, v5), (8, .ptr ab 0), (9, .map wr), (10, .int .i64 (i : Int)), (11, .ptr S.next 0)]) S4 ∧ MapAt S4 wr (kvS (qd9 (addL ks (qfk (qen r) [] hs)))) ∧ Grew (fun x => x = wr) S3 S4 :=
     fun K4 E4 => L91_spec (self := ev E0 KD (n' + 1)) (N := Nn) K4 E4 hgl (qfk (qen r) [] hs) 0 Nn ks S3 rfl (by omega) on3 c2 P3.map (by omega)
    obtain ⟨S4, d1, d2, d3⟩ := ihead (R4_75 (ev E0 KD (n' + 1)) Nn (qlb (ev E0 KD (n' + 1)) Nn (qla (ev E0 KD (n' + 1)) Nn nk ek q) ek) (exB 3 (qlb (ev E0 KD (n' + 1)) Nn (qla (ev E0 KD (n' + 1)) Nn nk ek q) ek) ek)) (exB 4 (R4_75 (ev E0 KD (n' + 1)) Nn (qlb (ev E0 KD (n' + 1)) Nn (qla (ev E0 KD (n' + 1)) Nn nk ek q) ek) (exB 3 (qlb (ev E0 KD (n' + 1)) Nn (qla (ev E0 KD (n' + 1)) Nn nk ek q) ek) ek)) (exB 3 (qlb (ev E0 KD (n' + 1)) Nn (qla (ev E0 KD (n' + 1)) Nn nk ek q) ek) ek))
    have on4 := d3.on.trans on3
    have n4 := d3.next
    obtain ⟨W, e1, e2, t, y, e3, e4, e5⟩ := letter_parts on4 (k := i) (by omega)
    have nW := e1.next
    have nodeW : NodeAt W S.next (qen r) := ((b2.grew (by omega) (fun h => h) c3).grew (by omega) (by omega) d3).grew (by omega) (fun h => h) e1
    obtain ⟨S6, h1, h2, h3, h4⟩ := nodeW.rename (ltr i)
    have on6 := h2.on
    have box6 : NodeR S6 ab (qit ps) kv := ((P3.box.grew (by omega) (by omega) d3).grew (by omega) (fun h => h) e1).grew (by omega) (by omega) h3
    have kids6 : SliceIs S6 N0 kv ps := by
     have hk : ∀ k n z, kv = .oslice k 0 n z → k < S.next := fun k n z e => by
      rcases P.kids with ⟨_, q2⟩ | ⟨_, k', q2, _, _, q5⟩
      · rw [q2] at e; cases e
      · rw [q2] at e; cases e; exact q5
     exact qkk (qkk (qkk P3.kids (fun k n z e he => by rcases P.kids with ⟨_, q2⟩ | ⟨_, k', q2, _, q4, _⟩ <;> rw [q2] at e <;> cases e; omega) d3) (fun _ _ _ _ h => h) e1) (fun k n z e he => by have := hk k n z e; omega) h3
    have map6 : MapAt S6 wr (kvS (qd9 (addL ks (qfk (qen r) [] hs)))) := (d2.grew (by omega) (fun h => h) e1).grew (by omega) (by omega) h3
    have txt6 : TL S6 v5 hs := ((P3.txt.grew (fun r e hr _ hx => by have := P.old r hr; omega) d3).grew0 e1).grew (fun r e hr _ hx => by have := P.old r hr; omega) h3
    obtain ⟨T7, kv', S7, f1, f2, f3, f4⟩ := kids6.add on6 (by omega) (by omega) (Tr.ofListFrom .nil [(sv []), (.int .i64 0), (.bool false), (sv []), .nilslice] 0) (renN (ltr i) (qen r))
    have on7 := f4.on.trans on6
    have n7 := f4.next
    have box7 : NodeR S7 ab (qit ps) kv := box6.grew (by omega) (by omega) f4
    have one7 : OneV kv' := by rcases f3 with ⟨_, rfl⟩ | ⟨_, r, rfl, _⟩ <;> exact ⟨rfl, rfl, rfl, rfl⟩
    obtain ⟨S8, g1, g2, g3, g4⟩ := box7.setKids (m := ps ++ [renN (ltr i) (qen r)]) one7
    have P8 : Pt S8 ab wr N0 kv' v5 hs (ps ++ [renN (ltr i) (qen r)]) (addL ks (qfk (qen r) [] hs)) :=
     ⟨g2, f3.grew (fun r h1 h2 e => by omega) g3, (map6.grew (by omega) (by omega) f4).grew (by omega) (by omega) g3, (txt6.grew (fun r e hr _ hx => by have := P.old r hr; omega) f4).grew (fun r e hr _ hx => by have := P.old r hr; omega) g3, P.old, haw, hwN, by omega⟩
    obtain ⟨kv2, U, k1, k2⟩ := L46_spec hn hv hok hsh hfew nk ek hNn rest (i + 1) q kv' _ _ S8 hrest (by omega) (by rw [List.length_append, List.length_singleton]; omega) (by omega) P8
    refine ⟨kv2, U, ?_, by rw [qjn, if_pos hc]; exact k2⟩
    rw [L4_46_eq, hv.len, oB]
    dsimp only
    rw [show (V.int .i64 6) = .int .i64 ((6 : Nat) : Int) from rfl, qjd i rs.length 6 (by omega), decide_eq_true (show i < rs.length by omega), decide_eq_true (show i < 6 by omega), Bool.and_self, ifK_bool, cond_true, hv.ix hri, oB, ldA_kidR, oB]
    dsimp only
    rw [show (V.int .i64 5) = .int .i64 ((5 : Nat) : Int) from rfl, qaq kd6, qn3 5 r (by omega), callP_ret, oB, qel, a1, oB]
    dsimp only
    rw [faP0, oB, b1, oB]
    dsimp only
    rw [b2.fA, oB]
    dsimp only
    rw [qk6 _ _ okp, callP_ret, neqE, oB, decide_eq_true hc, Bool.not_true, ifK_bool, cond_false, b2.fA, oB]
    dsimp only
    rw [c1, callP_ret, show V.int .i64 0 = .int .i64 ((0 : Nat) : Int) from rfl, d1, exB_same, R4_75_eq, e2, oB]
    dsimp only
    rw [e3, oB, e4, oB]
    dsimp only
    rw [e5, oB]
    dsimp only
    rw [faP0, oB, h1, oB]
    dsimp only
    rw [faP4, oB, box6.f4, oB]
    dsimp only
    rw [h2.fA, oB]
    dsimp only
    rw [f1, oB]
    dsimp only
    rw [f2, oB]
    dsimp only
    rw [oB, g1, oB]
    dsimp only
    rw [R4_55_eq, qli (by omega), oB, N4_46_eq, k1]
  · obtain ⟨kv2, U, k1, k2⟩ := L46_spec hn hv hok hsh hfew nk ek hNn rest (i + 1) q kv ps ks S2 hrest (by omega) (by omega) (by omega) P2
    refine ⟨kv2, U, ?_, by rw [qjn, if_neg hc]; exact k2⟩
    rw [L4_46_eq, hv.len, oB]
    dsimp only
    rw [show (V.int .i64 6) = .int .i64 ((6 : Nat) : Int) from rfl, qjd i rs.length 6 (by omega), decide_eq_true (show i < rs.length by omega), decide_eq_true (show i < 6 by omega), Bool.and_self, ifK_bool, cond_true, hv.ix hri, oB, ldA_kidR, oB]
    dsimp only
    rw [show (V.int .i64 5) = .int .i64 ((5 : Nat) : Int) from rfl, qaq kd6, qn3 5 r (by omega), callP_ret, oB, qel, a1, oB]
    dsimp only
    rw [faP0, oB, b1, oB]
    dsimp only
    rw [b2.fA, oB]
    dsimp only
    rw [qk6 _ _ okp, callP_ret, neqE, oB, decide_eq_false hc, Bool.not_false, ifK_bool, cond_true, R4_55_eq, qli (by omega), oB, N4_46_eq, k1]
end
section
variable {S T U X : St} {ab wr N0 : Nat} {kv v5 : V} {hs ks : List Bs} {ps : List Nd}
theorem ql9 : ∀ (l m : List Nd), qg8 (l ++ m) = qg8 l ++ qg8 m
 | [], m => by rw [qg8]; rfl
 | x :: l, m => by rw [List.cons_append, qg8, qg8, ql9 l m, List.append_assoc]
theorem hit_top (l : List Nd) (x : Nd) (h : Bs) : hit (qit (l ++ [x])) h = (hit (qit l) h || hit x h) := by
 have e : ∀ m, qfu (qit m) = qg8 m := fun m => by rw [qhv]; rfl
 unfold hit
 rw [e, e, ql9, show qg8 [x] = qfu x ++ [] from by rw [qg8, qg8], List.append_nil]
 cases isH h with
 | false => rfl
 | true => simp
structure Pl (hs : List Bs) (p : List Nd × List Bs) : Prop where
 oks : ∀ y ∈ p.1, y.ok ∧ qei y ≤ most 5
 nd : p.2.Nodup
 mem : ∀ h, h ∈ p.2 ↔ h ∈ hs ∧ hit (qit p.1) h = true
theorem parts_inv : ∀ (rest : List Rw) (i : Nat) (p : List Nd × List Bs), i + rest.length ≤ 6 → p.1.length ≤ i → (∀ r ∈ rest, qgj r) → Pl hs p → Pl hs (qjn hs rest i p) ∧ (qjn hs rest i p).1.length ≤ 6
 | [], i, p, hi, hl, _, h => ⟨h, by rw [qjn]; simp at hi; omega⟩
 | r :: rest, i, p, hi, hl, hr, h => by
  rw [List.length_cons] at hi
  rw [qjn]
  obtain ⟨okp, cntp⟩ := part_ok (hr r (List.mem_cons_self ..))
  refine parts_inv rest (i + 1) _ (by omega) ?_ (fun r hm => hr r (List.mem_cons_of_mem _ hm)) ?_
  · split
    · rw [List.length_append, List.length_singleton]; omega
    · omega
  · split
    · refine ⟨fun y hy => ?_, addL_nodup _ _ h.nd, fun x => ?_⟩
      · rcases List.mem_append.1 hy with q | q
        · exact h.oks y q
        · rw [List.mem_singleton.1 q]
          exact ⟨ok_ren okp (by show 1 < _; omega), by rw [cntN_ren]; exact cntp⟩
      · rw [mem_addL, qgz, hit_top, hit_ren, h.mem x, Bool.or_eq_true]
        simp only [List.not_mem_nil, false_or]
        constructor
        · rintro (⟨a, b⟩ | ⟨a, b⟩)
          · exact ⟨a, .inl b⟩
          · exact ⟨a, .inr b⟩
        · rintro ⟨a, b | b⟩
          · exact .inl ⟨a, b⟩
          · exact .inr ⟨a, b⟩
    · exact h
theorem pl_nil (hs : List Bs) : Pl hs ([], []) := ⟨fun _ h => (by cases h), .nil, fun h => by
 have : hit (qit []) h = false := by
  unfold hit
  rw [qhv]
  show (isH h && ([] : List Bs).contains h) = false
  simp
 rw [this]; simp⟩
theorem top_ok {l : List Nd} (h : ∀ y ∈ l, y.ok ∧ qei y ≤ most 5) (hl : l.length ≤ 6) : (qit l).ok ∧ qei (qit l) ≤ 6 * most 5 + 1 := by
 have hc := cntL_le (most 5) l fun y hy => (h y hy).2
 have hc6 : cntL l ≤ 6 * most 5 := Nat.le_trans hc (Nat.mul_le_mul_right _ hl)
 have h5 : most 5 < 100000000 := by decide
 refine ⟨?_, by rw [qk7]; show 1 + cntL l ≤ _; omega⟩
 show (Nd.mk [] 2 false [] l).ok
 unfold Nd.ok
 exact ⟨by show 0 < _; omega, by omega, by show 0 ≤ _; omega, by omega, by omega, (okL_iff l).2 fun y hy => (h y hy).1⟩
theorem neqI0 (x : Int) : qab E0 .eql 3 false true (.int .i64 x) (.int .i64 0) = some (.bool (decide (x = 0))) := by rw [binV_ii, intsV_eql]
theorem L29_spec {self : EV} {N : Nat} (nk : Ac → St → Rs) (ek : Nat → Ac → St → Rs) {w : V} {gl : List Bs} (hfew : gl.length ≤ 1000000) (ho : S.on = false) (ht : TL S w gl) (hm : MapAt S wr (kvS (qd9 ks))) (hin : ∀ h ∈ gl, h ∈ ks) :
 ∀ (rest : List Bs) (j q : Nat), gl.drop j = rest → rest.length < q → L4_29 self N nk ek q w (.map wr) (.int .i64 (j : Int)) S = ek 6 (fr 112 []) S
 | _, _, 0, _, hq => by omega
 | [], j, q + 1, hj, hq => by
  rw [L4_29_eq, ht.len, oB]
  dsimp only
  rw [lssN, decide_eq_false (Nat.not_lt.2 (qbq hj)), oB, ifK_bool, cond_false]
 | h :: rest, j, q + 1, hj, hq => by
  obtain ⟨hjl, hf, hrest, hmem⟩ := qd0 hj
  obtain ⟨p, x1, x2⟩ := ht.ld ho (show gl[j]? = some h by rw [List.getElem?_eq_getElem hjl, hf])
  rw [L4_29_eq, ht.len, oB]
  dsimp only
  rw [lssN, decide_eq_true hjl, oB, ifK_bool, cond_true, x1, oB, x2, oB]
  dsimp only
  rw [qn8 ho hm, oB]
  dsimp only
  rw [qje, if_pos (hin h hmem), show (some (1 : Int)).getD 0 = 1 from rfl, neqI0, oB, ifK_bool, show decide ((1 : Int) = 0) = false from rfl, cond_false, qli (by omega), oB, L29_spec nk ek hfew ho ht hm hin rest (j + 1) q hrest (by simpa using hq)]
theorem true_run (n : Nat) (S : St) : (ev E0 KD (n + 1)).f 10 [] S = some (.ret (.bool true), S) := by rw [qaq kd10, kfTrue_run]
theorem R9p_spec {n Nn : Nat} (hn : 6 * most 5 + 20 ≤ n) (hNn : 2000000 < Nn) (P : Pt S ab wr N0 kv v5 hs ps ks) (L : Pl hs (ps, ks)) (hl : ps.length ≤ 6) (hsh : Short hs) (hfew : hs.length ≤ 8) (nk : Ac → St → Rs) (ek : Nat → Ac → St → Rs) :
 ∃ U, R4_9 (ev E0 KD n) Nn nk ek (fr 112 [(5, v5), (8, .ptr ab 0), (9, .map wr)]) S = some (.ret (.bool true), U) := by
 obtain ⟨okt, cntt⟩ : (qit ps).ok ∧ qei (qit ps) ≤ 6 * most 5 + 1 := top_ok L.oks hl
 obtain ⟨n', rfl⟩ : ∃ n', n = n' + 1 := ⟨n - 1, by omega⟩
 have hnx := P.nx; have haw := P.aw; have hwN := P.wN
 by_cases hc : qev (qit ps) = 0
 · obtain ⟨w, S2, c1, c2, c3⟩ := f8R_run (n' + 1 - qei (qit ps) - 5) P.box.on (qit ps) okt (kv := kv) P.kidsAt P.txt hsh (by omega)
   rw [show n' + 1 - qei (qit ps) - 5 + qei (qit ps) + 5 = n' + 1 by omega] at c1
   rw [if_pos hc] at c2
   have on2 := c3.on.trans P.box.on
   have hm2 : MapAt S2 wr (kvS (qd9 ks)) := P.map.grew (by omega) (fun h => h) c3
   have hlen : (qfk (qit ps) [] hs).length = ks.length := by
    have nd1 : (qfk (qit ps) [] hs).Nodup := (keepB_pw (qit ps) hs [] .nil).imp fun h e => by subst e; exact List.lt_irrefl _ h
    refine ((List.perm_ext_iff_of_nodup nd1 L.nd).2 fun h => ?_).length_eq
    rw [qgz, L.mem h]; simp
   have hln : lnMap (.map wr) S2 = some (.int .i64 (ks.length : Int), S2) := by
    have := lnMap_of on2 hm2
    rw [this]; unfold kvS qd9; rw [List.length_map, List.length_map]
   have hgl : (qfk (qit ps) [] hs).length ≤ 1000000 := by
    have := qn1 (qit ps) hs []
    simp at this; omega
   refine ⟨S2, ?_⟩
   rw [R4_9_eq, P.box.fA, oB]
   dsimp only
   rw [qhe n' (qit ps) okt P.box.on P.kidsAt, callP_ret, neqE, oB, decide_eq_true hc, Bool.not_true, ifK_bool, cond_false, P.box.fA, oB]
   dsimp only
   rw [c1, callP_ret, c2.len, oB]
   dsimp only
   rw [hln, oB]
   dsimp only
   rw [hlen, neqInt, oB, decide_eq_true rfl, Bool.not_true, ifK_bool, cond_false, show V.int .i64 0 = .int .i64 ((0 : Nat) : Int) from rfl]
   rw [L29_spec _ _ hgl on2 c2 hm2 (fun h hh => (L.mem h).2 (by rw [qgz] at hh; simpa using hh)) (qfk (qit ps) [] hs) 0 Nn rfl (by omega), exB_same, R4_25_eq, true_run, callP_ret]
 · refine ⟨S, ?_⟩
   rw [R4_9_eq, P.box.fA, oB]
   dsimp only
   rw [qhe n' (qit ps) okt P.box.on P.kidsAt, callP_ret, neqE, oB, decide_eq_false hc, Bool.not_false, ifK_bool, cond_true, true_run, callP_ret]
theorem rd4 {n : Nat} {args : List V} {s : St} {r : En × St} (e : qco E0 (ev E0 KD n) qa1 Try.f4 B4 args s = some r) : (ev E0 KD (n + 1)).f 4 args s = some r := qb5 (c := C4) (d := B4) (by kernel_rfl) (by kernel_rfl) (qa3 C4 _ (by kernel_rfl)) rfl e
theorem build24 : buildV E0 24 [(1, (.int .i64 2))] = some (vAgg (cellsV (qit []) .nilslice)) := by kernel_rfl
theorem parts_run (ho : S.on = false) {v0 v1 : V} {rs : List Rw} {l : List Bs} (hv : NV v0 rs) (hok : ∀ r ∈ rs, qgj r) (hl : TV v1 l) : ∃ n U, (ev E0 KD n).f 4 [v0, v1] S = some (.ret (.bool true), U) := by
 generalize hn : 6 * most 5 + 20 = n
 have h5 : most 5 < 100000000 := by decide
 obtain ⟨w, T, t1, t2, t3⟩ := L106_spec (m := n) (N := qa1) (v0 := v0) ho hl (R4_3 (ev E0 KD n) qa1 (qaw E0 (ev E0 KD n) Try.f4) qad) (exB 0 (R4_3 (ev E0 KD n) qa1 (qaw E0 (ev E0 KD n) Try.f4) qad) qad) (min l.length 8) 0 qa1 .nilslice S (Nat.zero_add _) (by unfold qa1; omega) (Grew.refl _ _) .nil
 have onT := t3.on.trans ho
 obtain ⟨S1, a1, a2, a3, a4⟩ := var_new onT 24 5 (Tr.ofListFrom .nil [(sv []), (.int .i64 0), (.bool false), (sv []), .nilslice] 0) (cellsV (qit []) .nilslice) rfl (by decide) big5
 have on1 := a3.on.trans onT
 have gm : Grew (fun _ => False) S1 (nw S1 (.map [] 0)) := qc6 on1 _ _
 have hm2 : MapAt (nw S1 (.map [] 0)) S1.next (kvS (qd9 [])) := ⟨[], 0, by rw [qem, if_pos rfl], MapOk.new⟩
 have n2 : (nw S1 (.map [] 0)).next = S1.next + 1 := rfl
 have emk : qex E0 31 none S1 = some (.map S1.next, nw S1 (.map [] 0)) := rfl
 generalize nw S1 (.map [] 0) = S2 at gm hm2 n2 emk
 have P : Pt S2 T.next S1.next S2.next .nilslice w (cutH l) [] [] :=
  ⟨⟨gm.on.trans on1, a2.grew (by omega) (fun h => h) gm⟩, .inl ⟨rfl, rfl⟩, hm2, (t2.tl.grew0 a3).grew0 gm, fun b hb => t2.lt hb, by omega, by omega, Nat.le_refl _⟩
 obtain ⟨kv', U, k1, k2⟩ := L46_spec (n := n) (Nn := qa1) (by omega) hv hok (cutH_short l) (cutH_few l) (R4_9 (ev E0 KD n) qa1 (fun a s => qaz [4] a fun a => qaw E0 (ev E0 KD n) Try.f4 a s) qad) (exB 2 (R4_9 (ev E0 KD n) qa1 (fun a s => qaz [4] a fun a => qaw E0 (ev E0 KD n) Try.f4 a s) qad) qad) (by unfold qa1; omega) (rs.take 6) 0 qa1 .nilslice [] [] S2 rfl (by rw [List.length_take]; unfold qa1; omega) (Nat.le_refl _) (by omega) P
 obtain ⟨L, hlen⟩ := parts_inv (hs := cutH l) (rs.take 6) 0 ([], []) (by rw [List.length_take]; omega) (Nat.le_refl _) (fun r hr => hok r (List.mem_of_mem_take hr)) (pl_nil _)
 obtain ⟨U', z1⟩ := R9p_spec (n := n) (Nn := qa1) (by omega) (by unfold qa1; omega) k2 L hlen (cutH_short l) (cutH_few l) (fun a s => qaz [4] a fun a => qaw E0 (ev E0 KD n) Try.f4 a s) qad
 refine ⟨n + 1, U', rd4 ?_⟩
 show F4 (ev E0 KD n) qa1 v0 v1 S = _
 rw [F4_eq, show V.int .i64 0 = .int .i64 ((0 : Nat) : Int) from rfl, t1, exB_same, R4_3_eq, build24, oB, oB, qel, a1, oB]
 dsimp only
 rw [emk, oB]
 dsimp only
 rw [show V.int .i64 0 = .int .i64 ((0 : Nat) : Int) from rfl]
 refine k1.trans ?_
 rw [exB_same]
 exact z1
end
section
variable {H : Type} {enc : TypeId × Value → H} {W : World}
theorem nodes_of_trod {fuel : Nat} {cs : List Value} {x : DataW H × List MemPlace} (h : DataW.trod enc Try.prog W 0 (fun _ => true) true fuel 22 cs = some x) :
 ∃ (cv : Value) (v : V) (l : List Rw), cs = [cv] ∧ VRel (frz W) v cv ∧ NV v l ∧ (∀ r ∈ l, qgj r) ∧ ∃ ad len cap, cv = .slice ad len cap := by
 obtain ⟨cv, v, l, h1, h2, h3, hq, h4⟩ := qkx (F := rwV) (Q := qgj) u22 c24 (by omega) (fun fuel cs x hx => by
  obtain ⟨r, hr1, hr2, hr3⟩ := qky fuel _ _ hx
  exact ⟨r, .agg cs.toArray, hr1, by rw [qfs]; rfl, by simp [Value.cells], hr3⟩) h
 exact ⟨cv, v, l, h1, h2, h3, hq, h4⟩
end
theorem parts_calls (W : World) {v w : Value} {v0 v1 : V} {rs : List Rw} {l : List Bs} (hv : VRel (frz W) v0 v) (hr : NV v0 rs) (hok : ∀ r ∈ rs, qgj r) (hw : VRel (frz W) v1 w) (hl : TV v1 l) : Calls Try.prog 4 #[v, w] W fun e w' => e = .returned (.bool true) ∧ Below W.heap.size W w' := by
 obtain ⟨n, U, hl⟩ := parts_run (S := s0) rfl hr hok hl
 refine ((ev_sim qm1 okD n).call (base0 W) _ s0 W 4 [v0, v1] #[v, w] _ U (relF W) (.cons hv (.cons hw .nil)) hl).mono fun ce w' hce => ?_
 obtain ⟨ρ', cv, rfl, _, hv, hR⟩ := hce
 cases hv
 exact ⟨rfl, qgn hR⟩
end Go.Proofs.Ytmeohejdafbodaa.W
