/-
  WHAT THE FUNCTIONS COME TO: each is read by the evaluator, printed, and told as a function of data, part 11 of 12 (no condition).
-/
import Derived.Test.YtmeohejdafbodaaW10
namespace Go.Proofs.Ytmeohejdafbodaa.W
open Go.Proofs.Ytmeohejdafbodaa.Ev Go.RowKit
section
variable {S T U : St} {v : V} {bs : Bs} {N hb kb l : Nat}
theorem conv_bytes (s : Bs) : qaz E0 9 34 (sv s) S = some (.oslice S.next 0 s.length 1, qaf S 5 1 (s.map qdd)) := by
 unfold qaz;rw [und34, und9];simp only [oB, qcz, Bool.or_self, cF, sv, und5];have := qi2 s.length s (lR _);rw [List.take_length] at this;rw [this]
structure Lh (S : St) (hb kb l : Nat) : Prop where
 h : Arr S hb 72 8
 k : Arr S kb 73 64
 rcd : S.heap.get l = some (qd2 0 none (.ptr hb 0) (.ptr kb 0))
 hl : hb < S.next
 kl : kb < S.next
 ll : l < S.next
 hk : kb ≠ hb
 lh : l ≠ hb
 lk : l ≠ kb
theorem Lh.grew {W : Nat->Prop} (L : Lh S hb kb l) (g : Grew W S T) (hw : ∀ b, b < S.next->¬ W b) : Lh T hb kb l := by
 have := g.next
 exact ⟨L.h.grew L.hl (hw _ L.hl) g, L.k.grew L.kl (hw _ L.kl) g, by rw [g.keep l L.ll (hw _ L.ll)]; exact L.rcd, Nat.lt_of_lt_of_le L.hl this, Nat.lt_of_lt_of_le L.kl this, Nat.lt_of_lt_of_le L.ll this, L.hk, L.lh, L.lk⟩
theorem round27 (m : Nat) (L : Lh S hb kb l) {w : V} (hB : Blk S w) (hne : ∀ r, w = .oslice r 0 64 1->r ≠ hb/\r ≠ l) : ∃ U, qdl E0 (ev E0 KD (m + 5)) (.yield l) [w] S = some (.ret (.bool true), U)/\Lh U hb kb l/\Grew (fun b => b = hb\/b = l) S U := by
 have ho := L.h.1;have hhl := L.hl; have hkl := L.kl; have hll := L.ll; have hhk := L.hk; have hlh := L.lh; have hlk := L.lk;have g1 : Grew (fun x => x = l) S (S.put l (qd2 2 none (.ptr hb 0) (.ptr kb 0))) := qb2 _ _;have hr1 : (S.put l (qd2 2 none (.ptr hb 0) (.ptr kb 0))).heap.get l = some (qd2 2 none (.ptr hb 0) (.ptr kb 0)) := by rw [qby, iP rfl]
 have hmid : midR l (frR 40 [(3, .ptr hb 0), (4, .ptr kb 0), (5, w), (15, w)] l) S = fun k => k (S.put l (qd2 2 none (.ptr hb 0) (.ptr kb 0))) := funext fun k => midR_of ho L.rcd rfl;have n1 : (S.put l (qd2 2 none (.ptr hb 0) (.ptr kb 0))).next = S.next := rfl
 generalize S.put l (qd2 2 none (.ptr hb 0) (.ptr kb 0)) = S1 at g1 hr1 hmid n1;have h1 : Arr S1 hb 72 8 := L.h.grew hhl (fun e => hlh e.symm) g1;have k1 : Arr S1 kb 73 64 := L.k.grew hkl (fun e => hlk e.symm) g1;obtain ⟨a, a1, _, a2⟩ := h1.all qjq;obtain ⟨b, S2, b1, b2, b3⟩ := f54_run m h1.1 a2 (hB.grew (fun r hr e => (hne r hr).2 e) g1) k1 (by omega);have n2 := b3.next
 have h2 : Arr S2 hb 72 8 := h1.grew (by omega) (fun h => h) b3;have k2 : Arr S2 kb 73 64 := k1.grew (by omega) (fun h => h) b3;obtain ⟨S3, c1, c2, c3, c4⟩ := h2.put qjq b2;have k3 : Arr S3 kb 73 64 := k2.grew (by omega) hhk c3
 have hr3 : S3.heap.get l = some (qd2 2 none (.ptr hb 0) (.ptr kb 0)) := by
  rw [c3.keep l (by omega) hlh, b3.keep l (by omega) (fun h => h)]; exact hr1
 have g4 : Grew (fun x => x = l) S3 (S3.put l (qd2 0 none (.ptr hb 0) (.ptr kb 0))) := qb2 _ _;refine ⟨S3.put l (qd2 0 none (.ptr hb 0) (.ptr kb 0)), ?_, ⟨c2.grew (by omega) (fun e => hlh e.symm) g4, k3.grew (by omega) (fun e => hlk e.symm) g4, by rw [qby, iP rfl], by show hb < S3.next; omega, by show kb < S3.next; omega, by show l < S3.next; omega, hhk, hlh, hlk⟩, ?_⟩
 . refine round_run (da := DA27_40) (db := DB27_40) ho L.rcd (qa3 YA27_40 _ (by kernel_rfl)) (qa3 YB27_40 _ (by kernel_rfl)) (?_ : Y27_40 (ev E0 KD (m + 4)) qa1 l (.ptr hb 0) (.ptr kb 0) w S = _)
   rw [Y27_40_eq, hmid];dsimp only;rw [a1, oB];dsimp only;rw [b1, callE_ret, c1, oB];exact qo4 c2.1 hr3
 . exact (g1.mono fun x _ e => .inr e).trans ((b3.mono fun _ _ h => h.elim).trans ((c3.mono fun x _ e => .inl e).trans (g4.mono fun x _ e => .inr e)))
theorem gtr0 (n : Nat) : qa4 E0 .gtr 3 false true (.int .i64 (n : Int)) (.int .i64 0) = some (.bool (decide (0 < n))) := by
 rw [gtrI0]
 congr 2
 simp
theorem size5 : Ev.sizeT E0 5 = some 1 := by kernel_rfl
theorem cut_head (hB : BL S v bs N) (ho : S.on = false) (h64 : bs.length = 64) : ∃ r, v = .oslice r 0 64 1/\qbl E0 34 v none (some (.int .i64 64)) none S = some (.oslice r 0 64 1, S)/\r < S.next/\N<=r/\RowAt S r 5 1 (bs.map qdd) := by
 obtain ⟨r, rfl, h2, h3, h4⟩ := hB;refine ⟨r, by rw [h64], ?_, h3, h4, h2⟩;unfold qbl;rw [und34, oB];simp only;rw [size5, oB, show (Nat.beq 1 1 && Nat.blt 0 1) = true from rfl, cT, sizeB_off ho h2, oB, lM, h64];dsimp only;rw [Nat.sub_zero, Nat.div_one, show V.int .i64 64 = .int .i64 ((64 : Nat) : Int) from rfl, qnl .i64 (lR 64), oB];rfl
theorem cut_tail (ho : S.on = false) {r : Nat} (h : RowAt S r 5 1 (bs.map qdd)) (h64 : bs.length = 64) : qbl E0 34 (.oslice r 0 64 1) (some (.int .i64 64)) none none S = some (.eslice, S) := by
 unfold qbl;rw [und34, oB];simp only;rw [size5, oB, show (Nat.beq 1 1 && Nat.blt 0 1) = true from rfl, cT, sizeB_off ho h, oB, lM, h64];dsimp only;rw [Nat.sub_zero, Nat.div_one, show V.int .i64 64 = .int .i64 ((64 : Nat) : Int) from rfl, qnm .i64 (lR 64), oB];rfl
theorem f83_run (m : Nat) (L : Lh S hb kb l) {xb : Nat} {s : Bs} (hx : One S xb 9 (sv s)) (hxl : xb < S.next) (hs : s.length<=55) : ∃ U, (ev E0 KD (m + 6)).f 83 [.yield l, .ptr xb 0] S = some (.ret (.tuple []), U)/\Lh U hb kb l/\Grew (fun b => b = hb\/b = l) S U := by
 have ho := L.h.1;have hhl := L.hl; have hll := L.ll;have g1 : Grew (fun _ => False) S (qaf S 5 1 (s.map qdd)) := qbe ho _ _;have b1 : BL (qaf S 5 1 (s.map qdd)) (.oslice S.next 0 s.length 1) s S.next := ⟨S.next, rfl, qce ho (by omega) (by rw [lM]; unfold big; omega), by show S.next < S.next + 1; omega, lR _⟩
 have n1 : (qaf S 5 1 (s.map qdd)).next = S.next + 1 := rfl
 have hconv := conv_bytes (S := S) s;generalize qaf S 5 1 (s.map qdd) = S1 at g1 b1 n1 hconv;have on1 := g1.on.trans ho;obtain ⟨y, W, v2, S2, a1, a2, a3, a4⟩ := b1.push on1 (by omega) (by omega) 128;have n2 := a4.next
 have on2 := a4.on.trans on1;obtain ⟨v3, bs3, S3, c1, c2, c3, c4⟩ := L39p_spec (m := m + 5) (Nn := qa1) (v0 := .yield l) (v1 := .ptr xb 0) (R83_5 (ev E0 KD (m + 5)) qa1 (qak E0 (ev E0 KD (m + 5)) Try.f83) qa9) (exB 0 (R83_5 (ev E0 KD (m + 5)) qa1 (qak E0 (ev E0 KD (m + 5)) Try.f83) qa9) qa9) (55 - s.length) qa1 v2 (s ++ [128]) S2 (by rw [lA, List.length_singleton]; omega) (by unfold qa1; omega) on2 a3 (by omega);have n3 := c4.next
 have on3 := c4.on.trans on2;have hx3 : One S3 xb 9 (sv s) := ((hx.grew hxl (fun h => h) g1).grew (by omega) (by omega) a4).grew (by omega) (by omega) c4;obtain ⟨v4, bs4, S4, d1, d2, d3, d4⟩ := L20p_spec (m := m + 5) (Nn := qa1) (v0 := .yield l) (s := s) (R83_6 (ev E0 KD (m + 5)) qa1 (fun a s => qaa [] a fun a => qak E0 (ev E0 KD (m + 5)) Try.f83 a s) qa9) (exB 2 (R83_6 (ev E0 KD (m + 5)) qa1 (fun a s => qaa [] a fun a => qak E0 (ev E0 KD (m + 5)) Try.f83 a s) qa9) qa9) 8 0 qa1 v3 bs3 S3 rfl (by unfold qa1; omega) on3 hx3 (by omega) c2 (by omega) (by omega);have n4 := d4.next
 have on4 := d4.on.trans on3;have h64 : bs4.length = 64 := by omega
 have g04 : Grew (fun _ => False) S S4 := Grew.then (Grew.then (Grew.then g1 a4 fun x hx e => by omega) c4 fun x hx e => by omega) d4 fun x hx e => by omega
 have L4 := L.grew g04 fun _ _ h => h;obtain ⟨r, rfl, e1, e2, e3, e4⟩ := cut_head d2 on4 h64;obtain ⟨S5, f1, f2, f3⟩ := round27 m L4 (w := .oslice r 0 64 1) ⟨r, bs4, rfl, e4, by omega, e2⟩ (fun r' hr' => by cases hr'; exact ⟨by omega, by omega⟩);have on5 := f2.h.1;have e5 := e4.grew e2 (fun e => by rcases e with e | e <;> omega) f3;refine ⟨S5, rd83 ?_, f2, (g04.mono fun _ _ h => h.elim).trans f3⟩;show F83 (ev E0 KD (m + 5)) qa1 (.yield l) (.ptr xb 0) S = _;rw [F83_eq, hx.ld ho, oB];dsimp only;rw [hconv, oB];dsimp only;rw [show (V.int .u8 128) = .int .u8 (((128 : UInt8).toNat : Nat) : Int) from rfl, a1, oB];dsimp only;rw [a2, oB];dsimp only;refine c1.trans ?_;rw [exB_same, R83_5_eq, show V.int .i64 0 = .int .i64 ((0 : Nat) : Int) from rfl];refine d1.trans ?_;obtain ⟨q, hq⟩ : ∃ q, qa1 = q + 2 := ⟨qa1 - 2, by unfold qa1; omega⟩
 rw [exB_same, R83_6_eq, hq, L83_7_eq, qk6 (n := 64) (fun _ _ e => by cases e) rfl, oB];dsimp only;rw [gtr0, dT (by omega), oB, ifK_bool, cT, e1, oB];dsimp only;rw [f1, callP_ret, unV_not, oB, ifK_bool, Bool.not_true, cF, cut_tail on5 e5 h64, oB];dsimp only;rw [L83_7_eq, qk6 (n := 0) (fun _ _ e => by cases e) rfl, oB];dsimp only;rw [gtr0, dF (by omega), oB, ifK_bool, cF, exB_same]
 kernel_rfl
end
theorem rd27 {n : Nat} {args : List V} {s : St} {r : En × St} (e : qbu E0 (ev E0 KD n) qa1 Try.f27 B27 args s = some r) : (ev E0 KD (n + 1)).f 27 args s = some r := qar (c := C27) (d := B27) (by kernel_rfl) (by kernel_rfl) (qa3 C27 _ (by kernel_rfl)) rfl e
section
variable {S T U : St} {v : V} {bs : Bs} {N : Nat}
def BLo (S : St) (v : V) (bs : Bs) (N : Nat) : Prop := (bs = []/\v = .nilslice)\/(bs ≠ []/\BL S v bs N)
theorem fourB (ho : S.on = false) (a b c d : UInt8) : ∃ U, bsP 5 1 4 (Ev.one (.int .u8 0)) [(0, .int .u8 (a.toNat : Int)), (1, .int .u8 (b.toNat : Int)), (2, .int .u8 (c.toNat : Int)), (3, .int .u8 (d.toNat : Int))] S = some (.slice S.next 0 4 4, U)/\RowAt U S.next 5 1 ([a, b, c, d].map qdd)/\Grew (fun _ => False) S U/\U.next = S.next + 1 := by
 obtain ⟨U, a1, a2, a3, a4⟩ := qme ho 5 (Ev.one (.int .u8 0)) [.int .u8 (a.toNat : Int), .int .u8 (b.toNat : Int), .int .u8 (c.toNat : Int), .int .u8 (d.toNat : Int)] (fun v hv => by
  simp only [List.mem_cons, List.not_mem_nil, or_false] at hv
  rcases hv with rfl | rfl | rfl | rfl <;> exact ⟨rfl, rfl, rfl, rfl⟩) (by show 4 < big; unfold big; decide)
 exact ⟨U, a1 none, a2, a3, a4⟩
theorem rw_four {r : Nat} {L : List (Tr V)} (ho : S.on = false) (h : RowAt S r 5 1 L) (hl : L.length = 4) : RwS S (.slice r 0 4 4) 1 L := by
 refine ⟨by rw [hl]; rfl, ?_⟩;have := h.ldN ho 4 0 (by omega);rw [List.drop_zero, List.take_of_length_le (by omega), Nat.zero_mul] at this;rw [hl];exact this
theorem BLo.four (h : BLo S v bs N) (ho : S.on = false) (hN : N<=S.next) (hl : bs.length < 1000) (a b c d : UInt8) : ∃ W v' U, bsP 5 1 4 (Ev.one (.int .u8 0)) [(0, .int .u8 (a.toNat : Int)), (1, .int .u8 (b.toNat : Int)), (2, .int .u8 (c.toNat : Int)), (3, .int .u8 (d.toNat : Int))] S = some (.slice S.next 0 4 4, W)/\apP 5 1 1 v (.slice S.next 0 4 4) W = some (v', U)/\BLo U v' (bs ++ [a, b, c, d]) N/\Grew (fun x => N<=x) S U := by
 obtain ⟨W, h1, h2, h3, h4⟩ := fourB ho a b c d;have on1 := h3.on.trans ho;have hR := rw_four on1 h2 rfl;rcases h with ⟨rfl, rfl⟩ | ⟨hne, r, rfl, hr, hr2, hr3⟩
 . have gn : Grew (fun _ => False) W (qaf W 5 1 ([a, b, c, d].map qdd)) := qbe on1 _ _
   refine ⟨W, .oslice W.next 0 4 1, qaf W 5 1 ([a, b, c, d].map qdd), h1, ?_, .inr ⟨by simp, W.next, rfl, qce on1 (by omega) (by show 1 * 4 < big; unfold big; decide), by show W.next < W.next + 1; omega, by omega⟩, (h3.trans gn).mono fun _ _ h => h.elim⟩;unfold apP;rw [hR.1, oB, show lenV .nilslice = some 0 from rfl, oB, show Nat.blt ((0 + ([a, b, c, d].map qdd).length) * (1 + 1 + 1)) qae = true from blt_true.2 (by show 12 < qae; unfold qae; omega), cT];unfold qdk;rw [hR.2, oB];rfl
 . have hrow := hr.grew hr2 (fun h => h) h3
   obtain ⟨U, k1, k2, k3, k4⟩ := app_more (B := 1) on1 hrow hR (by simp) (by rw [lM, lM]; show (bs.length + 4) * 3 < qae; unfold qae; omega) (by rw [lM, lM]; show 1 * (bs.length + 4) < big; unfold big; omega);rw [lM, lM] at k1;refine ⟨W, _, U, h1, k1, .inr ⟨by simp, W.next, by rw [lA], by rw [List.map_append]; exact k2, by omega, by omega⟩, (h3.mono fun _ _ h => h.elim).trans (k3.mono fun x _ e => by subst e; exact hr3)⟩
theorem conv_out (ho : S.on = false) (h : BLo S v bs N) (hb : bs ≠ []) : qaz E0 34 9 v S = some (sv bs, S) := by
 rcases h with ⟨rfl, _⟩ | ⟨_, r, rfl, h2, _⟩
 . exact absurd rfl hb
 . unfold qaz
   rw [und34, und9];simp only [oB, qcz, Bool.or_self, cF, und5, lenV];have := firstV_row ho h2 (off := 0) (len := bs.length) (by omega);unfold qbn;simp only;rw [this];simp only [oB, qjd];rw [List.drop_zero, List.take_of_length_le (lR _)];rfl
theorem ixV8 {a : V} (h : AggV 8 a) {i : Nat} (hi : i < 8) : ∃ n : Int, ixV 8 1 false 1 a (.int .i64 (i : Int)) = some (.int .u32 n) := by
 obtain ⟨t, rfl, ht⟩ := h;obtain ⟨n, hn⟩ := ht i hi;refine ⟨n, ?_⟩;show (bif Nat.blt i 8 then partR false 1 8 t (i * 1) else none) = _;rw [blt_true.2 hi, cT, Nat.mul_one];show (bif Nat.blt i 8 then t.get i else none) = _;rw [blt_true.2 hi, cT, hn]
theorem L17_spec {m Nn : Nat} {a : V} (ha : AggV 8 a) (nk : Ac->St->Rs) (ek : Nat->Ac->St->Rs) (ds : List AD) :
 ∀ (d i q : Nat) (v : V) (bs : Bs) (S : St), i + d = 8->d < q->S.on = false->BLo S v bs N->bs.length = 4 * i->N<=S.next ->
 ∃ v' bs' U, L27_17 (ev E0 KD m) Nn nk ek q ds v a (.int .i64 (i : Int)) S = ek 2 (frD 40 [(6, v')] ds) U/\BLo U v' bs' N/\bs'.length = 32/\Grew (fun x => N<=x) S U
 | _, _, 0, _, _, _, _, hq, _, _, _, _ => by omega
 | 0, i, q + 1, v, bs, S, hi, hq, ho, hB, hl, hN => by
  refine ⟨v, bs, S, ?_, hB, by omega, Grew.refl _ _⟩;rw [L27_17_eq, eight, dF (by omega), oB, ifK_bool, cF]
 | d + 1, i, q + 1, v, bs, S, hi, hq, ho, hB, hl, hN => by
  have hi8 : i < 8 := by omega
  obtain ⟨n, hn⟩ := ixV8 ha hi8;obtain ⟨x1, f1⟩ := shr32 false true n 24;obtain ⟨x2, f2⟩ := shr32 false true n 16;obtain ⟨x3, f3⟩ := shr32 false true n 8;obtain ⟨c1, g1⟩ := cv8 .u32 x1 S;obtain ⟨c2, g2⟩ := cv8 .u32 x2 S;obtain ⟨c3, g3⟩ := cv8 .u32 x3 S;obtain ⟨c4, g4⟩ := cv8 .u32 n S;obtain ⟨W, v', U, k1, k2, k3, k4⟩ := hB.four ho hN (by omega) c1 c2 c3 c4;have nU := k4.next
  obtain ⟨v2, bs2, T, t1, t2, t3, t4⟩ := L17_spec (m := m) (Nn := Nn) ha nk ek ds d (i + 1) q v' (bs ++ [c1, c2, c3, c4]) U (by omega) (by omega) (k4.on.trans ho) k3 (by rw [lA]; show bs.length + 4 = _; omega) (by omega);refine ⟨v2, bs2, T, ?_, t2, t3, k4.trans t4⟩;rw [L27_17_eq, eight, dT hi8, oB, ifK_bool, cT, hn, oB, show V.int .u64 24 = .int .u64 ((24 : Nat) : Int) from rfl, f1, oB, g1, oB];dsimp only;rw [show V.int .u64 16 = .int .u64 ((16 : Nat) : Int) from rfl, f2, oB, g2, oB];dsimp only;rw [show V.int .u64 8 = .int .u64 ((8 : Nat) : Int) from rfl, f3, oB, g3, oB];dsimp only;rw [g4, oB];dsimp only;rw [k1, oB];dsimp only;rw [k2, oB];dsimp only;rw [qgp (by omega), oB, t1]
def Consts : Prop := ∀ (n : Nat) (S : St), ∃ a b, (ev E0 KD (n + 1)).f 52 [] S = some (.ret (.tuple [a, b]), S)/\AggV 8 a/\AggV 64 b
theorem kd52 : KD 52 = some kfConst := rfl
theorem consts : Consts := fun n S => ⟨_, _, by rw [qaq kd52, kfConst_run], ⟨tA, rfl, tA_all⟩, ⟨tB, rfl, tB_all⟩⟩
theorem body83 : E0.ext.get 83 = none/\qb9 E0 83 = true := ⟨by kernel_rfl, by kernel_rfl⟩
theorem lv27 {self : EV} (v x y z : V) (S : St) (ds : List AD) : qbi E0 self Try.f27 (frD 40 [(2, v), (6, x), (38, y), (39, z)] ds) [] .ret S = some (.ret v, S) := by kernel_rfl
theorem sum_run (hC : Consts) (m : Nat) (ho : S.on = false) (s : Bs) (hs : s.length<=55) : ∃ out U, (ev E0 KD (m + 8)).f 27 [sv s] S = some (.ret (sv out), U)/\out.length = 32/\Grew (fun _ => False) S U := by
 obtain ⟨a, b, c1, c2, c3⟩ := hC (m + 6) S;obtain ⟨a1, a2, a3⟩ := Arr.newOf ho 72 8 (zeros 8 [(.int .u32 0), (.int .u32 0), (.int .u32 0), (.int .u32 0), (.int .u32 0), (.int .u32 0), (.int .u32 0), (.int .u32 0)] rfl);have ea : nwP 72 8 (Tr.ofListFrom .nil [(.int .u32 0), (.int .u32 0), (.int .u32 0), (.int .u32 0), (.int .u32 0), (.int .u32 0), (.int .u32 0), (.int .u32 0)] 0) S = (.ptr S.next 0, (nwP 72 8 (Tr.ofListFrom .nil [(.int .u32 0), (.int .u32 0), (.int .u32 0), (.int .u32 0), (.int .u32 0), (.int .u32 0), (.int .u32 0), (.int .u32 0)] 0) S).2) := rfl;generalize (nwP 72 8 (Tr.ofListFrom .nil [(.int .u32 0), (.int .u32 0), (.int .u32 0), (.int .u32 0), (.int .u32 0), (.int .u32 0), (.int .u32 0), (.int .u32 0)] 0) S).2 = S1 at a1 a2 a3 ea;have on1 := a1.1;obtain ⟨b1, b2, b3⟩ := Arr.newOf on1 73 64 (zeros 64 (List.replicate 64 (.int .u32 0)) rfl);have eb : nwP 73 64 (Tr.ofListFrom .nil (List.replicate 64 (.int .u32 0)) 0) S1 = (.ptr S1.next 0, (nwP 73 64 (Tr.ofListFrom .nil (List.replicate 64 (.int .u32 0)) 0) S1).2) := rfl;generalize (nwP 73 64 (Tr.ofListFrom .nil (List.replicate 64 (.int .u32 0)) 0) S1).2 = S2 at b1 b2 b3 eb;have h2 : Arr S2 S.next 72 8 := a1.grew (by omega) (fun h => h) b2
 obtain ⟨S3, d1, d2, d3, d4⟩ := h2.put qjq c2;have k3 : Arr S3 S1.next 73 64 := b1.grew (by omega) (by omega) d3
 obtain ⟨S4, e1, e2, e3, e4⟩ := k3.put qnj c3;have h4 : Arr S4 S.next 72 8 := d2.grew (by omega) (by omega) e3
 have on4 := e2.1
 obtain ⟨S5, f1, f2, f3, f4⟩ : ∃ S5, (ev E0 KD (m + 7)).f 53 [sv s] S4 = some (.ret (.fn (.func 83) [] [.ptr S4.next 0]), S5)/\One S5 S4.next 9 (sv s)/\Grew (fun _ => False) S4 S5/\S5.next = S4.next + 1 := by
  refine ⟨qaf S4 9 1 [Ev.one (sv s)], rd53 ?_, qce on4 (by omega) (by show 1 * 1 < big; unfold big; decide), qbe on4 _ _, rfl⟩;show F53 (ev E0 KD (m + 6)) qa1 (sv s) S4 = _;rw [F53_eq];rfl
 have on5 := f3.on.trans on4;have g6 : Grew (fun _ => False) S5 (nw (nw S5 .defb) (qd2 0 none (.ptr S.next 0) (.ptr S1.next 0))) := (qbe on5 _ _).trans (qbe (qov on5 _) _ _);have n6 : (nw (nw S5 .defb) (qd2 0 none (.ptr S.next 0) (.ptr S1.next 0))).next = S5.next + 2 := rfl
 have hd6 : (nw (nw S5 .defb) (qd2 0 none (.ptr S.next 0) (.ptr S1.next 0))).heap.get S5.next = some .defb := by
  rw [qdt, iN (by show S5.next ≠ S5.next + 1; omega), qdt, iP rfl]
 have hl6 : (nw (nw S5 .defb) (qd2 0 none (.ptr S.next 0) (.ptr S1.next 0))).heap.get (S5.next + 1) = some (qd2 0 none (.ptr S.next 0) (.ptr S1.next 0)) := by
  rw [qdt]; exact iP rfl
 have hrange := fun (self : EV) (kn kr : St->Rs) (ke : Nat->St->Rs) (kp : V->St->Rs) => rangeP_fn (s := S5) (self := self) (first := []) (captured := [.ptr S4.next 0]) (o := qd2 0 none (.ptr S.next 0) (.ptr S1.next 0)) (kn := kn) (kr := kr) (ke := ke) (kp := kp) body83.1 body83.2;generalize nw (nw S5 .defb) (qd2 0 none (.ptr S.next 0) (.ptr S1.next 0)) = S6 at g6 n6 hd6 hl6 hrange;have on6 := g6.on.trans on5;have L : Lh S6 S.next S1.next (S5.next + 1) := ⟨(h4.grew (by omega) (fun h => h) f3).grew (by omega) (fun h => h) g6, (e2.grew (by omega) (fun h => h) f3).grew (by omega) (fun h => h) g6, hl6, by omega, by omega, by omega, by omega, by omega, by omega⟩
 obtain ⟨S7, p1, p2, p3⟩ := f83_run (m + 1) L (f2.grew (by omega) (fun h => h) g6) (by omega) hs;have n7 := p3.next
 have g8 : Grew (fun b => b = S5.next + 1) S7 (S7.put (S5.next + 1) (qd2 3 none (.ptr S.next 0) (.ptr S1.next 0))) := qb2 _ _;have n8 : (S7.put (S5.next + 1) (qd2 3 none (.ptr S.next 0) (.ptr S1.next 0))).next = S7.next := rfl
 have hend : ∀ (kn kr : St->Rs) (ke : Nat->St->Rs), endLP (S5.next + 1) S7 kn kr ke = kn (S7.put (S5.next + 1) (qd2 3 none (.ptr S.next 0) (.ptr S1.next 0))) := fun kn kr ke => endLP_norm (kn := kn) (kr := kr) (ke := ke) p2.h.1 p2.rcd (by decide);generalize S7.put (S5.next + 1) (qd2 3 none (.ptr S.next 0) (.ptr S1.next 0)) = S8 at g8 n8 hend;have h8 : Arr S8 S.next 72 8 := p2.h.grew (by omega) (by omega) g8
 have on8 := h8.1;obtain ⟨w, q1, _, q3⟩ := h8.all qjq;obtain ⟨v9, out, S9, r1, r2, r3, r4⟩ := L17_spec (N := S8.next) (m := m + 7) (Nn := qa1) q3 (R27_11 (ev E0 KD (m + 7)) qa1 (fun a s => qaa [2] a fun a => qak E0 (ev E0 KD (m + 7)) Try.f27 a s) qa9) (exB 2 (R27_11 (ev E0 KD (m + 7)) qa1 (fun a s => qaa [2] a fun a => qak E0 (ev E0 KD (m + 7)) Try.f27 a s) qa9) qa9) (mkR S5.next :: []) 8 0 qa1 .nilslice [] S8 rfl (by unfold qa1; omega) on8 (.inl ⟨rfl, rfl⟩) rfl (lR _);have n9 := r4.next
 have on9 := r4.on.trans on8;have hout : out ≠ [] := fun e => by rw [e] at r3; cases r3
 have hdef : S9.heap.get S5.next = some .defb := by
  rw [r4.keep S5.next (by omega) (by omega), g8.keep S5.next (by omega) (by omega), p3.keep S5.next (by omega) (fun e => by rcases e with e | e <;> omega)];exact hd6
 obtain ⟨U, z1, z2, z3⟩ := qho (E := E0) (self := ev E0 KD (m + 7)) (fn := Try.f27) (a := frD 40 [(2, sv out), (6, v9), (38, v9), (39, sv out)] [mkR S5.next]) (m := .ret) [S5.next] on9 (List.pairwise_singleton _ _) (fun b hb => by rw [List.mem_singleton.1 hb]; exact hdef);refine ⟨out, U, rd27 ?_, r3, ?_⟩
 . show F27 (ev E0 KD (m + 7)) qa1 (sv s) S = _
   rw [F27_eq, show (ev E0 KD (m + 7)).f 52 [] S = _ from c1, qdg, ext0, oB, ext1, oB, ea, oB];dsimp only;rw [show (Tr.ofListFrom .nil [(.int .u32 0), (.int .u32 0), (.int .u32 0), (.int .u32 0), (.int .u32 0), (.int .u32 0), (.int .u32 0), (.int .u32 0), (.int .u32 0), (.int .u32 0), (.int .u32 0), (.int .u32 0), (.int .u32 0), (.int .u32 0), (.int .u32 0), (.int .u32 0), (.int .u32 0), (.int .u32 0), (.int .u32 0), (.int .u32 0), (.int .u32 0), (.int .u32 0), (.int .u32 0), (.int .u32 0), (.int .u32 0), (.int .u32 0), (.int .u32 0), (.int .u32 0), (.int .u32 0), (.int .u32 0), (.int .u32 0), (.int .u32 0), (.int .u32 0), (.int .u32 0), (.int .u32 0), (.int .u32 0), (.int .u32 0), (.int .u32 0), (.int .u32 0), (.int .u32 0), (.int .u32 0), (.int .u32 0), (.int .u32 0), (.int .u32 0), (.int .u32 0), (.int .u32 0), (.int .u32 0), (.int .u32 0), (.int .u32 0), (.int .u32 0), (.int .u32 0), (.int .u32 0), (.int .u32 0), (.int .u32 0), (.int .u32 0), (.int .u32 0), (.int .u32 0), (.int .u32 0), (.int .u32 0), (.int .u32 0), (.int .u32 0), (.int .u32 0), (.int .u32 0), (.int .u32 0)] 0 : Tr V) = Tr.ofListFrom .nil (List.replicate 64 (.int .u32 0)) 0 from rfl, eb, oB];dsimp only;rw [d1, oB];dsimp only;rw [e1, oB];dsimp only;rw [f1, qdg, hrange];show onEn ((ev E0 KD (m + 7)).f 83 [.yield (S5.next + 1), .ptr S4.next 0] S6) _ _ = _;rw [show (ev E0 KD (m + 7)).f 83 [.yield (S5.next + 1), .ptr S4.next 0] S6 = _ from p1];show endLP (S5.next + 1) S7 _ _ _ = _;rw [hend, R27_9_eq, q1, oB]
   dsimp only;rw [show V.int .i64 0 = .int .i64 ((0 : Nat) : Int) from rfl];refine r1.trans ?_;rw [exB_same, R27_11_eq, conv_out on9 r2 hout, oB];dsimp only;rw [finR_defer (d := mkR S5.next) (ds := []) rfl];rw [show [mkR S5.next] = List.map mkR [S5.next] from rfl];exact z1.trans (lv27 _ _ _ _ _ _)
 . have nU := z2.next
   refine ⟨by omega, by rw [z2.on, on9, ho], fun b hb hw => ?_⟩;rw [z2.keep b (by omega) (fun e => by have := List.mem_singleton.1 e; omega), r4.keep b (by omega) (by omega), g8.keep b (by omega) (by omega), p3.keep b (by omega) (fun e => by rcases e with e | e <;> omega), g6.keep b (by omega) (fun h => h), f3.keep b (by omega) (fun h => h), e3.keep b (by omega) (by omega), d3.keep b (by omega) (by omega), b2.keep b (by omega) (fun h => h), a2.keep b hb (fun h => h)]
end
theorem rd28 {n : Nat} {args : List V} {s : St} {r : En × St} (e : qbu E0 (ev E0 KD n) qa1 Try.f28 B28 args s = some r) : (ev E0 KD (n + 1)).f 28 args s = some r := qar (c := C28) (d := B28) (by kernel_rfl) (by kernel_rfl) (qa3 C28 _ (by kernel_rfl)) rfl e
theorem rd12 {n : Nat} {args : List V} {s : St} {r : En × St} (e : qbu E0 (ev E0 KD n) qa1 Try.f12 B12 args s = some r) : (ev E0 KD (n + 1)).f 12 args s = some r := qar (c := C12) (d := B12) (by kernel_rfl) (by kernel_rfl) (qa3 C12 _ (by kernel_rfl)) rfl e
theorem kd55 : KD 55 = some (qbx 55) := rfl
theorem kd29 : KD 29 = some (qeo 5) := rfl
section
variable {S T U : St} {v : V} {bs : Bs} {N b : Nat}
theorem BLo.push (h : BLo S v bs N) (ho : S.on = false) (hN : N<=S.next) (hl : bs.length < 1000) (c : UInt8) : ∃ y W v' U, bsP 5 1 1 (Ev.one (.int .u8 0)) [(0, .int .u8 (c.toNat : Int))] S = some (y, W)/\apP 5 1 1 v y W = some (v', U)/\BLo U v' (bs ++ [c]) N/\Grew (fun x => N<=x) S U := by
 rcases h with ⟨rfl, rfl⟩ | ⟨_, h⟩
 . obtain ⟨W, h1, h2, h3, h4⟩ := bsP_byte ho 5 c
   have on1 := h3.on.trans ho;obtain ⟨U, k1, k2, k3, k4⟩ := qnh (B := 1) on1 h2 (by unfold qae; omega);exact ⟨_, W, _, U, h1, k1, .inr ⟨by simp, W.next, rfl, k2, by omega, by omega⟩, (h3.trans k3).mono fun _ _ h => h.elim⟩
 . obtain ⟨y, W, v', U, k1, k2, k3, k4⟩ := h.push ho hN (by omega) c
   exact ⟨y, W, v', U, k1, k2, .inr ⟨by simp, k3⟩, k4⟩
theorem BLo.grew {W : Nat->Prop} (h : BLo S v bs N) (g : Grew W S T) (hw : ∀ x, N<=x->x < S.next->¬ W x) : BLo T v bs N := by
 rcases h with h | ⟨h0, r, h1, h2, h3, h4⟩
 . exact .inl h
 . exact .inr ⟨h0, r, h1, h2.grew h3 (hw r h4 h3) g, Nat.lt_of_lt_of_le h3 g.next, h4⟩
theorem BLo.oneV (h : BLo S v bs N) : OneV v := by
 rcases h with ⟨_, rfl⟩ | ⟨_, r, rfl, _⟩ <;> exact ⟨rfl, rfl, rfl, rfl⟩
def Bd (S : St) (b : Nat) (bs : Bs) (N : Nat) : Prop := S.on = false/\b < N/\N<=S.next/\∃ t v, AgAt S b 55 2 t/\(t.get 0 = some .nilptr\/t.get 0 = some (.ptr b 0))/\t.get 1 = some v/\BLo S v bs N
theorem big2 : 2 < big := by unfold big; decide
theorem check_built (n : Nat) (h : Bd S b bs N) : ∃ U, (ev E0 KD (n + 1)).f 55 [.ptr b 0] S = some (.ret (.tuple []), U)/\Bd U b bs N/\Grew (fun x => x = b) S U := by
 obtain ⟨ho, hb, hN, t, v, h1, h2, h3, h4⟩ := h;obtain ⟨c, hc1, hc2⟩ := id h1
 have hhead : ∀ u, t.get 0 = some u->headB 55 b S = some (u, S) := fun u hu => by
  unfold headB;rw [hc1];dsimp only;rw [show (Nat.beq 55 55 && Nat.beq 2 2 && Nat.blt 0 1 && !false) = true from rfl, cT, hc2, oB, hu, oB, qai ho]
 rcases h2 with h2 | h2
 . obtain ⟨w, k1, k2, k3, k4⟩ := h1.st1 ho big2 (by decide) (i := 0) (by decide) (.ptr b 0) rfl rfl rfl
   have hst : stK S b 0 1 (Ev.one (.ptr b 0)) = some w := by
    have hk : vu (stK S b 0 1 (Ev.one (.ptr b 0))) = some (.tuple [], w) := k1;cases hq : stK S b 0 1 (Ev.one (.ptr b 0)) with
    | none => rw [hq] at hk; cases hk
    | some z => rw [hq] at hk; cases hk; rfl
   refine ⟨w, ?_, ⟨k3.on.trans ho, hb, by omega, _, v, k2, .inr (by rw [Tr.get_set, iP rfl]), by rw [Tr.get_set, iN (by omega)]; exact h3, h4.grew k3 fun x hx _ e => by omega⟩, k3⟩;rw [qaq kd55];unfold qbx;dsimp only;rw [Nat.beq_refl, cT, hhead _ h2, oB];dsimp only;rw [hst, oB]
 . refine ⟨S, ?_, ⟨ho, hb, hN, t, v, h1, .inr h2, h3, h4⟩, Grew.refl _ _⟩
   rw [qaq kd55];unfold qbx;dsimp only;rw [Nat.beq_refl, cT, hhead _ h2, oB];dsimp only;rw [Nat.beq_refl, Nat.beq_refl, Bool.and_self, cT]
theorem faP1 (b : Nat) : faP 1 false 1 (.ptr b 0) = some (.ptr b 1) := rfl
theorem write_run (m : Nat) (h : Bd S b bs N) (hl : bs.length < 1000) (c : UInt8) : ∃ U, (ev E0 KD (m + 2)).f 28 [.ptr b 0, .int .u8 (c.toNat : Int)] S = some (.ret .niliface, U)/\Bd U b (bs ++ [c]) N/\Grew (fun x => x = b\/N<=x) S U := by
 obtain ⟨S1, a1, a2, a3⟩ := check_built m h;obtain ⟨ho, hb, hN, t, v, h1, h2, h3, h4⟩ := a2;obtain ⟨y, W, v', S2, b1, b2, b3, b4⟩ := h4.push ho hN hl c;have n2 := b4.next
 have h1' : AgAt S2 b 55 2 t := h1.grew (by omega) (by omega) b4;have hv := b3.oneV;obtain ⟨S3, c1, c2, c3, c4⟩ := h1'.st1 (b4.on.trans ho) big2 (by decide) (i := 1) (by decide) v' hv.size hv.cells hv.tup;refine ⟨S3, rd28 ?_, ⟨c3.on.trans (b4.on.trans ho), hb, by omega, _, v', c2, by rw [Tr.get_set, iN (by omega)]; exact h2, by rw [Tr.get_set, iP rfl], b3.grew c3 fun x hx _ e => by omega⟩, (a3.mono fun x _ e => .inl e).trans ((b4.mono fun x _ e => .inr e).trans (c3.mono fun x _ e => .inl e))⟩;show F28 (ev E0 KD (m + 1)) qa1 (.ptr b 0) (.int .u8 (c.toNat : Int)) S = _;rw [F28_eq, a1, callP_ret, nilCk, oB, faP1, oB, h1.ld1 ho big2 (by decide) h3, oB];dsimp only;rw [b1, oB];dsimp only;rw [b2, oB, oB, faP1, oB];dsimp only;rw [c1, oB]
theorem told_run (n : Nat) (h : Bd S b bs N) (h0 : bs ≠ []) : ∃ U, (ev E0 KD (n + 1)).f 29 [.ptr b 0] S = some (.ret (sv bs), U)/\Grew (fun x => N<=x) S U := by
 obtain ⟨ho, hb, hN, t, v, h1, h2, h3, h4⟩ := h;rcases h4 with ⟨rfl, _⟩ | ⟨_, r, rfl, k2, k3, k4⟩
 . exact absurd rfl h0
 . obtain ⟨c, q1, _⟩ := k2.row
   have hld := k2.ldN ho bs.length 0 (by rw [lM]; omega);rw [List.drop_zero, List.take_of_length_le (by rw [lM]; exact lR _), Nat.zero_mul] at hld;have hcell : ld S b 1 = some (.oslice r 0 bs.length 1, S) := h1.ld1 ho big2 (by decide) h3
   have hown : ownB 5 r S = some ((), S) := by
    unfold ownB;rw [q1];dsimp only;rw [show (Nat.beq 5 5 && Nat.beq 1 1 && !false) = true from rfl, cT, oB, qai ho]
   refine ⟨S.put r .dead, ?_, (qb2 r _).mono fun x _ e => by rw [e]; exact k4⟩;rw [qaq kd29];unfold qeo;dsimp only;rw [Nat.beq_refl, cT, hcell, oB];dsimp only;rw [show (Nat.beq 1 1 && Nat.blt 0 bs.length) = true from by rw [Nat.beq_refl, blt_true.2 (List.length_pos_iff.2 h0)]; rfl, cT];unfold strAt;rw [hown, oB, hld, oB];dsimp only;rw [u8sOf_row, oB];unfold setO;rw [qai ho]
theorem shl64 (c d : Bool) (k : IntKind) (a : Int) (n : Nat) : ∃ r, qa4 E0 .shl 56 c d (.int .u64 a) (.int k (n : Int)) = some (.int .u64 r) := ⟨_, rfl⟩
theorem shr64 (c d : Bool) (k : IntKind) (a : Int) (n : Nat) : ∃ r, qa4 E0 .shr 56 c d (.int .u64 a) (.int k (n : Int)) = some (.int .u64 r) := ⟨_, rfl⟩
theorem or64 (c d : Bool) (a b : Int) : ∃ r, qa4 E0 .or 56 c d (.int .u64 a) (.int .u64 b) = some (.int .u64 r) := ⟨_, rfl⟩
theorem and64 (c d : Bool) (a b : Int) : ∃ r, qa4 E0 .and 56 c d (.int .u64 a) (.int .u64 b) = some (.int .u64 r) := ⟨_, rfl⟩
theorem sub64 (c d : Bool) (a b : Int) : ∃ r, qa4 E0 .sub 56 c d (.int .u64 a) (.int .u64 b) = some (.int .u64 r) := ⟨_, rfl⟩
theorem geq5 (n : Nat) : qa4 E0 .geq 3 false true (.int .i64 (n : Int)) (.int .i64 5) = some (.bool (decide (5<=n))) := by
 rw [binV_ii, intsV_geq]
 congr 2
 simp;omega
theorem sub5 {n : Nat} (h : 5<=n) (hn : n < 1000) : qa4 E0 .sub 3 false true (.int .i64 (n : Int)) (.int .i64 5) = some (.int .i64 ((n - 5 : Nat) : Int)) := subC 5 h (by omega)
def Lets (bs : Bs) : Prop := ∀ c ∈ bs, ltrs.contains c = true
theorem L39h_spec {m Nn : Nat} {v3 v12 v13 : V} (h : Int) (nk : Ac->St->Rs) (ek : Nat->Ac->St->Rs) :
 ∀ (d k q : Nat) (bs : Bs) (S : St), k / 5 = d->d < q->k < 20->Bd S b bs N->Lets bs->bs.length + d < 900 ->
 ∃ (bs' : Bs) (k' : Nat) (U : St), L12_39 (ev E0 KD (m + 2)) Nn nk ek q v3 (.ptr b 0) (.int .u64 h) (.int .i64 (k : Int)) v12 v13 S = ek 2 (fr 42 [(3, v3), (4, .ptr b 0), (5, .int .u64 h), (6, .int .i64 (k' : Int)), (12, v12), (13, v13)]) U/\Bd U b bs' N/\Lets bs'/\k' < 5/\5 * bs'.length + k' = 5 * bs.length + k/\Grew (fun x => x = b\/N<=x) S U
 | _, _, 0, _, _, _, hq, _, _, _, _ => by omega
 | 0, k, q + 1, bs, S, hd, hq, hk, hB, hL, hl => by
  refine ⟨bs, k, S, ?_, hB, hL, by omega, rfl, Grew.refl _ _⟩;rw [L12_39_eq, geq5, dF (by omega), oB, ifK_bool, cF]
 | d + 1, k, q + 1, bs, S, hd, hq, hk, hB, hL, hl => by
  obtain ⟨x, f1⟩ := shr64 false false .i64 h (k - 5);obtain ⟨n, hn, f2⟩ := and31 false true x;have hnl : n < ltrs.length := by rw [ltrs_len]; omega
  obtain ⟨U1, a1, a2, a3⟩ := write_run m hB (by omega) ltrs[n]
  obtain ⟨bs2, k2, U, t1, t2, t3, t4, t5, t6⟩ := L39h_spec (m := m) (Nn := Nn) (v3 := v3) (v12 := v12) (v13 := v13) h nk ek d (k - 5) q (bs ++ [ltrs[n]]) U1 (by omega) (by omega) (by omega) a2 (fun c hc => by
   rcases List.mem_append.1 hc with q | q
   . exact hL c q
   . rw [List.mem_singleton.1 q, List.contains_iff_mem]; exact List.getElem_mem hnl) (by rw [lA, List.length_singleton]; omega)
  refine ⟨bs2, k2, U, ?_, t2, t3, t4, by rw [t5, lA, List.length_singleton]; omega, a3.trans t6⟩;rw [L12_39_eq, geq5, dT (by omega), oB, ifK_bool, cT, sub5 (by omega) (by omega), oB, f1, oB, f2, oB];rw [show ixS (sv [48, 49, 50, 51, 52, 53, 54, 55, 56, 57, 97, 98, 99, 100, 102, 103, 104, 105, 106, 107, 108, 109, 110, 112, 113, 114, 115, 118, 119, 120, 121, 122]) (.int .u64 (n : Int)) = some (.int .u8 (ltrs[n].toNat : Int)) from qh0 ltrs .u64 n hnl, oB, a1, callP_ret, t1]
theorem L14h_spec {m Nn : Nat} (hNn : 1000 < Nn) (sum : Bs) (hs : sum.length = 32) (nk : Ac->St->Rs) (ek : Nat->Ac->St->Rs) :
 ∀ (d i q k : Nat) (h : Int) (bs : Bs) (S : St), i + d = 20->d < q->k < 5->Bd S b bs N->Lets bs->5 * bs.length + k = 8 * i ->
 ∃ bs' U, L12_14 (ev E0 KD (m + 2)) Nn nk ek q (sv sum) (.ptr b 0) (.int .u64 h) (.int .i64 (k : Int)) (.int .i64 20) (.int .i64 (i : Int)) S = ek 0 (fr 42 [(4, .ptr b 0)]) U/\Bd U b bs' N/\Lets bs'/\bs'.length = 32/\Grew (fun x => x = b\/N<=x) S U
 | _, _, 0, _, _, _, _, _, hq, _, _, _, _ => by omega
 | 0, i, q + 1, k, h, bs, S, hi, hq, hk, hB, hL, hl => by
  refine ⟨bs, S, ?_, hB, hL, by omega, Grew.refl _ _⟩;rw [L12_14_eq, show V.int .i64 20 = .int .i64 ((20 : Nat) : Int) from rfl, lssN, dF (by omega), oB, ifK_bool, cF]
 | d + 1, i, q + 1, k, h, bs, S, hi, hq, hk, hB, hL, hl => by
  have hil : i < sum.length := by omega
  obtain ⟨x1, f1⟩ := shl64 false true .u64 h 8;obtain ⟨x2, f2⟩ : ∃ x2, cvI .u64 (.int .u8 (sum[i].toNat : Int)) S = some (.int .u64 x2, S) := ⟨_, cvI_int _ _ _⟩
  obtain ⟨x3, f3⟩ := or64 false false x1 x2;obtain ⟨bs1, k1, U1, a1, a2, a3, a4, a5, a6⟩ := L39h_spec (m := m) (Nn := Nn) (v3 := sv sum) (v12 := .int .i64 20) (v13 := .int .i64 (i : Int)) x3 (R12_29 (ev E0 KD (m + 2)) Nn (qh9 (ev E0 KD (m + 2)) Nn (qh8 (ev E0 KD (m + 2)) Nn nk ek q) ek) (exB 1 (qh9 (ev E0 KD (m + 2)) Nn (qh8 (ev E0 KD (m + 2)) Nn nk ek q) ek) ek)) (exB 2 (R12_29 (ev E0 KD (m + 2)) Nn (qh9 (ev E0 KD (m + 2)) Nn (qh8 (ev E0 KD (m + 2)) Nn nk ek q) ek) (exB 1 (qh9 (ev E0 KD (m + 2)) Nn (qh8 (ev E0 KD (m + 2)) Nn nk ek q) ek) ek)) (exB 1 (qh9 (ev E0 KD (m + 2)) Nn (qh8 (ev E0 KD (m + 2)) Nn nk ek q) ek) ek)) ((k + 8) / 5) (k + 8) Nn bs S rfl (by omega) (by omega) hB hL (by omega);obtain ⟨y1, g1⟩ := shl64 true false .i64 1 k1;obtain ⟨y2, g2⟩ := sub64 false true y1 1;obtain ⟨y3, g3⟩ := and64 false false x3 y2;obtain ⟨bs2, U, t1, t2, t3, t4, t5⟩ := L14h_spec (m := m) hNn sum hs nk ek d (i + 1) q k1 y3 bs1 U1 (by omega) (by omega) a4 a2 a3 (by omega);refine ⟨bs2, U, ?_, t2, t3, t4, a6.trans t5⟩;rw [L12_14_eq, show V.int .i64 20 = .int .i64 ((20 : Nat) : Int) from rfl, lssN, dT (by omega), oB, ifK_bool, cT, show V.int .u64 8 = .int .u64 ((8 : Nat) : Int) from rfl, f1, oB, qh0 sum .i64 i hil, oB, f2, oB];dsimp only;rw [f3, oB, show V.int .i64 8 = .int .i64 ((8 : Nat) : Int) from rfl, addC 8 (by omega) (by omega), oB];refine a1.trans ?_;rw [exB_same, R12_29_eq, g1, oB, g2, oB, g3, oB, R12_16_eq, qgp (by omega), oB, N12_14_eq];exact t1
theorem hash_run (hC : Consts) (m : Nat) (ho : S.on = false) (s : Bs) (hs : s.length<=55) : ∃ h U, (ev E0 KD (m + 9)).f 12 [sv s] S = some (.ret (sv h), U)/\isH h = true/\Grew (fun _ => False) S U := by
 obtain ⟨sum, S1, a1, a2, a3⟩ := sum_run hC m ho s hs;have on1 := a3.on.trans ho;obtain ⟨b1, b2, b3⟩ := qne on1 55 2 (Tr.ofListFrom .nil [.nilptr, .nilslice] 0);have eb : nwP 55 2 (Tr.ofListFrom .nil [.nilptr, .nilslice] 0) S1 = (.ptr S1.next 0, (nwP 55 2 (Tr.ofListFrom .nil [.nilptr, .nilslice] 0) S1).2) := rfl;generalize (nwP 55 2 (Tr.ofListFrom .nil [.nilptr, .nilslice] 0) S1).2 = S2 at b1 b2 b3 eb;have B2 : Bd S2 S1.next [] S2.next := ⟨b2.on.trans on1, by omega, lR _, _, .nilslice, b1, .inl rfl, rfl, .inl ⟨rfl, rfl⟩⟩
 obtain ⟨h, S3, c1, c2, c3, c4, c5⟩ := L14h_spec (m := m + 6) (Nn := qa1) (by unfold qa1; omega) sum a2 (R12_7 (ev E0 KD (m + 8)) qa1 (qak E0 (ev E0 KD (m + 8)) Try.f12) qa9) (exB 0 (R12_7 (ev E0 KD (m + 8)) qa1 (qak E0 (ev E0 KD (m + 8)) Try.f12) qa9) qa9) 20 0 qa1 0 0 [] S2 rfl (by unfold qa1; omega) (by omega) B2 (fun c hc => by cases hc) rfl;obtain ⟨S4, d1, d2⟩ := told_run (m + 7) c2 (fun e => by rw [e] at c4; cases c4);have n3 := c5.next
 have n1 := a3.next
 refine ⟨h, S4, rd12 ?_, ?_, ?_⟩
 . show F12 (ev E0 KD (m + 8)) qa1 (sv s) S = _
   rw [F12_eq, a1, callP_ret, eb, oB];dsimp only;rw [qc9, oB];dsimp only;rw [a2, min20, oB];dsimp only;rw [show V.int .i64 0 = .int .i64 ((0 : Nat) : Int) from rfl];refine c1.trans ?_;rw [exB_same, R12_7_eq];rw [show (ev E0 KD (m + 8)).f 29 [.ptr S1.next 0] S3 = _ from d1, callP_ret]
 . unfold isH
   rw [dT c4, Bool.true_and, List.all_eq_true];exact c3
 . exact Grew.then (Grew.then (Grew.then a3 b2 fun _ _ h => h) c5 fun x hx e => by rcases e with e | e <;> omega) d2 fun x hx e => by omega
end
theorem rd13 {n : Nat} {args : List V} {s : St} {r : En × St} (e : qbu E0 (ev E0 KD n) qa1 Try.f13 B13 args s = some r) : (ev E0 KD (n + 1)).f 13 args s = some r := qar (c := C13) (d := B13) (by kernel_rfl) (by kernel_rfl) (qa3 C13 _ (by kernel_rfl)) rfl e
section
variable {S T U : St} {kv : V} {M b : Nat}
theorem L24f_spec {self : EV} {N : Nat} (nk : Ac->St->Rs) (ek : Nat->Ac->St->Rs) (p : Bs) (hp : p.length = 32) (x : Nd) (hx : NodeR S b x kv) (hw : x.data.length < 1000000000) : ∀ (k i n : Nat), x.data.length - i = k->k + 1 < n->i<=x.data.length ->
 L13_24 self N nk ek n (sv p) (.ptr b 0) (.int .i64 (i : Int)) S = if (wins (x.data.drop i)).contains p then some (.ret (.bool true), S) else ek 0 (fr 41 [(1, sv p), (2, .ptr b 0)]) S
 | _, _, 0, _, hn, _ => by omega
 | k, i, n + 1, hi, hn, hle => by
  rw [L13_24_eq, qc9, oB];dsimp only;rw [hp, addN _ _ (by omega), oB, faP3, oB, hx.f3, oB];dsimp only;rw [qc9, oB];dsimp only;rw [leqN, oB, ifK_bool];by_cases hc : i + 32<=x.data.length
  . rw [dT hc, cT, oB, hx.f3, oB]
    dsimp only;rw [qc9, oB];dsimp only;rw [hp, addN _ _ (by omega), oB, win_sv x.data hc, oB];dsimp only;rw [eqStr, oB, ifK_bool, qgp (by omega), wins_at hc, List.contains_cons];obtain ⟨k', rfl⟩ : ∃ k', k = k' + 1 := ⟨k - 1, by omega⟩
    by_cases e : (x.data.drop i).take 32 = p
    . rw [e]; simp
    . rw [show ((x.data.drop i).take 32 == p) = false by simp [e], show (p == (x.data.drop i).take 32) = false by simp [Ne.symm e], cF, Bool.false_or, oB, L24f_spec (self := self) (N := N) nk ek p hp x hx hw k' (i + 1) n (by omega) (by omega) (by omega)]
  . rw [dF hc, cF, wins_lt (by rw [List.length_drop]; omega)]
    rfl
theorem L6f_spec {self : EV} {N : Nat} (nk : Ac->St->Rs) (ek : Nat->Ac->St->Rs) (x : Nd) (hx : x.ok) (p : Bs) {d : Nat}
 (hself : ∀ y ∈ x.kids, ∀ kv S, S.on = false->KidsD (d - 1) S kv M y.kids->∃ U, self.f 13 [qd7 y kv, sv p] S = some (.ret (.bool ((qej y).contains p)), U)/\Grew (fun _ => False) S U) :
 ∀ (r : List Nd) (i n : Nat) (S : St), x.kids.drop i = r->r.length < n->NodeR S b x kv->b < S.next->KidsD d S kv M x.kids->∃ U, L13_6 self N nk ek n (sv p) (.ptr b 0) (.int .i64 (i : Int)) S = (if (qgt r).contains p then some (.ret (.bool true), U) else ek 2 (fr 41 []) U)/\Grew (fun _ => False) S U
 | _, _, 0, _, _, hn, _, _, _ => by omega
 | [], i, n + 1, S, hi, _, hb, _, hK => by
  refine ⟨S, ?_, Grew.refl _ _⟩;rw [L13_6_eq, faP4, oB, hb.f4, oB];dsimp only;rw [hK.len, oB];dsimp only;rw [lssN, dF (Nat.not_lt.2 (qbm hi)), oB, ifK_bool, cF, qgt];rfl
 | y :: r, i, n + 1, S, hi, hn, hb, hlt, hK => by
  obtain ⟨hil, hy, hr, hmem⟩ := qcn hi;have few := hx.at.few;obtain ⟨q, kv', x1, x2, x3⟩ := hK.at hb.on hil;rw [hy] at x2 x3;obtain ⟨U1, a1, a2⟩ := hself y hmem kv' S hb.on x3;obtain ⟨U, b1, b2⟩ := L6f_spec (self := self) (N := N) nk ek x hx p hself r (i + 1) n U1 hr (by simpa using hn) (hb.grew hlt (fun h => h) a2) (Nat.lt_of_lt_of_le hlt a2.next) (hK.grew (fun _ _ h => h) a2)
  have hh : L13_6 self N nk ek (n + 1) (sv p) (.ptr b 0) (.int .i64 (i : Int)) S = (if (qej y).contains p then some (.ret (.bool true), U1) else if (qgt r).contains p then some (.ret (.bool true), U) else ek 2 (fr 41 []) U) := by
   rw [L13_6_eq, faP4, oB, hb.f4, oB];dsimp only;rw [hK.len, oB];dsimp only;rw [lssN, dT hil, oB, ifK_bool, cT, oB, hb.f4, oB];dsimp only;rw [x1, oB, x2, oB];dsimp only;rw [a1, callP_ret, ifK_bool];cases (qej y).contains p with
   | true => rfl
   | false =>
    rw [cF, qgp (by omega), oB, b1];rfl
  have hw : (qgt (y :: r)).contains p = ((qej y).contains p || (qgt r).contains p) := by
   rw [qgt];simp
  rw [hw];cases hc : (qej y).contains p with
  | true =>
   rw [hc, iP rfl] at hh;exact ⟨U1, by rw [hh, Bool.true_or, iP rfl], a2⟩
  | false =>
   rw [hc, iN (by simp)] at hh;exact ⟨U, by rw [hh, Bool.false_or], a2.trans b2⟩
theorem f13_run (p : Bs) (hp : p.length = 32) (m : Nat) : ∀ (k : Nat) (x : Nd), qgh x<=k->x.ok->∀ (d : Nat) (kv : V) (M : Nat) (S : St), S.on = false->KidsD d S kv M x.kids->∃ U, (ev E0 KD (m + k + 1)).f 13 [qd7 x kv, sv p] S = some (.ret (.bool ((qej x).contains p)), U)/\Grew (fun _ => False) S U
 | 0, x, hc, _, _, _, _, _, _, _ => by have := qfq x; omega
 | k + 1, x, hc, ok, d, kv, M, S, ho, hK => by
  have hcx := qfq x;obtain ⟨S1, k1, k2, k3, k4⟩ := qka ho x kv;have hl : S.next < S1.next := by omega
  obtain ⟨U, b1, b2⟩ := L6f_spec (self := ev E0 KD (m + k + 1)) (N := qa1) (M := M) (R13_3 (ev E0 KD (m + k + 1)) qa1 (fun a s => qaa [4] a fun a => qak E0 (ev E0 KD (m + k + 1)) Try.f13 a s) qa9) (exB 2 (R13_3 (ev E0 KD (m + k + 1)) qa1 (fun a s => qaa [4] a fun a => qak E0 (ev E0 KD (m + k + 1)) Try.f13 a s) qa9) qa9) x ok p
   (d := d) (fun y hy kv T hT hk => f13_run p hp m k y (by have := cntL_mem hy; omega) (ok.at.kids y hy) (d - 1) kv M T hT hk) x.kids 0 qa1 S1 rfl (by have := ok.at.few; unfold qa1; omega) k2 hl (hK.grew (fun _ _ h => h) k3)
  have hh : F13 (ev E0 KD (m + (k + 1))) qa1 (qd7 x kv) (sv p) S = (if (wins x.data).contains p then some (.ret (.bool true), S1) else if (qgt x.kids).contains p then some (.ret (.bool true), U) else some (.ret (.bool false), U)) := by
   rw [F13_eq, k1, oB];dsimp only;rw [show m + (k + 1) = m + k + 1 from rfl, show V.int .i64 0 = .int .i64 ((0 : Nat) : Int) from rfl, L24f_spec _ _ p hp x k2 (by have := ok.at.data; omega) x.data.length 0 qa1 rfl (by have := ok.at.data; unfold qa1; omega) (by omega), List.drop_zero];cases (wins x.data).contains p with
   | true => rfl
   | false =>
    rw [iN (by simp), iN (by simp), exB_same, R13_2_eq, show V.int .i64 0 = .int .i64 ((0 : Nat) : Int) from rfl, b1, exB_same, R13_3_eq]
  have hw : (qej x).contains p = ((wins x.data).contains p || (qgt x.kids).contains p) := by
   rw [qgu]; simp
  rw [hw];cases hc : (wins x.data).contains p with
  | true =>
   rw [hc, iP rfl] at hh;exact ⟨S1, rd13 hh, k3⟩
  | false =>
   rw [hc, iN (by simp)] at hh;refine ⟨U, rd13 (hh.trans ?_), k3.trans b2⟩;rw [Bool.false_or];cases (qgt x.kids).contains p <;> rfl
end
abbrev Laid := Nat × Nat × Bs
def inN (h : Bs) : Nd := .mk [105, 110] 1 false (h.drop 1 ++ h) []
def kidOf (pad : Bs) (e : Laid) : Nd :=
 if e.2.1 = 1 then .mk (ltr e.1) 3 false (([46, 46, 47] ++ e.2.2) ++ [45, 120]) [] else if e.2.1 = 2 then .mk (ltr e.1) 2 false [] [inN e.2.2] else .mk (ltr e.1) 1 false ((pad ++ e.2.2) ++ pad) []
theorem qmm {h b : Bs} (hh : h.length = 32) : ∀ a : Bs, h ∈ wins (a ++ (h ++ b))
 | [] => by
  rw [List.nil_append];cases h with
  | nil => cases hh
  | cons c h =>
   rw [List.cons_append, wins, iP (by rw [<- List.cons_append, lA]; omega), <- List.cons_append, List.take_left' hh];exact List.mem_cons_self ..
 | c :: a => by
  rw [List.cons_append, wins, iP (by rw [List.length_cons, lA, lA]; omega)];exact mO _ (qmm hh a)
theorem kid_has (pad : Bs) (e : Laid) (h : isH e.2.2 = true) : e.2.2 ∈ qej (kidOf pad e) := by
 have hl := qj8 h;unfold kidOf;split
 . rw [qgu]
   refine List.mem_append_left _ ?_;show e.2.2 ∈ wins (([46, 46, 47] ++ e.2.2) ++ [45, 120]);rw [List.append_assoc]; exact qmm hl _
 . split
   . rw [qgu]
     refine List.mem_append_right _ ?_;show e.2.2 ∈ qgt [inN e.2.2];rw [qgt];refine List.mem_append_left _ ?_;rw [qgu];refine List.mem_append_left _ ?_;show e.2.2 ∈ wins (e.2.2.drop 1 ++ e.2.2);have := qmm (b := []) hl (e.2.2.drop 1)
     rwa [List.append_nil] at this
   . rw [qgu]
     refine List.mem_append_left _ ?_;show e.2.2 ∈ wins ((pad ++ e.2.2) ++ pad);rw [List.append_assoc]; exact qmm hl _
theorem mem_winsL {h : Bs} {y : Nd} : ∀ {l : List Nd}, y ∈ l->h ∈ qej y->h ∈ qgt l
 | x :: l, hy, hh => by
  rw [qgt];rcases List.mem_cons.1 hy with rfl | hy
  . exact List.mem_append_left _ hh
  . exact List.mem_append_right _ (mem_winsL hy hh)
structure KidOk (pad : Bs) (e : Laid) : Prop where
 i : e.1 < 26
 h : isH e.2.2 = true
 pad : pad.length<=20
section
variable {pad : Bs} {e : Laid}
theorem KidOk.len (k : KidOk pad e) : e.2.2.length = 32 := qj8 k.h
theorem ltr_len (i : Nat) : (ltr i).length = 1 := rfl
theorem kid_name (pad : Bs) (e : Laid) : (kidOf pad e).name = ltr e.1 := by unfold kidOf; split; · rfl
                                                                            . split <;> rfl
theorem kid_cnt (pad : Bs) (e : Laid) : qgh (kidOf pad e)<=2 := by
 unfold kidOf;split
 . rw [qfq]; show 1 + qkt []<=2; rw [qkt]; omega
 . split
   . rw [qfq]; show 1 + qkt [inN e.2.2]<=2; rw [qkt, qkt, qfq]; show 1 + (1 + qkt [] + 0)<=2; rw [qkt]; omega
   . rw [qfq]; show 1 + qkt []<=2; rw [qkt]; omega
theorem KidOk.ok (k : KidOk pad e) : (kidOf pad e).ok := by
 have hl := k.len;have hp := k.pad;unfold kidOf;split
 . unfold Nd.ok
   refine ⟨by rw [ltr_len]; omega, by omega, by simp; omega, by simp, by rw [qkt]; omega, trivial⟩
 . split
   . unfold Nd.ok
     refine ⟨by rw [ltr_len]; omega, by omega, by simp, by simp, by rw [qkt, qkt, qfq]; show 1 + (1 + qkt [] + 0) < _; rw [qkt]; omega, ?_, trivial⟩;unfold inN Nd.ok;exact ⟨by simp, by omega, by rw [lA, List.length_drop]; omega, by simp, by rw [qkt]; omega, trivial⟩
   . unfold Nd.ok
     refine ⟨by rw [ltr_len]; omega, by omega, by rw [lA, lA]; omega, by simp, by rw [qkt]; omega, trivial⟩
theorem ltr_ok : ∀ i, i < 26->qos (ltr i) = true := by decide
theorem ltrs_nz {c : UInt8} (h : ltrs.contains c = true) : (c == 0) = false := by
 cases e : c == 0 with
 | false => rfl
 | true =>
  rw [beq_iff_eq] at e;subst e;revert h
  decide
theorem KidOk.nz (k : KidOk pad e) : e.2.2.any (· == 0) = false := by
 have h := (Bool.and_eq_true_iff.1 k.h).2;rw [List.all_eq_true] at h;rw [List.any_eq_false];exact fun c hc => by rw [ltrs_nz (h c hc)]; simp
theorem may1 (n : Bs) (e : Bool) (d : Bs) (l : List Nd) : mayN (.mk n 1 e d l) = l.isEmpty := by rw [mayN, iP rfl]
theorem may3 (n : Bs) (e : Bool) (d : Bs) (l : List Nd) : mayN (.mk n 3 e d l) = (!(d.any (· == 0)) && (!e && l.isEmpty && decide (1<=d.length) && decide (d.length<=255))) := by rw [mayN, iN (by decide), iP rfl]
theorem may2 (n : Bs) (e : Bool) (d : Bs) (l : List Nd) : mayN (.mk n 2 e d l) = (mayL none l && (!e && (d == []))) := by rw [mayN, iN (by decide), iN (by decide), iP rfl]
theorem inN_may (h : Bs) : mayN (inN h) = true := by unfold inN; rw [may1]; rfl
theorem KidOk.may (k : KidOk pad e) : mayN (kidOf pad e) = true := by
 have hl := k.len;unfold kidOf;split
 . rw [may3, List.any_append, List.any_append, k.nz, dT (show 1<=(([46, 46, 47] ++ e.2.2) ++ [45, 120] : Bs).length by simp), dT (show (([46, 46, 47] ++ e.2.2) ++ [45, 120] : Bs).length<=255 by simp; omega)]
   rfl
 . split
   . rw [may2, mayL, mayL, inN_may]
     rfl
   . rw [may1]; rfl
theorem deep_flat (m : Nat) (x : Nd) (h : x.kind ≠ 2) : qbv m x = 1 := by
 cases m with
 | zero => rfl
 | succ m => rw [qbv, iP (.inl h)]
theorem deep1 (m : Nat) (n : Bs) (e : Bool) (d : Bs) (l : List Nd) : qbv m (.mk n 1 e d l) = 1 := deep_flat m _ (show (1 : Int) ≠ 2 by decide)
theorem deep3 (m : Nat) (n : Bs) (e : Bool) (d : Bs) (l : List Nd) : qbv m (.mk n 3 e d l) = 1 := deep_flat m _ (show (3 : Int) ≠ 2 by decide)
theorem kid_deep (pad : Bs) (e : Laid) (m : Nat) : qbv m (kidOf pad e)<=2 := by
 unfold kidOf;split
 . rw [deep3]; omega
 . split
   . cases m with
     | zero => rw [qbv]; omega
     | succ m =>
      rw [qbv];split
      . omega
      . refine qff _ 2 _ _ (by omega) fun y hy => ?_
        have : y = inN e.2.2 := List.mem_singleton.1 hy;rw [this, inN, deep1];omega
   . rw [deep1]; omega
theorem qmx {n : Int} (h0 : 0<=n) (h1 : n < 1000000) : wr n = n := qb8 (by omega) (by omega)
theorem KidOk.size (k : KidOk pad e) : 0<=(qeb (kidOf pad e)).1/\(qeb (kidOf pad e)).1<=2/\0<=(qeb (kidOf pad e)).2/\(qeb (kidOf pad e)).2<=100 := by
 have hl := k.len;have hp := k.pad;unfold kidOf;split
 . rw [qgo]
   show 0<=(qf8 [] (1, (((([46, 46, 47] ++ e.2.2) ++ [45, 120]).length : Nat) : Int))).1/\_;rw [show (Nd.mk (ltr e.1) 3 false (([46, 46, 47] ++ e.2.2) ++ [45, 120]) []).kids = [] from rfl, qf8];have : (([46, 46, 47] ++ e.2.2) ++ [45, 120]).length = 37 := by simp; omega
   show (0 : Int)<=1/\(1 : Int)<=2/\(0 : Int)<=(((([46, 46, 47] ++ e.2.2) ++ [45, 120]).length : Nat) : Int)/\(((([46, 46, 47] ++ e.2.2) ++ [45, 120]).length : Nat) : Int)<=100;rw [this]; omega
 . split
   . rw [qgo]
     rw [show (Nd.mk (ltr e.1) 2 false [] [inN e.2.2]).kids = [inN e.2.2] from rfl, qf8, qf8]
     have hs : qeb (inN e.2.2) = (1, 63) := by
      rw [qgo];show qf8 [] (1, (((e.2.2.drop 1 ++ e.2.2).length : Nat) : Int)) = _;rw [qf8, show (e.2.2.drop 1 ++ e.2.2).length = 63 by rw [lA, List.length_drop]; omega];rfl
     rw [hs];split
     . show (0 : Int)<=1/\(1 : Int)<=2/\(0 : Int)<=0/\(0 : Int)<=100; omega
     . show (0 : Int)<=wr (1 + 1)/\wr (1 + 1)<=2/\(0 : Int)<=wr (0 + 63)/\wr (0 + 63)<=100
       rw [qmx (by omega) (by omega), qmx (by omega) (by omega)]; omega
   . rw [qgo]
     rw [show (Nd.mk (ltr e.1) 1 false ((pad ++ e.2.2) ++ pad) []).kids = [] from rfl, qf8];have : ((pad ++ e.2.2) ++ pad).length<=72 := by rw [lA, lA]; omega
     show (0 : Int)<=1/\(1 : Int)<=2/\(0 : Int)<=((((pad ++ e.2.2) ++ pad).length : Nat) : Int)/\((((pad ++ e.2.2) ++ pad).length : Nat) : Int)<=100;omega
end
section
variable {pad : Bs}
theorem qji : ∀ (l : List Nd) (a : Int × Int), (∀ y ∈ l, 0<=(qeb y).1/\(qeb y).1<=2/\0<=(qeb y).2/\(qeb y).2<=100)->0<=a.1->a.1 + 2 * l.length<=1000->0<=a.2->a.2 + 100 * l.length<=10000 ->
 (qf8 l a).1<=a.1 + 2 * l.length/\(qf8 l a).2<=a.2 + 100 * l.length
 | [], a, _, _, _, _, _ => by rw [qf8]; simp
 | y :: l, a, h, h1, h2, h3, h4 => by
  obtain ⟨k1, k2, k3, k4⟩ := h y (List.mem_cons_self ..);rw [List.length_cons] at h2 h4;rw [qf8, List.length_cons];split
  . have := qji l a (fun z hz => h z (mO _ hz)) h1 (by omega) h3 (by omega)
    omega
  . have e1 : wr (a.1 + (qeb y).1) = a.1 + (qeb y).1 := qmx (by omega) (by omega)
    have e2 : wr (a.2 + (qeb y).2) = a.2 + (qeb y).2 := qmx (by omega) (by omega);have := qji l (wr (a.1 + (qeb y).1), wr (a.2 + (qeb y).2)) (fun z hz => h z (mO _ hz)) (by dsimp only; omega) (by dsimp only; omega) (by dsimp only; omega) (by dsimp only; omega);dsimp only at this;omega
theorem ltr_less : ∀ i, i < 26->∀ j, j < 26->i < j->Op.bytesLess (ltr i) (ltr j) = true := by decide
theorem mayL_kids : ∀ (L : List Laid) (p : Option Bs), (∀ e ∈ L, KidOk pad e)->L.Pairwise (fun a b => a.1 < b.1)->(∀ e ∈ L, qgn p (ltr e.1) = true)->mayL p (L.map (kidOf pad)) = true
 | [], _, _, _, _ => by rw [List.map_nil, mayL]
 | e :: L, p, h, hp, hl => by
  have ke := h e (List.mem_cons_self ..);rw [List.pairwise_cons] at hp;rw [List.map_cons, mayL, kid_name, ltr_ok _ ke.i, ke.may, hl e (List.mem_cons_self ..), mayL_kids L (some (ltr e.1)) (fun x hx => h x (mO _ hx)) hp.2 fun x hx => ltr_less _ ke.i _ (h x (mO _ hx)).i (hp.1 x hx)];rfl
structure LaidOk (pad : Bs) (L : List Laid) : Prop where
 kid : ∀ e ∈ L, KidOk pad e
 pw : L.Pairwise fun a b => a.1 < b.1
 few : L.length<=8
def qb0 (pad : Bs) (L : List Laid) : Nd := topN (L.map (kidOf pad))
theorem LaidOk.ok {L : List Laid} (h : LaidOk pad L) : (qb0 pad L).ok/\qgh (qb0 pad L)<=17 := by
 have hc : qkt (L.map (kidOf pad))<=(L.map (kidOf pad)).length * 2 := cntL_le 2 _ fun y hy => by
  obtain ⟨e, _, rfl⟩ := List.mem_map.1 hy;exact kid_cnt pad e
 rw [lM] at hc;have few := h.few;refine ⟨?_, by rw [qfq]; show 1 + qkt (L.map (kidOf pad))<=_; omega⟩;show (Nd.mk [] 2 false [] (L.map (kidOf pad))).ok;unfold Nd.ok;refine ⟨by simp, by omega, by simp, by rw [lM]; omega, by omega, (okL_iff _).2 fun y hy => ?_⟩;obtain ⟨e, he, rfl⟩ := List.mem_map.1 hy;exact (h.kid e he).ok
theorem LaidOk.check {L : List Laid} (h : LaidOk pad L) : qgw (qb0 pad L) = 0 := by
 have few := h.few
 have hdeep : qbs (qb0 pad L) = false := by
  unfold qbs;rw [decide_eq_false_iff_not, Nat.not_lt];refine Nat.le_trans (m := 3) ?_ (by omega);show qbv (13 + 1) (qb0 pad L)<=3;rw [qbv];split
  . omega
  . refine qff _ 3 _ _ (by omega) fun y hy => ?_
    obtain ⟨e, _, rfl⟩ := List.mem_map.1 (show y ∈ L.map (kidOf pad) from hy);have := kid_deep pad e 13;omega
 have hmay : mayN (qb0 pad L) = true := by
  show mayN (.mk [] 2 false [] (L.map (kidOf pad))) = true;rw [may2, mayL_kids L none h.kid h.pw fun _ _ => rfl];rfl
 have hsz := qji (L.map (kidOf pad)) (1, 0) (fun y hy => by
  obtain ⟨e, he, rfl⟩ := List.mem_map.1 hy
  exact (h.kid e he).size) (by simp) (by rw [lM]; dsimp only; omega) (by simp) (by rw [lM]; dsimp only; omega)
 rw [lM] at hsz;dsimp only at hsz
 have hs : sizeT (qb0 pad L) = qf8 (L.map (kidOf pad)) (1, 0) := by
  unfold sizeT;rw [hdeep, iN (by simp), qgo];rfl
 unfold qgw;rw [hdeep, hmay, hs, iN (by simp), show ((qb0 pad L).name == []) = true from rfl, Bool.and_self, iP rfl, dF (by omega), dF (by omega)];rfl
theorem LaidOk.hit {L : List Laid} (h : LaidOk pad L) {e : Laid} (he : e ∈ L) : hit (qb0 pad L) e.2.2 = true := by
 unfold Go.Proofs.Ytmeohejdafbodaa.W.hit;rw [(h.kid e he).h, Bool.true_and, List.contains_iff_mem, qgu];exact List.mem_append_right _ (mem_winsL (List.mem_map.2 ⟨e, he, rfl⟩) (kid_has pad e (h.kid e he).h))
theorem LaidOk.push {L : List Laid} (h : LaidOk pad L) {e : Laid} (he : KidOk pad e) (hl : ∀ x ∈ L, x.1 < e.1) (hf : L.length < 8) : LaidOk pad (L ++ [e]) :=
 ⟨fun x hx => by
  rcases List.mem_append.1 hx with h' | h'
  . exact h.kid x h'
  . rw [List.mem_singleton.1 h']; exact he,
 List.pairwise_append.2 ⟨h.pw, List.pairwise_singleton _ _, fun a ha b hb => by rw [List.mem_singleton.1 hb]; exact hl a ha⟩,
 by rw [lA, List.length_singleton]; omega⟩
end
end Go.Proofs.Ytmeohejdafbodaa.W
