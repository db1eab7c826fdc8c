/-
  WHAT THE FUNCTIONS COME TO: each is read by the evaluator, printed, and told as a function of data, part 5 of 12 (no condition).
-/
import Derived.Test.YtmeohejdafbodaaW4
namespace Go.Proofs.Ytmeohejdafbodaa.W
open Go.Proofs.Ytmeohejdafbodaa.Ev
section
variable {s : St}
def AgAt (s : St) (b e z : Nat) (t : Tr V) : Prop := ∃ c, s.heap.get b = some (.cells e z 1 false c)/\c.get 0 = some t
theorem AgAt.grew {W : Nat->Prop} {u : St} {b e z : Nat} {t : Tr V} (h : AgAt s b e z t) (hb : b < s.next) (hw : ¬ W b) (g : Grew W s u) : AgAt u b e z t := by
 obtain ⟨c, h1, h2⟩ := h;exact ⟨c, by rw [g.keep b hb hw]; exact h1, h2⟩
theorem qne (ho : s.on = false) (e z : Nat) (t : Tr V) : AgAt (nwP e z t s).2 s.next e z t/\Grew (fun _ => False) s (nwP e z t s).2/\(nwP e z t s).2.next = s.next + 1 := by
 refine ⟨⟨Tr.ofListFrom .nil [t] 0, ?_, by rw [Tr.get_ofList]; rfl⟩, qbe ho _ _, rfl⟩;show (qaf s e z [t]).heap.get s.next = _
 unfold qaf;rw [qdt, iP rfl]; rfl
theorem AgAt.ldk (ho : s.on = false) {b e z : Nat} {t : Tr V} (h : AgAt s b e z t) (hz : z < big) : ldK s b 0 z = some (t, s) := by
 obtain ⟨c, h1, h2⟩ := h;unfold ldK;rw [h1];simp only [ble_true.2 (show 0 + z<=z * 1 by omega), blt_true.2 (show z * 1 < big by omega), Bool.and_self, cT];unfold qgy;rw [show Nat.beq z z = true from beq_true.2 rfl, Nat.zero_mod, show Nat.beq 0 0 = true from rfl];simp only [Bool.and_self, cT, Nat.zero_div, h2, oB, qai ho]
theorem AgAt.ldA (ho : s.on = false) {b e z : Nat} {t : Tr V} (h : AgAt s b e z t) (hz : z < big) : Ev.ldA z (.ptr b 0) s = some (.agg z t, s) := by
 show ((ldK s b 0 z).bind fun p => some (V.agg z p.1, p.2)) = _;rw [h.ldk ho hz]; rfl
theorem AgAt.ldrA (ho : s.on = false) {b e z : Nat} {t : Tr V} (h : AgAt s b e z t) (hz : z < big) : Ev.ldrA z (.ptr b 0) s = some (.agg z t, s) := by
 show ((ldK s b 0 z).bind fun p => some (V.agg z p.1, p.2)) = _;rw [h.ldk ho hz]; rfl
theorem AgAt.stA (ho : s.on = false) {b e z : Nat} {t : Tr V} (h : AgAt s b e z t) (hz : z < big) (u : Tr V) : ∃ w, stP z (.ptr b 0) (.agg z u) s = some (.tuple [], w)/\AgAt w b e z u/\Grew (fun x => x = b) s w/\w.next = s.next := by
 obtain ⟨c, h1, h2⟩ := h;refine ⟨s.put b (.cells e z 1 false (c.set u 0)), ?_, ⟨c.set u 0, by rw [qby, iP rfl], by rw [Tr.get_set, iP rfl]⟩, qb2 b _, rfl⟩;show vu (bif Nat.beq z z && !false then stK s b 0 z u else none) = _;rw [show Nat.beq z z = true from beq_true.2 rfl];simp only [nF, Bool.and_self, cT]
 have : stK s b 0 z u = some (s.put b (.cells e z 1 false (c.set u 0))) := by
  unfold stK;rw [h1];simp only [ble_true.2 (show 0 + z<=z * 1 by omega), blt_true.2 (show z * 1 < big by omega), Bool.and_self, nF, cT];unfold qe6;rw [show Nat.beq z z = true from beq_true.2 rfl, Nat.zero_mod, show Nat.beq 0 0 = true from rfl];simp only [Bool.and_self, cT, Nat.zero_div, Tr.setC_eq, oB, qai ho]
 rw [this]; rfl
theorem AgAt.ld1 (ho : s.on = false) {b e z i : Nat} {t : Tr V} {v : V} (h : AgAt s b e z t) (hz : z < big) (hi : i < z) (hv : t.get i = some v) : Ev.ld1 (.ptr b i) s = some (v, s) := by
 obtain ⟨c, h1, h2⟩ := h;show ld s b i = _;exact ld_of ho h1 (by omega) (by omega) (by rw [qcm hi, h2]; exact hv)
theorem AgAt.st1 (ho : s.on = false) {b e z i : Nat} {t : Tr V} (h : AgAt s b e z t) (hz : z < big) (h1z : 1 < z) (hi : i < z) (v : V) (hs : v.size = 1) (hc : v.cells = Ev.one v) (hv : qa8 v = false) : ∃ w, stP 1 (.ptr b i) v s = some (.tuple [], w)/\AgAt w b e z (t.set v i)/\Grew (fun x => x = b) s w/\w.next = s.next := by
 obtain ⟨c, h1, h2⟩ := h;refine ⟨s.put b (.cells e z 1 false (c.set (t.set v i) 0)), ?_, ⟨c.set (t.set v i) 0, by rw [qby, iP rfl], by rw [Tr.get_set, iP rfl]⟩, qb2 b _, rfl⟩;show vu (bif Nat.beq v.size 1 && !qa8 v then stK s b i 1 v.cells else none) = _;rw [hs, hv, hc];simp only [show Nat.beq 1 1 = true from rfl, nF, Bool.and_self, cT]
 have : stK s b i 1 (Ev.one v) = some (s.put b (.cells e z 1 false (c.set (t.set v i) 0))) := by
  unfold stK;rw [h1];simp only [ble_true.2 (show i + 1<=z * 1 by omega), blt_true.2 (show z * 1 < big by omega), Bool.and_self, nF, cT];unfold qe6;rw [show Nat.beq 1 z = false from beq_false.2 (by omega)];simp only [Bool.false_and, cF, qhd, show (Ev.one v).get 0 = some v from rfl, oB, Nat.add_zero, Nat.div_eq_of_lt hi, Nat.mod_eq_of_lt hi, h2, Tr.setC_eq, qai ho]
 rw [this]; rfl
end
def ixB (l : List UInt8) (c : UInt8) : Int := match l.findIdx? (fun x => x == c) with | some i => (i : Int) | none => -1
structure ByteIn where
 s : List UInt8
 c : UInt8
noncomputable def kfIndexByte : KF := qdb (fun p : ByteIn => [sv p.s, .int .u8 (p.c.toNat : Int)]) (fun p => En.ret (.int .i64 (ixB p.s p.c)))
theorem qhm (s : List UInt8) (c : UInt8) (S : St) : kfIndexByte.run [sv s, .int .u8 (c.toNat : Int)] S = some (.ret (.int .i64 (ixB s c)), S) :=
 qcf (enc := fun p : ByteIn => [sv p.s, .int .u8 (p.c.toNat : Int)]) (out := fun p => En.ret (.int .i64 (ixB p.s p.c))) (fun p q h => by
  simp only [List.cons.injEq, V.int.injEq, true_and, and_true] at h
  rw [qks h.1, UInt8.toNat_inj.1 (show p.c.toNat = q.c.toNat by omega)]) ⟨s, c⟩ S
theorem qpt {n : Nat} (h : n < 256) : (UInt8.ofNat n).toNat = n := by simp [UInt8.toNat_ofNat']; omega
theorem extV_one (l n c : Nat) (S : St) : extV 1 [.str l n, .int .u8 (.ofNat c)] S = bif Nat.blt c 256 then match indexByte c l 0 n with
 | some i => some (.val (.int .i64 (.ofNat i)) S)
 | none => some (.val (.int .i64 (-1)) S)
 else none := rfl
theorem callK_ext {E : Env} {self : EV} {f k : Nat} (h : E.ext.get f = some k) (x y args : List V) (S : St) : qdl E self (.fn (.func f) x y) args S = (extV k (x ++ args ++ y) S).bind fun
 | .val v s => some (.ret v, s)
 | _ => none := by
 show (match E.ext.get f with | some k => _ | none => _) = _;rw [h];rfl
theorem ext76 : E0.ext.get 94 = some 1 := by kernel_rfl
theorem ext_ixB (s : List UInt8) (c : UInt8) (S : St) : extV 1 [sv s, .int .u8 (c.toNat : Int)] S = some (.val (.int .i64 (ixB s c)) S) := by
 have h1 : extV 1 [sv s, .int .u8 (c.toNat : Int)] S = bif Nat.blt c.toNat 256 then match indexByte c.toNat s.length 0 (qan s) with
  | some i => some (.val (.int .i64 (.ofNat i)) S)
  | none => some (.val (.int .i64 (-1)) S)
  else none := extV_one _ _ _ _
 rw [h1, blt_true.2 c.toNat_lt, qfs, ixB];cases s.findIdx? (fun x => x == c) with
 | none => rfl
 | some i => rfl
theorem call76 (self : EV) (s : List UInt8) (c : UInt8) (S : St) : qdl E0 self (.fn (.func 94) [] []) [sv s, .int .u8 (c.toNat : Int)] S = some (.ret (.int .i64 (ixB s c)), S) := by
 have h := callK_ext (E := E0) (self := self) ext76 [] [] [sv s, .int .u8 (c.toNat : Int)] S;have h2 := ext_ixB s c S;rw [List.nil_append, List.append_nil, h2] at h;exact h
theorem F73_of (self : EV) (N : Nat) (s : V) (c : UInt8) (S : St) (v : V) (h : qdl E0 self (.fn (.func 94) [] []) [s, .int .u8 (c.toNat : Int)] S = some (.ret v, S)) : F78 self N s (.int .u8 (c.toNat : Int)) S = some (.ret v, S) := by
 rw [F78_eq, h, callP_ret]
theorem F73_spec (self : EV) (N : Nat) (s : List UInt8) (c : UInt8) (S : St) : F78 self N (sv s) (.int .u8 (c.toNat : Int)) S = some (.ret (.int .i64 (ixB s c)), S) :=
 F73_of self N (sv s) c S (.int .i64 (ixB s c)) (call76 self s c S)
theorem kn63 {K : FuncId->Option KF} (hK : KnOk Try.prog E0 K) (h73 : K 78 = none) : KnWell Try.prog E0 47 kfIndexByte :=
 qcs (fn := Try.f47) (c := C47) (d := B47) qm4 hK (by kernel_rfl) (by kernel_rfl) (qa3 C47 _ (by kernel_rfl)) fun p S ho => by
  refine ⟨1, .ret (.int .i64 (ixB p.s p.c)), S, (?_ : F47 (ev E0 K 1) qa1 (sv p.s) (.int .u8 (p.c.toNat : Int)) S = _), Grew.refl _ _, Fz.same (.int _ _)⟩;rw [F47_eq, qar (c := C78) (d := B78) (by kernel_rfl) (by kernel_rfl) (qa3 C78 _ (by kernel_rfl)) h73 (F73_spec (ev E0 K 0) qa1 p.s p.c S)];rfl
theorem F82_spec (self : EV) (N : Nat) (r : Nat) (S : St) : ∃ v : Bool, F103 self N (.int .i32 (r : Int)) S = some (.ret (.bool v), S) := by
 rw [F103_eq, binV_ii, intsV_leq, show decide ((0 : Int)<=(r : Int)) = true by simp];simp only [oB, qab, cT, binV_ii];rw [intsV_lss, intsV_lss];generalize decide ((r : Int) < 55296) = b1;generalize decide ((57343 : Int) < (r : Int)) = b2;cases b1 with
 | true => exact ⟨true, rfl⟩
 | false =>
  cases b2 with
  | false => exact ⟨false, rfl⟩
  | true =>
   simp only [cT, cF, oB, binV_ii, ifK_bool, qag, qab];rw [intsV_leq];generalize decide ((r : Int)<=1114111) = b3;cases b3
   . exact ⟨false, rfl⟩
   . exact ⟨true, rfl⟩
def bad2 : List UInt8 := [47, 0]
def ixR (r : Nat) : Int := if r = 47 then 0 else if r = 0 then 1 else -1
theorem ixB_bad2 (c : UInt8) : ixB bad2 c = ixR c.toNat := by
 unfold ixB bad2 ixR;by_cases h1 : c = 47
 . subst h1; rfl
 . by_cases h2 : c = 0
   . subst h2; rfl
   . have h3 : ¬ c.toNat = 47 := fun h => h1 (UInt8.toNat_inj.1 h)
     have h4 : ¬ c.toNat = 0 := fun h => h2 (UInt8.toNat_inj.1 h);rw [iN h3, iN h4];have h5 : ((47 : UInt8) == c) = false := by simpa using fun h => h1 h.symm
     have h6 : ((0 : UInt8) == c) = false := by simpa using fun h => h2 h.symm
     simp [List.findIdx?_cons, h5, h6]
theorem enc_last (r : Nat) (h : 128<=r) : ∃ a l, (Utf8.encode (r : Int)).data.toList = a ++ [l]/\1<=a.length/\a.length<=3/\128<=l.toNat := by
 unfold Utf8.encode
 have hc : 128<=(if Utf8.valid (r : Int) then (r : Int).toNat else Utf8.runeError) := by
  split
  . simpa using h
  . decide
 generalize (if Utf8.valid (r : Int) then (r : Int).toNat else Utf8.runeError) = c at hc;have hl : ∀ c : Nat, 128<=(UInt8.ofNat (0x80 + c % 64)).toNat := fun c => by rw [qpt (by omega)]; omega
 simp only;rw [iN (by omega)];split
 . exact ⟨[_], _, rfl, by simp, by simp, hl c⟩
 . split
   . exact ⟨[_, _], _, rfl, by simp, by simp, hl c⟩
   . exact ⟨[_, _, _], _, rfl, by simp, by simp, hl c⟩
theorem und9 : und E0 9 = some .string := by kernel_rfl
theorem und21 : und E0 21 = some (.int .i32) := by kernel_rfl
section
variable {s : St}
theorem nextK_at (ho : s.on = false) {b l n pos : Nat} (h : s.heap.get b = some (.siter l n pos)) (hlt : pos < l) : nextK (.ptr b 0) true s = some (.tuple [.bool true, .int .i64 (pos : Int), .int .i32 ((decP l n pos).1 : Int)], s.put b (.siter l n (pos + (decP l n pos).2))) := by
 unfold nextK qh6;simp only [cT, show Nat.beq 0 0 = true from rfl, h, oB, qai ho, blt_true.2 hlt];unfold setO;rw [qai ho]; rfl
theorem nextK_end (ho : s.on = false) {b l n pos : Nat} (h : s.heap.get b = some (.siter l n pos)) (hge : l<=pos) : nextK (.ptr b 0) true s = some (.tuple [.bool false], s) := by
 unfold nextK qh6
 have hb : Nat.blt pos l = false := by
  cases hc : Nat.blt pos l with
  | false => rfl
  | true => rw [blt_true] at hc; omega
 simp only [cT, show Nat.beq 0 0 = true from rfl, h, oB, qai ho, hb, cF]
theorem qpa (l : List UInt8) : qga E0 9 (sv l) s = some (.ptr s.next 0, nw s (.siter l.length (qan l) 0)) := by
 unfold qga;rw [und9]; rfl
theorem put_on {b : Nat} {o : O} (ho : s.on = false) : (s.put b o).on = false := ho
end
theorem dec_bad0 : decP 2 (qan bad2) 0 = (47, 1) := by decide +kernel
theorem dec_bad1 : decP 2 (qan bad2) 1 = (0, 1) := by decide +kernel
theorem L78_bad (self : EV) (N : Nat) (nk : Ac->St->Rs) (ek : Nat->Ac->St->Rs) (n : Nat) (b : Nat) (S : St) (ho : S.on = false) (h : S.heap.get b = some (.siter 2 (qan bad2) 0)) (hb : b < S.next) :
 ∃ S', L99_20 self N nk ek (n + 3) (.ptr b 0) S = ek 9 (fr 187 []) S'/\Grew (fun x => x = b) S S' := by
 have g0 : (S.put b (.siter 2 (qan bad2) (0 + (decP 2 (qan bad2) 0).2))).heap.get b = some (.siter 2 (qan bad2) 1) := by rw [qby, iP rfl, dec_bad0]; rfl
 have g1 : ((S.put b (.siter 2 (qan bad2) (0 + (decP 2 (qan bad2) 0).2))).put b (.siter 2 (qan bad2) (1 + (decP 2 (qan bad2) 1).2))).heap.get b = some (.siter 2 (qan bad2) 2) := by rw [qby, iP rfl, dec_bad1]; rfl
 refine ⟨_, ?_, (qb2 (s := S) b (.siter 2 (qan bad2) (0 + (decP 2 (qan bad2) 0).2))).trans (qb2 b (.siter 2 (qan bad2) (1 + (decP 2 (qan bad2) 1).2)))⟩;rw [qn9, nextK_at ho h (by omega), dec_bad0];simp only [oB, qac, List.getElem?_cons_zero, List.getElem?_cons_succ, ifK_bool, cT, binV_ii];rw [intsV_eql, show decide (((47 : Nat) : Int) = 65533) = false by decide];simp only [oB, ifK_bool, cF];rw [dec_bad0] at g0 g1;rw [qn9, nextK_at (put_on ho) g0 (by omega), dec_bad1];simp only [oB, qac, List.getElem?_cons_zero, List.getElem?_cons_succ, ifK_bool, cT, binV_ii];rw [intsV_eql, show decide (((0 : Nat) : Int) = 65533) = false by decide];simp only [oB, ifK_bool, cF];rw [dec_bad1] at g1;rw [qn9, nextK_end (put_on (put_on ho)) g1 (by omega)];simp only [oB, qac, List.getElem?_cons_zero, ifK_bool, cF]
theorem L78_enc (self : EV) (N : Nat) (nk : Ac->St->Rs) (ek : Nat->Ac->St->Rs) (n : Nat) (a : List UInt8) (l : UInt8) (h1 : 1<=a.length) (h3 : a.length<=3) (hl : 128<=l.toNat) (S : St) (ho : S.on = false)
 (h63 : ∀ (s : List UInt8) (c : UInt8) S, self.f 47 [sv s, .int .u8 (c.toNat : Int)] S = some (.ret (.int .i64 (ixB s c)), S)) :
 L99_48 self N nk ek (n + 1) (sv bad2) (sv (a ++ [l])) (.int .i64 (a.length : Int)) (.int .i64 (a.length : Int)) S = some (.ret (.int .i64 (-1)), S)\/L99_48 self N nk ek (n + 1) (sv bad2) (sv (a ++ [l])) (.int .i64 (a.length : Int)) (.int .i64 (a.length : Int)) S = ek 1 (fr 187 []) S := by
 rw [L99_48_eq];simp only [lnStr_sv, oB, binV_ii, intsV_lss, show bad2.length = 2 from rfl];by_cases h2 : a.length = 1
 . left
   have hlast : (a ++ [l])[1]'(by simp; omega) = l := by rw [List.getElem_append_right (by omega)]; simp [h2]
   rw [h2];simp only [show decide (((1 : Nat) : Int) < ((2 : Nat) : Int)) = true by decide, ifK_bool, cT, qh0 bad2 .i64 1 (by decide), qh0 (a ++ [l]) .i64 1 (by simp; omega), hlast, oB, binV_ii, intsV_neq, qc3 ho]
   have hne : decide (((bad2[1]'(by decide)).toNat : Int) = (l.toNat : Int)) = false := by
    rw [decide_eq_false_iff_not];show ¬ ((0 : Nat) : Int) = (l.toNat : Int)
    omega
   rw [hne];simp only [nF, cT, intsV_add, oB];rw [show IntKind.i64.wrap (((1 : Nat) : Int) + 1) = ((2 : Nat) : Int) by decide, qko und9 bad2 (qnm .i64 (show 2<=bad2.length by decide)) (lR _)];simp only [oB, qh0 (a ++ [l]) .i64 1 (by simp; omega), hlast];rw [show List.take (bad2.length - 2) (List.drop 2 bad2) = [] from rfl, h63 [] l, show ixB [] l = -1 from rfl];simp only [qbg, binV_ii, intsV_lss, show decide ((-1 : Int) < 0) = true by decide, oB, ifK_bool, cT, qc3 ho, qd4]
 . right
   rw [show decide ((a.length : Int) < ((2 : Nat) : Int)) = false by simp; omega];rfl
theorem convertV_rune {E : Env} {src dst : TypeId} {k k' : IntKind} (hs : und E src = some (.int k)) (hd : und E dst = some .string) (n : Int) (S : St) : qaz E src dst (.int k' n) S = some (sv (Utf8.encode n).data.toList, S) := by
 unfold qaz sv;rw [hs, hd];rfl
structure RuneIn where
 r : Nat
 hr : r<=1114111
noncomputable def kfIndexRune : KF := qdb (fun p : RuneIn => [sv bad2, .int .i32 (p.r : Int)]) (fun p => En.ret (.int .i64 (ixR p.r)))
theorem qoj (r : Nat) (hr : r<=1114111) (S : St) : kfIndexRune.run [sv bad2, .int .i32 (r : Int)] S = some (.ret (.int .i64 (ixR r)), S) :=
 qcf (enc := fun p : RuneIn => [sv bad2, .int .i32 (p.r : Int)]) (out := fun p => En.ret (.int .i64 (ixR p.r))) (fun p q h => by
  simp only [List.cons.injEq, V.int.injEq, true_and, and_true] at h
  rw [show p.r = q.r by omega]) ⟨r, hr⟩ S
theorem F78_far (self : EV) (m : Nat) (x : V) (b1 v : Bool) (a : List UInt8) (l : UInt8) (h1 : 1<=a.length) (h3 : a.length<=3) (hl : 128<=l.toNat) (S : St) (ho : S.on = false)
 (h63 : ∀ (s : List UInt8) (c : UInt8) S, self.f 47 [sv s, .int .u8 (c.toNat : Int)] S = some (.ret (.int .i64 (ixB s c)), S))
 (e0 : qa4 E0 .leq 21 true false (.int .i32 0) x = some (.bool true)) (e1 : qa4 E0 .lss 21 false true x (.int .i32 128) = some (.bool false)) (e2 : qa4 E0 .eql 21 false true x (.int .i32 65533) = some (.bool b1))
 (h82 : self.f 103 [x] S = some (.ret (.bool v), S)) (hcv : qaz E0 21 9 x S = some (sv (a ++ [l]), S)) :
 ∃ S', F99 self (m + 3) (sv bad2) x S = some (.ret (.int .i64 (-1)), S')/\Grew (fun _ => False) S S' := by
 rw [F99_eq, e0];simp only [oB, qab, cT];rw [e1];simp only [oB, qag, cT, ifK_bool, cF];rw [e2];cases b1 with
 | true =>
  simp only [oB, ifK_bool, cT, qpa];have hg := qbe ho (fun _ => False) (.siter bad2.length (qan bad2) 0);obtain ⟨S', h1, h2⟩ := L78_bad self (m + 3) (R99_16 self (m + 3) (qak E0 self Try.f99) (exB 0 (qak E0 self Try.f99) qa9)) (exB 9 (R99_16 self (m + 3) (qak E0 self Try.f99) (exB 0 (qak E0 self Try.f99) qa9)) (exB 0 (qak E0 self Try.f99) qa9)) m S.next (nw S (.siter bad2.length (qan bad2) 0)) (qov ho _) (by rw [qdt, iP rfl]; rfl) (by show S.next < S.next + 1; omega)
  refine ⟨S', ?_, hg.own (lR _) h2⟩;rw [h1, exB_same, R99_16_eq]
 | false =>
  simp only [oB, ifK_bool, cF];rw [h82];simp only [callP_ret, unV, oB, ifK_bool];cases v with
  | false => exact ⟨S, rfl, Grew.refl _ _⟩
  | true =>
   refine ⟨S, ?_, Grew.refl _ _⟩;rw [Bool.not_true, cF, hcv, oB, lnStr_sv, oB, binV_ii, intsV_sub];rw [show (((a ++ [l]).length : Nat) : Int) - 1 = (a.length : Int) by simp, qb8 (by omega) (by omega), oB];have hL := L78_enc self (m + 3) (R99_46 self (m + 3) (qak E0 self Try.f99) (exB 0 (qak E0 self Try.f99) qa9)) (exB 1 (R99_46 self (m + 3) (qak E0 self Try.f99) (exB 0 (qak E0 self Try.f99) qa9)) (exB 0 (qak E0 self Try.f99) qa9)) (m + 2) a l h1 h3 hl S ho h63;rcases hL with hL | hL
   . exact hL
   . exact hL.trans (by rw [exB_same, R99_46_eq])
theorem F78_spec (self : EV) (m r : Nat) (S : St) (ho : S.on = false)
 (h63 : ∀ (s : List UInt8) (c : UInt8) S, self.f 47 [sv s, .int .u8 (c.toNat : Int)] S = some (.ret (.int .i64 (ixB s c)), S))
 (h82 : ∀ S, ∃ v : Bool, self.f 103 [.int .i32 (r : Int)] S = some (.ret (.bool v), S)) :
 ∃ S', F99 self (m + 3) (sv bad2) (.int .i32 (r : Int)) S = some (.ret (.int .i64 (ixR r)), S')/\Grew (fun _ => False) S S' := by
 have e0 : qa4 E0 .leq 21 true false (.int .i32 0) (.int .i32 (r : Int)) = some (.bool true) := by rw [binV_ii, intsV_leq, show decide ((0 : Int)<=(r : Int)) = true by simp]
 by_cases h128 : r < 128
 . have hc : (UInt8.ofNat r).toNat = r := qpt (by omega)
   have h := h63 bad2 (UInt8.ofNat r) S;rw [ixB_bad2, hc] at h;refine ⟨S, ?_, Grew.refl _ _⟩;rw [F99_eq, e0];simp only [oB, qab, cT, binV_ii, intsV_lss];rw [show decide ((r : Int) < 128) = true by simp; omega];simp only [oB, qag, cT, ifK_bool, cvI_int];rw [wrap_u8 (by omega) (by omega), h];rfl
 . have e1 : qa4 E0 .lss 21 false true (.int .i32 (r : Int)) (.int .i32 128) = some (.bool false) := by rw [binV_ii, intsV_lss, show decide ((r : Int) < 128) = false by simp; omega]
   have e2 : qa4 E0 .eql 21 false true (.int .i32 (r : Int)) (.int .i32 65533) = some (.bool (decide ((r : Int) = 65533))) := by rw [binV_ii, intsV_eql]
   obtain ⟨v, hv⟩ := h82 S;obtain ⟨a, l, ha, h1, h3, hl⟩ := enc_last r (by omega)
   have hcv : qaz E0 21 9 (.int .i32 (r : Int)) S = some (sv (a ++ [l]), S) := by
    rw [<- ha];exact convertV_rune und21 und9 _ S
   have hx : ixR r = -1 := by unfold ixR; rw [iN (by omega), iN (by omega)]
   rw [hx];exact F78_far self m _ _ v a l h1 h3 hl S ho h63 e0 e1 e2 hv hcv
theorem kn78 {K : FuncId->Option KF} (hK : KnOk Try.prog E0 K) (h63 : K 47 = some kfIndexByte) (h82 : K 103 = none) : KnWell Try.prog E0 99 kfIndexRune :=
 qcs (fn := Try.f99) (c := C99) (d := B99) qm4 hK (by kernel_rfl) (by kernel_rfl) (qa3 C99 _ (by kernel_rfl)) fun p S ho => by
  obtain ⟨S', h1, h2⟩ := F78_spec (ev E0 K 1) (qa1 - 3) p.r S ho (fun s c S => by rw [qaq h63, qhm]) (fun S => by
   obtain ⟨v, hv⟩ := F82_spec (ev E0 K 0) qa1 p.r S
   exact ⟨v, qar (c := C103) (d := B103) (by kernel_rfl) (by kernel_rfl) (qa3 C103 _ (by kernel_rfl)) h82 hv⟩)
  rw [show qa1 - 3 + 3 = qa1 by unfold qa1; omega] at h1;exact ⟨1, .ret (.int .i64 (ixR p.r)), S', h1, h2, Fz.same (.int _ _)⟩
theorem byteP_at {l : List UInt8} {i : Nat} (h : i < l.length) : qcw (qan l) i = l[i].toNat := qp4 i l l[i] (List.getElem?_eq_getElem h)
theorem decP_ascii {l : List UInt8} {i : Nat} (h : i < l.length) (hc : l[i].toNat < 128) : decP l.length (qan l) i = (l[i].toNat, 1) := by
 unfold decP;rw [byteP_at h, blt_true.2 hc]; rfl
theorem qi7 {l : List UInt8} {j : Nat} (h : qil l.length (qan l) j = true) : ∃ hj : j < l.length, 128<=l[j].toNat := by
 unfold qil at h;rw [bA, blt_true, Ev.beq_true] at h;obtain ⟨h1, h2⟩ := h;rw [byteP_at h1] at h2;exact ⟨h1, by omega⟩
structure Far (l : List UInt8) (i : Nat) (p : Nat × Nat) : Prop where
 lo : 128<=p.1
 hi : p.1<=1114111
 pos : 1<=p.2
 fit : i + p.2<=l.length
 all : ∀ j, j < p.2->∃ hj : i + j < l.length, 128<=l[i + j].toNat
theorem far_one {l : List UInt8} {i : Nat} (h : i < l.length) (hc : 128<=l[i].toNat) {r : Nat} (h1 : 128<=r) (h2 : r<=1114111) : Far l i (r, 1) :=
 ⟨h1, h2, lR _, by show i + 1<=_; omega, fun j hj => by
  have hj' : j < 1 := hj;obtain rfl : j = 0 := by omega
  exact ⟨h, hc⟩⟩
theorem far_if {l : List UInt8} {i : Nat} (h : i < l.length) (hc : 128<=l[i].toNat) {w X : Nat} (b : Bool) (hb : b = true->128<=X/\X<=1114111) (h1 : 1<=w) (hfit : i + w<=l.length)
 (hall : ∀ j, j < w->∃ hj : i + j < l.length, 128<=l[i + j].toNat) : Far l i (bif b then (X, w) else (65533, 1)) := by
 cases b with
 | true => exact ⟨(hb rfl).1, (hb rfl).2, h1, hfit, hall⟩
 | false => exact far_one h hc (by omega) (by omega)
theorem validP_le {X : Nat} (h : validP X = true) : X<=1114111 := by
 unfold validP at h;rw [Bool.or_eq_true, blt_true, bA, ble_true, ble_true] at h;omega
theorem decP_far {l : List UInt8} {i : Nat} (h : i < l.length) (hc : 128<=l[i].toNat) : Far l i (decP l.length (qan l) i) := by
 unfold decP;rw [byteP_at h];have hlt := l[i].toNat_lt
 have h0 : Nat.blt l[i].toNat 128 = false := by
  cases hb : Nat.blt l[i].toNat 128 with
  | false => rfl
  | true => rw [blt_true] at hb; omega
 rw [h0, cF];cases h2 : (Nat.beq (l[i].toNat / 32) 6 && qil l.length (qan l) (i + 1)) with
 | true =>
  rw [bA, Ev.beq_true] at h2;obtain ⟨c1, c2⟩ := qi7 h2.2;rw [cT];refine far_if h hc _ (fun hb => ?_) (by omega) (by omega) fun j hj => ?_
  . rw [ble_true] at hb; omega
  . match j, hj with
    | 0, _ => exact ⟨h, hc⟩
    | 1, _ => exact ⟨c1, c2⟩
 | false =>
 rw [cF];cases h3 : (Nat.beq (l[i].toNat / 16) 14 && qil l.length (qan l) (i + 1) && qil l.length (qan l) (i + 2)) with
 | true =>
  rw [bA, bA] at h3;obtain ⟨c1, c2⟩ := qi7 h3.1.2;obtain ⟨d1, d2⟩ := qi7 h3.2;rw [cT];refine far_if h hc _ (fun hb => ?_) (by omega) (by omega) fun j hj => ?_
  . rw [bA, ble_true] at hb
    exact ⟨Nat.le_trans (by omega) hb.1, validP_le hb.2⟩
  . match j, hj with
    | 0, _ => exact ⟨h, hc⟩
    | 1, _ => exact ⟨c1, c2⟩
    | 2, _ => exact ⟨d1, d2⟩
 | false =>
 rw [cF];cases h4 : (Nat.beq (l[i].toNat / 8) 30 && qil l.length (qan l) (i + 1) && qil l.length (qan l) (i + 2) && qil l.length (qan l) (i + 3)) with
 | true =>
  rw [bA, bA, bA] at h4;obtain ⟨c1, c2⟩ := qi7 h4.1.1.2;obtain ⟨d1, d2⟩ := qi7 h4.1.2;obtain ⟨e1, e2⟩ := qi7 h4.2;rw [cT];refine far_if h hc _ (fun hb => ?_) (by omega) (by omega) fun j hj => ?_
  . rw [bA, ble_true] at hb
    exact ⟨Nat.le_trans (by omega) hb.1, validP_le hb.2⟩
  . match j, hj with
    | 0, _ => exact ⟨h, hc⟩
    | 1, _ => exact ⟨c1, c2⟩
    | 2, _ => exact ⟨d1, d2⟩
    | 3, _ => exact ⟨e1, e2⟩
 | false =>
  rw [cF];exact far_one h hc (by omega) (by omega)
def qfp (s : List UInt8) (pos : Nat) : Option Nat := ((s.drop pos).findIdx? qbd).map fun j => pos + j
theorem anyAt_end {s : List UInt8} {pos : Nat} (h : s.length<=pos) : qfp s pos = none := by unfold qfp; rw [List.drop_eq_nil_of_le h]; rfl
theorem anyAt_hit {s : List UInt8} {pos : Nat} (h : pos < s.length) (hb : qbd s[pos] = true) : qfp s pos = some pos := by
 unfold qfp;rw [List.drop_eq_getElem_cons h, List.findIdx?_cons, iP hb]; rfl
theorem qng {s : List UInt8} {pos : Nat} (h : pos < s.length) (hb : qbd s[pos] = false) : qfp s pos = qfp s (pos + 1) := by
 unfold qfp;rw [List.drop_eq_getElem_cons h, List.findIdx?_cons, iN (by rw [hb]; simp), Option.map_map]
 congr 1
 funext j
 show pos + (j + 1) = pos + 1 + j;omega
theorem anyAt_skip {s : List UInt8} : ∀ (w pos : Nat), (∀ j, j < w->∃ hj : pos + j < s.length, qbd s[pos + j] = false)->qfp s pos = qfp s (pos + w)
 | 0, pos, _ => rfl
 | w + 1, pos, h => by
  obtain ⟨h0, hb⟩ := h 0 (by omega)
  rw [qng (pos := pos) h0 hb, anyAt_skip w (pos + 1) fun j hj => by
   obtain ⟨h1, h2⟩ := h (j + 1) (by omega);have e : pos + 1 + j = pos + (j + 1) := by omega
   exact ⟨by omega, by simp only [e]; exact h2⟩]
  congr 1
  omega
theorem bad_iff (c : UInt8) : qbd c = decide (0<=ixR c.toNat) := by
 unfold qbd ixR;rw [u8_eq c 47, u8_eq c 0, show UInt8.toNat 47 = 47 from rfl, show UInt8.toNat 0 = 0 from rfl];by_cases h1 : c.toNat = 47
 . simp [h1]
 . by_cases h2 : c.toNat = 0
   . simp [h2]
   . simp only [h1, h2, if_false]
     rw [Bool.eq_iff_iff];simp;omega
theorem far_ok {c : UInt8} (h : 128<=c.toNat) : qbd c = false := by
 rw [bad_iff];unfold ixR;rw [iN (by omega), iN (by omega)]; rfl
theorem ixR_far {r : Nat} (h : 128<=r) : ixR r = -1 := by unfold ixR; rw [iN (by omega), iN (by omega)]
def outAny (L : Rs) (E : St->Rs) (o : Option Nat) (S' : St) : Prop :=
 match o with
 | some j => L = some (.ret (.int .i64 (j : Int)), S')
 | none => L = E S'
theorem L77_spec (self : EV) (N : Nat) (nk : Ac->St->Rs) (ek : Nat->Ac->St->Rs) (s : List UInt8) (b : Nat)
 (h78 : ∀ (r : Nat) S, r<=1114111->self.f 99 [sv bad2, .int .i32 (r : Int)] S = some (.ret (.int .i64 (ixR r)), S)) :
 ∀ (k pos n : Nat) (S : St), s.length<=pos + k->k < n->pos<=s.length->S.on = false->S.heap.get b = some (.siter s.length (qan s) pos) ->
 ∃ S', outAny (L95_27 self N nk ek n (sv bad2) (.ptr b 0) S) (fun S' => ek 2 (fr 55 []) S') (qfp s pos) S'/\Grew (fun x => x = b) S S'
 | k, pos, 0, S, hk, hn, hp, ho, hb => by omega
 | k, pos, n + 1, S, hk, hn, hp, ho, hb => by
  by_cases hend : pos = s.length
  . subst hend
    refine ⟨S, ?_, Grew.refl _ _⟩;rw [anyAt_end (lR _), L95_27_eq, nextK_end ho hb (lR _)];rfl
  . have hlt : pos < s.length := by omega
    obtain ⟨k, rfl⟩ : ∃ k', k = k' + 1 := ⟨k - 1, by omega⟩
    have hstep : ∀ r w : Nat, decP s.length (qan s) pos = (r, w)->r<=1114111->1<=w->pos + w<=s.length ->
     (ixR r = -1->qfp s pos = qfp s (pos + w))->(0<=ixR r->qfp s pos = some pos)->(ixR r = -1\/0<=ixR r) ->
     ∃ S', outAny (L95_27 self N nk ek (n + 1) (sv bad2) (.ptr b 0) S) (fun S' => ek 2 (fr 55 []) S') (qfp s pos) S'/\Grew (fun x => x = b) S S' := by
     intro r w hd hr hw hfit hno hyes hor;have hgr := qb2 (s := S) b (.siter s.length (qan s) (pos + w));rw [L95_27_eq, nextK_at ho hb hlt, hd];rw [oB];simp only [qac, List.getElem?_cons_zero, List.getElem?_cons_succ];rw [oB, ifK_bool, cT, oB, oB, h78 r _ hr, callP_ret, binV_ii, intsV_geq, oB, ifK_bool];rcases hor with hneg | hge
     . rw [hneg, show decide ((0 : Int)<=-1) = false by decide, cF, hno hneg]
       obtain ⟨S', h1, h2⟩ := L77_spec self N nk ek s b h78 k (pos + w) n (S.put b (.siter s.length (qan s) (pos + w))) (by omega) (by omega) hfit ho (by rw [qby, iP rfl]);exact ⟨S', h1, hgr.trans h2⟩
     . rw [dT hge, cT, hyes hge]
       exact ⟨_, rfl, hgr⟩
    by_cases hc : s[pos].toNat < 128
    . refine hstep _ 1 (decP_ascii hlt hc) (by omega) (by omega) (by omega) (fun h => qng hlt ?_) (fun h => anyAt_hit hlt ?_) ?_
      . rw [bad_iff, h]; rfl
      . rw [bad_iff]; exact dT h
      . unfold ixR; split
        . right; omega
        . split
          . right; omega
          . left; rfl
    . have hf := decP_far hlt (by omega)
      have hx := ixR_far hf.lo
      exact hstep (decP s.length (qan s) pos).1 (decP s.length (qan s) pos).2 rfl hf.hi hf.pos hf.fit (fun _ => anyAt_skip _ _ fun j hj => by
       obtain ⟨h1, h2⟩ := hf.all j hj
       exact ⟨h1, far_ok h2⟩) (fun h => absurd h (by rw [hx]; decide)) (.inl hx)
theorem ixA_ptr (len z : Nat) (g : Bool) (k : Nat) (ik : IntKind) {b off n : Nat} (h : n < len) : ixA len z g k (.ptr b off) (.int ik (n : Int)) = some (.ptr b (off + n * z)) := by
 show (bif Nat.blt n len then some (V.ptr b (off + n * z)) else none) = _;rw [blt_true.2 h]; rfl
theorem big256 : 256 < big := by unfold big; decide
theorem F81_spec (self : EV) (N : Nat) {b e : Nat} {t : Tr V} (c : UInt8) (S : St) (ho : S.on = false) (h : AgAt S b e 256 t) {v : V} (ht : t.get c.toNat = some v) : F102 self N (.ptr b 0) (.int .u8 (c.toNat : Int)) S = some (.ret v, S) := by
 have hc := c.toNat_lt;rw [F102_eq, show qe8 (.ptr b 0) = some (.ptr b 0) from rfl, oB, ixA_ptr 256 1 false 1 .u8 hc, oB, Nat.zero_add, Nat.mul_one, h.ld1 ho big256 hc ht];rfl
def IsSet (t : Tr V) : Prop := ∀ c : UInt8, t.get c.toNat = some (.bool (qbd c))
theorem F80_new (self : EV) (N : Nat) (x0 : V) (S : St) : F101 self N x0 S = (some (nwP 127 256 (Tr.ofListFrom .nil (List.replicate 256 (.bool false)) 0) S)).bind fun p0 =>
 L101_8 self N (qnb self N (qak E0 self Try.f101) qa9) (exB 0 (qnb self N (qak E0 self Try.f101) qa9) qa9) N x0 p0.1 (.int .i64 0) p0.2 := by kernel_rfl
theorem isSet_made : IsSet (((Tr.ofListFrom .nil (List.replicate 256 (.bool false)) 0).set (.bool true) 47).set (.bool true) 0) := fun c => by
 have hc := c.toNat_lt;rw [Tr.get_set, Tr.get_set, Tr.get_ofList];unfold qbd;rw [u8_eq c 47, u8_eq c 0, show UInt8.toNat 47 = 47 from rfl, show UInt8.toNat 0 = 0 from rfl];by_cases h0 : c.toNat = 0
 . rw [iP h0, h0]; rfl
 . rw [iN h0]
   by_cases h1 : c.toNat = 47
   . rw [iP h1, h1]; rfl
   . rw [iN h1, List.getElem?_replicate, iP hc]
     have e1 : decide ((c.toNat : Int) = ((47 : Nat) : Int)) = false := by simp; omega
     have e2 : decide ((c.toNat : Int) = ((0 : Nat) : Int)) = false := by simp; omega
     rw [e1, e2]; rfl
theorem L80_step (self : EV) (N : Nat) (nk : Ac->St->Rs) (ek : Nat->Ac->St->Rs) (n i : Nat) (hi : i < 2) {b e : Nat} {t : Tr V} (S : St) (ho : S.on = false) (h : AgAt S b e 256 t) :
 ∃ S', L101_8 self N nk ek (n + 1) (sv bad2) (.ptr b 0) (.int .i64 (i : Int)) S = L101_8 self N nk ek n (sv bad2) (.ptr b 0) (.int .i64 ((i + 1 : Nat) : Int)) S'/\AgAt S' b e 256 (t.set (.bool true) (bad2[i]'hi).toNat)/\Grew (fun x => x = b) S S' := by
 obtain ⟨S', h1, h2, h3, _⟩ := h.st1 (i := (bad2[i]'hi).toNat) (v := .bool true) ho big256 (by omega) (bad2[i]'hi).toNat_lt rfl rfl rfl;refine ⟨S', ?_, h2, h3⟩
 have hlt : decide (((bad2[i]'hi).toNat : Int) ≥ 128) = false := by
  match i, hi with
  | 0, _ => rfl
  | 1, _ => rfl
 rw [L101_8_eq, lnStr_sv, oB, binV_ii, intsV_lss, qfz (show i < bad2.length from hi), oB, ifK_bool, cT, qh0 bad2 .i64 i hi, oB, binV_ii, intsV_geq];rw [show decide ((128 : Int)<=((bad2[i]'hi).toNat : Int)) = false from hlt, oB, ifK_bool, cF, ixA_ptr 256 1 false 1 .u8 (bad2[i]'hi).toNat_lt, oB, Nat.zero_add, Nat.mul_one, h1, oB, binV_ii, intsV_add, qbt (by omega), oB]
theorem AgAt.stSame {s : St} (ho : s.on = false) {b e z : Nat} {t : Tr V} (h : AgAt s b e z t) (hz : z < big) : ∃ w, stP z (.ptr b 0) (.agg z t) s = some (.tuple [], w)/\AgAt w b e z t/\Grew (fun x => x = b) s w := by
 obtain ⟨w, h1, h2, h3, _⟩ := h.stA ho hz t;exact ⟨w, h1, h2, h3⟩
theorem F80_spec (self : EV) (m : Nat) (S : St) (ho : S.on = false) : ∃ t S', F101 self (m + 3) (sv bad2) S = some (.ret (.tuple [.agg 256 t, .bool true]), S')/\IsSet t/\Grew (fun _ => False) S S' := by
 obtain ⟨k1, k2, k3⟩ := qne ho 127 256 (Tr.ofListFrom .nil (List.replicate 256 (.bool false)) 0);have hset := isSet_made;have hon : (nwP 127 256 (Tr.ofListFrom .nil (List.replicate 256 (.bool false)) 0) S).2.on = false := qov ho _;rw [F80_new, oB, qfv];generalize (nwP 127 256 (Tr.ofListFrom .nil (List.replicate 256 (.bool false)) 0) S).2 = S1 at *;obtain ⟨S2, a1, a2, a3⟩ := L80_step self (m + 3) (qnb self (m + 3) (qak E0 self Try.f101) qa9) (exB 0 (qnb self (m + 3) (qak E0 self Try.f101) qa9) qa9) (m + 2) 0 (by decide) S1 hon k1;obtain ⟨S3, b1, b2, b3⟩ := L80_step self (m + 3) (qnb self (m + 3) (qak E0 self Try.f101) qa9) (exB 0 (qnb self (m + 3) (qak E0 self Try.f101) qa9) qa9) (m + 1) 1 (by decide) S2 (a3.on.trans hon) a2;have on3 := b3.on.trans (a3.on.trans hon);obtain ⟨S4, c1, c2, c3⟩ := b2.stSame on3 big256;refine ⟨_, S4, ?_, hset, k2.own (lR _) (a3.trans (b3.trans c3))⟩;rw [show (V.int .i64 0) = .int .i64 ((0 : Nat) : Int) from rfl, a1, b1, L101_8_eq, lnStr_sv, oB, binV_ii, intsV_lss, qgx (show bad2.length<=1 + 1 by decide), oB, ifK_bool, cF, exB_same, R101_2_eq, b2.ldA on3 big256, oB];dsimp only;rw [c1, oB];dsimp only;rw [c2.ldrA (c3.on.trans on3) big256];rfl
theorem qn7 (self : EV) (N : Nat) (nk : Ac->St->Rs) (ek : Nat->Ac->St->Rs) (s : List UInt8) (hs : s.length < 9223372036854775808) (b : Nat) (S : St) (h81 : ∀ c : UInt8, self.f 102 [.ptr b 0, .int .u8 (c.toNat : Int)] S = some (.ret (.bool (qbd c)), S)) :
 ∀ (r : List UInt8) (i n : Nat), s.drop i = r->r.length < n->outAny (L95_55 self N nk ek n (sv s) (.ptr b 0) (.int .i64 (i : Int)) S) (fun S => ek 0 (fr 55 []) S) (qfp s i) S
 | r, i, 0, _, hn => by omega
 | [], i, n + 1, hi, hn => by
  rw [anyAt_end (qbm hi), L95_55_eq, lnStr_sv, oB, binV_ii, intsV_lss, qgx (qbm hi)];rfl
 | c :: r, i, n + 1, hi, hn => by
  obtain ⟨hlt, hc, hr, hmem⟩ := qcn hi;rw [L95_55_eq, lnStr_sv, oB, binV_ii, intsV_lss, qfz hlt, oB, ifK_bool, cT, qh0 s .i64 i hlt, hc, oB, h81 c, callP_ret, ifK_bool];cases hb : qbd c with
  | true =>
   rw [anyAt_hit hlt (by rw [hc]; exact hb)];rfl
  | false =>
   rw [qng hlt (by rw [hc]; exact hb), cF, binV_ii, intsV_add, qbt (by omega), oB];exact qn7 self N nk ek s hs b S h81 r (i + 1) n hr (by simp at hn; omega)
def outI (o : Option Nat) : Int := match o with | some j => (j : Int) | none => -1
theorem F77_short (self : EV) (m : Nat) (s : List UInt8) (hs : s.length < m) (S : St) (ho : S.on = false)
 (h78 : ∀ (r : Nat) S, r<=1114111->self.f 99 [sv bad2, .int .i32 (r : Int)] S = some (.ret (.int .i64 (ixR r)), S)) :
 ∃ S', qlm self m (qak E0 self Try.f95) qa9 (fr 55 [(0, sv s), (1, sv bad2)]) S = some (.ret (.int .i64 (outI (qfp s 0))), S')/\Grew (fun _ => False) S S' := by
 have hg := qbe ho (fun _ => False) (.siter s.length (qan s) 0);obtain ⟨S', h1, h2⟩ := L77_spec self m (R95_23 self m (fun a s => qaa [4] a fun a => qak E0 self Try.f95 a s) qa9) (exB 2 (R95_23 self m (fun a s => qaa [4] a fun a => qak E0 self Try.f95 a s) qa9) qa9) s S.next h78 s.length 0 m (nw S (.siter s.length (qan s) 0)) (by omega) hs (by omega) (qov ho _) (by rw [qdt, iP rfl])
 refine ⟨S', ?_, hg.own (lR _) h2⟩;rw [R95_22_eq, qpa, oB];unfold outAny at h1;unfold outI;cases hx : qfp s 0 with
 | some j => rw [hx] at h1; exact h1
 | none =>
  rw [hx] at h1;exact h1.trans (by dsimp only; rw [exB_same, R95_23_eq])
theorem F77_new (self : EV) (N : Nat) (x0 x1 : V) (S : St) : F95 self N x0 x1 S =
(qa4 E0 .eql 9 false true x1 (sv [])).bind fun t2 =>
ifK t2 (
some (.ret (.int .i64 (-1)), S)) (
(qd1 x1 S).bind fun p5 =>
(qa4 E0 .eql 3 false true p5.1 (.int .i64 1)).bind fun t6 =>
ifK t6 (
(ixS x1 (.int .i64 0)).bind fun t8 =>
(cvI .i32 t8 p5.2).bind fun p9 =>
(qa4 E0 .geq 21 false true p9.1 (.int .i32 128)).bind fun t12 =>
ifK t12 (
qax (self.f 99 [x0, (.int .i32 65533)] p9.2) fun t16 S16 =>
some (.ret t16, S16)) (
qax (self.f 99 [x0, p9.1] p9.2) fun t20 S20 =>
some (.ret t20, S20))) (
(qd1 x0 p5.2).bind fun p41 =>
qax (self.f 100 [p41.1] p41.2) fun t42 S42 =>
ifK t42 (
qax (self.f 101 [x1] S42) fun t44 S44 =>
(qac t44 0).bind fun t46 =>
(qac t44 1).bind fun t47 =>
(some (nwP 127 256 (Tr.ofListFrom .nil (List.replicate 256 (V.bool false)) 0) S44)).bind fun p48 =>
(stP 256 p48.1 t46 p48.2).bind fun p49 =>
ifK t47 (
L95_55 self N (R95_52 self N (qlm self N (qak E0 self Try.f95) qa9) qa9) (exB 0 (R95_52 self N (qlm self N (qak E0 self Try.f95) qa9) qa9) qa9) N x0 p48.1 (.int .i64 0) p49.2) (
qlm self N (qak E0 self Try.f95) qa9 (fr 55 [(0, x0), (1, x1)]) p49.2)) (
qlm self N (qak E0 self Try.f95) qa9 (fr 55 [(0, x0), (1, x1)]) S42))) := by kernel_rfl
theorem ag_lay {s : St} (ho : s.on = false) (e : Nat) (t0 u : Tr V) : ∃ w, stP 256 (.ptr s.next 0) (.agg 256 u) (nwP e 256 t0 s).2 = some (.tuple [], w)/\AgAt w s.next e 256 u/\Grew (fun _ => False) s w := by
 obtain ⟨k1, k2, _⟩ := qne ho e 256 t0;obtain ⟨w, h1, h2, h3, _⟩ := k1.stA (qov ho _) big256 u;exact ⟨w, h1, h2, k2.own (lR _) h3⟩
theorem F77_spec (self : EV) (m : Nat) (s : List UInt8) (hs : s.length < m + 3) (hs2 : s.length < 9223372036854775808) (S : St) (ho : S.on = false)
 (h78 : ∀ (r : Nat) S, r<=1114111->self.f 99 [sv bad2, .int .i32 (r : Int)] S = some (.ret (.int .i64 (ixR r)), S))
 (h79 : ∀ S, self.f 100 [.int .i64 (s.length : Int)] S = some (.ret (.bool (decide ((8 : Int) < (s.length : Int)))), S))
 (h80 : ∀ S, S.on = false->∃ t S', self.f 101 [sv bad2] S = some (.ret (.tuple [.agg 256 t, .bool true]), S')/\IsSet t/\Grew (fun _ => False) S S')
 (h81 : ∀ (c : UInt8) S b e t, S.on = false->AgAt S b e 256 t->IsSet t->self.f 102 [.ptr b 0, .int .u8 (c.toNat : Int)] S = some (.ret (.bool (qbd c)), S)) :
 ∃ S', F95 self (m + 3) (sv s) (sv bad2) S = some (.ret (.int .i64 (outI (qfp s 0))), S')/\Grew (fun _ => False) S S' := by
 rw [F77_new, binV_ss, strOp_eql, show (bad2 == []) = false from rfl, oB, ifK_bool, cF, lnStr_sv, oB, binV_ii, intsV_eql, show decide ((bad2.length : Int) = 1) = false by decide, oB, ifK_bool, cF, lnStr_sv, oB, h79, callP_ret, ifK_bool];cases decide ((8 : Int) < (s.length : Int)) with
 | false =>
  rw [cF];exact F77_short self (m + 3) s hs S ho h78
 | true =>
  obtain ⟨t, S1, k1, k2, k3⟩ := h80 S ho;have on1 := k3.on.trans ho;obtain ⟨S2, l1, l2, l3⟩ := ag_lay on1 127 (Tr.ofListFrom .nil (List.replicate 256 (V.bool false)) 0) t;have on2 := l3.on.trans on1;have hL := qn7 self (m + 3) (R95_52 self (m + 3) (qlm self (m + 3) (qak E0 self Try.f95) qa9) qa9) (exB 0 (R95_52 self (m + 3) (qlm self (m + 3) (qak E0 self Try.f95) qa9) qa9) qa9) s hs2 S1.next S2 (fun c => h81 c S2 _ _ t on2 l2 k2) s 0 (m + 3) rfl hs
  refine ⟨S2, ?_, k3.trans l3⟩;rw [cT, k1, callP_ret, show qac (.tuple [.agg 256 t, .bool true]) 0 = some (.agg 256 t) from rfl, oB, show qac (.tuple [.agg 256 t, .bool true]) 1 = some (.bool true) from rfl, oB, oB, qfv, l1, oB, ifK_bool, cT];unfold outAny at hL;unfold outI;cases hx : qfp s 0 with
  | some j => rw [hx] at hL; exact hL
  | none =>
   rw [hx] at hL;exact hL.trans (by dsimp only; rw [exB_same, R95_52_eq])
theorem outI_any (s : List UInt8) : decide (0<=outI (qfp s 0)) = s.any qbd := by
 unfold qfp outI;rw [List.drop_zero];cases h : s.findIdx? qbd with
 | none =>
  rw [List.findIdx?_eq_none_iff] at h
  have : s.any qbd = false := by
   rw [List.any_eq_false];intro x hx;rw [h x hx]; simp
  rw [this]; rfl
 | some j =>
  have : s.any qbd = true := by
   rw [List.any_eq_true];rw [List.findIdx?_eq_some_iff_getElem] at h;obtain ⟨h1, h2, _⟩ := h;exact ⟨_, List.getElem_mem h1, h2⟩
  rw [this];simp
noncomputable def kfAny : KF := qdb (fun p : TextIn => [sv p.s, sv bad2]) (fun p => En.ret (.bool (p.s.any qbd)))
theorem kfAny_run (s : List UInt8) (hs : s.length < 9223372036854775808) (S : St) : kfAny.run [sv s, sv bad2] S = some (.ret (.bool (s.any qbd)), S) :=
 qcf (enc := fun p : TextIn => [sv p.s, sv bad2]) (out := fun p => En.ret (.bool (p.s.any qbd))) (fun p q h => by
  simp only [List.cons.injEq, and_true] at h
  rw [qks h]) ⟨s, hs⟩ S
theorem kn74 {K : FuncId->Option KF} (hK : KnOk Try.prog E0 K) (h78 : K 99 = some kfIndexRune) (h77 : K 95 = none) (h79 : K 100 = none) (h80 : K 101 = none) (h81 : K 102 = none) : KnWell Try.prog E0 79 kfAny :=
 qcs (fn := Try.f79) (c := C79) (d := B79) qm4 hK (by kernel_rfl) (by kernel_rfl) (qa3 C79 _ (by kernel_rfl)) fun p S ho => by
  obtain ⟨S', h1, h2⟩ := F77_spec (ev E0 K 1) (qa1 - 3) p.s (by have := p.hs; unfold qa1; omega) p.hs S ho (fun r S hr => by rw [qaq h78, qoj r hr])
   (fun S => qar (c := C100) (d := B100) (by kernel_rfl) (by kernel_rfl) (qa3 C100 _ (by kernel_rfl)) h79 (show F100 (ev E0 K 0) qa1 _ S = _ by rw [F100_eq, binV_ii, intsV_gtr]; rfl))
   (fun S ho => by
    obtain ⟨t, S', h1, h2, h3⟩ := F80_spec (ev E0 K 0) (qa1 - 3) S ho;rw [show qa1 - 3 + 3 = qa1 by unfold qa1; omega] at h1
    exact ⟨t, S', qar (c := C101) (d := B101) (by kernel_rfl) (by kernel_rfl) (qa3 C101 _ (by kernel_rfl)) h80 h1, h2, h3⟩)
   (fun c S b e t ho h hs => qar (c := C102) (d := B102) (by kernel_rfl) (by kernel_rfl) (qa3 C102 _ (by kernel_rfl)) h81 (F81_spec (ev E0 K 0) qa1 c S ho h (hs c)))
  rw [show qa1 - 3 + 3 = qa1 by unfold qa1; omega] at h1;refine ⟨2, .ret (.bool (p.s.any qbd)), S', (?_ : F79 (ev E0 K 2) qa1 (sv p.s) (sv bad2) S = _), h2, Fz.same (.bool _)⟩;rw [F79_eq, qar (c := C95) (d := B95) (by kernel_rfl) (by kernel_rfl) (qa3 C95 _ (by kernel_rfl)) h77 h1, callP_ret, binV_ii, intsV_geq, outI_any];rfl
theorem kn66 {K : FuncId->Option KF} (hK : KnOk Try.prog E0 K) (h74 : K 79 = some kfAny) : KnWell Try.prog E0 50 (qis qhi) :=
 knText hK (fn := Try.f50) (c := C50) (d := B50) qhi (fun _ _ => .bool _) (by kernel_rfl) (by kernel_rfl) (qa3 C50 _ (by kernel_rfl)) 1 fun s S hs ho => by
  refine ⟨S, (?_ : F50 (ev E0 K 1) qa1 (sv s) S = _), Grew.refl _ _⟩;have h := kfAny_run s hs S;rw [F50_eq, lnStr_sv, oB, binV_ii, intsV_geq, oB, qab, oB, qhi, qos];rw [show decide ((1 : Int)<=(s.length : Int)) = decide (1<=s.length) by rw [decide_eq_decide]; omega];cases decide (1<=s.length) with
  | false => rfl
  | true =>
   simp only [cT, lnStr_sv, oB, binV_ii, intsV_leq, qag, qab, Bool.true_and];rw [show decide ((s.length : Int)<=56) = decide (s.length<=56) by rw [decide_eq_decide]; omega];cases decide (s.length<=56) with
   | false => rfl
   | true =>
    simp only [cT, oB, Bool.true_and];rw [show (sv [47, 0]) = sv bad2 from rfl, qaq h74, h, callP_ret];simp only [unV, oB, qag, qab, cT];cases s.any qbd with
    | true => rfl
    | false =>
     simp only [nF, cT, oB, binV_ss, strOp_neq, qag, qab, Bool.true_and];cases (s == [46]) with
     | true => rfl
     | false =>
      simp only [nF, cT, oB, binV_ss, strOp_neq, qag, qab, Bool.true_and]
theorem L65_spec (self : EV) (N : Nat) (nk : Ac->St->Rs) (ek : Nat->Ac->St->Rs) (x : Nd) (b : Nat) (ok : NdOk x) (h66 : ∀ y ∈ x.kids, ∀ s, self.f 50 [sv y.name] s = some (.ret (qhi y.name), s))
 (h36 : ∀ y ∈ x.kids, ∀ s, self.f 25 [qde y] s = some (.ret (gMay y), s)) :
 ∀ (r : List Nd) (i n : Nat) (S : St), x.kids.drop i = r->r.length < n->NodeAt S b x->b < S.next ->
 ∃ S', L49_7 self N nk ek n (.ptr b 0) (qbh (qd3 x.kids)) (.int .i64 (x.kids.length : Int)) (.int .i64 (i : Int)) S = (bif mayL (qlb x.kids i) r then ek 0 (fr 38 []) S' else some (.ret (.bool false), S'))/\Grew (fun _ => False) S S'
 | r, i, 0, S, _, hn, _, _ => by omega
 | [], i, n + 1, S, hi, hn, hx, hb => by
  refine ⟨S, ?_, Grew.refl _ _⟩;rw [L49_7_eq, binV_ii, intsV_lss, qgx (qbm hi), mayL];rfl
 | y :: r, i, n + 1, S, hi, hn, hx, hb => by
  obtain ⟨hlt, hy, hr, hmem⟩ := qcn hi;have hfew := ok.few;obtain ⟨S1, k1, k2, k3, k4⟩ := node_new hx.on (Tr.ofListFrom .nil [(sv []), (.int .i64 0), (.bool false), (sv []), .nilslice] 0) y;have hx1 := hx.grew hb (fun h => h) k3;rw [L49_7_eq, mayL, binV_ii, intsV_lss, qfz hlt];simp only [oB, ifK_bool, cT];rw [qds x.kids i hlt, hy];simp only [oB, qj9, qfv];rw [k1];simp only [oB, faP_ptr, Nat.zero_add, k2.o0, qh2, h66 y hmem, qbg, qhi, unV];cases hnm : qos y.name with
  | false =>
   simp only [qal, qab, qao, nF, Bool.not_true, oB, cT, cF, qbg, qag, qd4];rw [qhf]
   . refine ⟨S1, ?_, k3⟩
     simp only [qc3 k2.on, ifK_bool, cT, Bool.false_and, cF]
   . rfl
  | true =>
   simp only [qal, qab, qao, nF, Bool.not_true, oB, cT, cF, k2.oA, qd4, qh2, h36 y hmem, qbg, gMay, unV, qag];cases hmy : mayN y with
   | false =>
    simp only [qal, qab, qao, nF, Bool.not_true, oB, cT, cF, qag, qd4, qh2];rw [qhf]
    . refine ⟨S1, ?_, k3⟩
      simp only [qc3 k2.on, qms k2.on, ifK_bool, cT, Bool.false_and, Bool.and_false, cF]
    . rfl
   | true =>
    simp only [qal, qab, qao, nF, Bool.not_true, oB, cT, cF, qag, binV_ii, intsV_gtr, Bool.and_self, Bool.true_and, qd4, qh2];cases i with
    | zero =>
     simp only [show decide ((0 : Int) < ((0 : Nat) : Int)) = false from rfl, cF, oB, qd4, qh2, qab, qal];rw [qhf]
     . obtain ⟨S', h1, h2⟩ := L65_spec self N nk ek x b ok h66 h36 r (0 + 1) n S1 hr (by simp at hn; omega) hx1 (by omega)
       refine ⟨S', ?_, k3.trans h2⟩;simp only [qc3 k2.on, qms k2.on, ifK_bool, cF, oB, binV_ii, intsV_add, qbt (show 0 < 9223372036854775807 by omega), qlb, qgn, Bool.true_and];rw [h1];simp only [qlb, List.getElem?_eq_getElem hlt, hy, Option.map_some]
     . rfl
    | succ j =>
     have hj : j < x.kids.length := by omega
     simp only [show decide ((0 : Int) < ((j + 1 : Nat) : Int)) = true by simp, cT, oB, qab, qal, hx1.o4, qd4, qh2, binV_ii, intsV_sub];rw [show ((j + 1 : Nat) : Int) - 1 = (j : Int) by omega, qb8 (by omega) (by omega)];simp only [oB, qds x.kids j hj, faP_kid, qh2, ld1_csv, k2.o0, qd4, binV_ss, strOp_geq];rw [qhf]
     . cases hbl : Op.bytesLess x.kids[j].name y.name with
       | false =>
        refine ⟨S1, ?_, k3⟩;simp only [qc3 k2.on, qms k2.on, ifK_bool, qlb, qgn, List.getElem?_eq_getElem hj, Option.map_some, hbl, nF, cT, Bool.false_and, cF]
       | true =>
        obtain ⟨S', h1, h2⟩ := L65_spec self N nk ek x b ok h66 h36 r (j + 1 + 1) n S1 hr (by simp at hn; omega) hx1 (by omega);refine ⟨S', ?_, k3.trans h2⟩;simp only [qc3 k2.on, qms k2.on, ifK_bool, qlb, qgn, List.getElem?_eq_getElem hj, Option.map_some, hbl, Bool.not_true, cF, Bool.true_and, binV_ii, intsV_add, qbt (show j + 1 < 9223372036854775807 by omega), oB];rw [h1];simp only [qlb, List.getElem?_eq_getElem hlt, hy, Option.map_some]
     . rfl
section
variable {self : EV} {N : Nat} {x : Nd} {b : Nat} {S : St}
theorem isEmpty_dec (l : List Nd) : decide ((l.length : Int) = 0) = l.isEmpty := by
 cases l with
 | nil => rfl
 | cons y l => simp; omega
theorem F59_spec (hx : NodeAt S b x) : F43 self N (.ptr b 0) S = some (.ret (.bool x.kids.isEmpty), S) := by
 rw [F43_eq];simp only [faP_ptr, Nat.zero_add, oB, hx.f4, qcj, binV_ii, intsV_eql, isEmpty_dec]
theorem F60_spec (hx : NodeAt S b x) : F44 self N (.ptr b 0) S = some (.ret (.bool (!x.exec)), S) := by
 rw [F44_eq];simp only [faP_ptr, Nat.zero_add, oB, hx.f2, unV]
theorem F64_spec (hx : NodeAt S b x) : F48 self N (.ptr b 0) S = some (.ret (.bool (x.data == [])), S) := by
 rw [F48_eq];simp only [faP_ptr, Nat.zero_add, oB, hx.f3, binV_ss, strOp_eql]
def dataOk (d : List UInt8) : Bool := decide (1<=d.length) && decide (d.length<=255) && !(d.any (· == 0))
theorem ixB_none (d : List UInt8) (c : UInt8) : decide (ixB d c < 0) = !(d.any (· == c)) := by
 unfold ixB;cases h : d.findIdx? (fun x => x == c) with
 | none =>
  rw [List.findIdx?_eq_none_iff] at h
  have : d.any (fun x => x == c) = false := by
   rw [List.any_eq_false];intro x hx;rw [h x hx]; simp
  rw [this]; rfl
 | some j =>
  have : d.any (fun x => x == c) = true := by
   rw [List.any_eq_true];rw [List.findIdx?_eq_some_iff_getElem] at h;obtain ⟨h1, h2, _⟩ := h;exact ⟨_, List.getElem_mem h1, h2⟩
  rw [this];simp
theorem F62_spec (hx : NodeAt S b x) (h63 : ∀ s, self.f 47 [sv x.data, .int .u8 0] s = some (.ret (.int .i64 (ixB x.data 0)), s)) : F46 self N (.ptr b 0) S = some (.ret (.bool (dataOk x.data)), S) := by
 rw [F46_eq];simp only [faP_ptr, Nat.zero_add, oB, hx.f3, lnStr_sv, binV_ii, intsV_geq, qab];unfold dataOk;rw [show decide ((1 : Int)<=(x.data.length : Int)) = decide (1<=x.data.length) by rw [decide_eq_decide]; omega];cases decide (1<=x.data.length) with
 | false => rfl
 | true =>
  simp only [cT, oB, hx.f3, lnStr_sv, binV_ii, intsV_leq, qab, qag, Bool.true_and];rw [show decide ((x.data.length : Int)<=255) = decide (x.data.length<=255) by rw [decide_eq_decide]; omega];cases decide (x.data.length<=255) with
  | false => rfl
  | true =>
   simp only [cT, oB, hx.f3, h63, callP_ret, binV_ii, intsV_lss, ixB_none, qab, qag, Bool.true_and]
end
theorem F65_spec (self : EV) (x : Nd) (b : Nat) (ok : NdOk x) (h66 : ∀ y ∈ x.kids, ∀ s, self.f 50 [sv y.name] s = some (.ret (qhi y.name), s))
 (h36 : ∀ y ∈ x.kids, ∀ s, self.f 25 [qde y] s = some (.ret (gMay y), s)) (S : St) (hx : NodeAt S b x) (hb : b < S.next) :
 ∃ S', F49 self qa1 (.ptr b 0) S = some (.ret (.bool (mayL none x.kids)), S')/\Grew (fun _ => False) S S' := by
 obtain ⟨S', h1, h2⟩ := L65_spec self qa1 (R49_1 self qa1 (qak E0 self Try.f49) qa9) (exB 0 (R49_1 self qa1 (qak E0 self Try.f49) qa9) qa9) x b ok h66 h36 x.kids 0 qa1 S rfl (by have := ok.few; unfold qa1; omega) hx hb;refine ⟨S', ?_, h2⟩;rw [F49_eq, faP_ptr, oB, Nat.zero_add, hx.f4, oB, qcj, oB, show (V.int .i64 0) = .int .i64 ((0 : Nat) : Int) from rfl, h1, show qlb x.kids 0 = none from rfl];cases mayL none x.kids with
 | true => rw [cT, exB_same, R49_1_eq]
 | false => rfl
theorem bsP_three (s : St) (ho : s.on = false) (e : Nat) (z a b c : V) (ha : a.size = 1/\qa8 a = false/\a.cells = Ev.one a) (hb : b.size = 1/\qa8 b = false/\b.cells = Ev.one b) (hc : c.size = 1/\qa8 c = false/\c.cells = Ev.one c) :
 ∃ t, bsP e 1 3 (Ev.one z) [(0, a), (1, b), (2, c)] s = some (.slice s.next 0 3 3, t)/\RowAt t s.next e 1 [Ev.one a, Ev.one b, Ev.one c]/\Grew (fun _ => False) s t/\t.next = s.next + 1 := by
 refine ⟨nw s (.cells e 1 3 false ((((Tr.tab 3 3 fun _ => Ev.one z).set (Ev.one a) 0).set (Ev.one b) 1).set (Ev.one c) 2)), ?_, ?_, qbe ho _ _, rfl⟩
 . unfold bsP qe7 qe7 qe7 qe7
   rw [ha.1, ha.2.1, ha.2.2, hb.1, hb.2.1, hb.2.2, hc.1, hc.2.1, hc.2.2];simp only [Nat.beq_refl, nF, Bool.and_true, show Nat.blt 0 3 = true from rfl, show Nat.blt 1 3 = true from rfl, show Nat.blt 2 3 = true from rfl, cT, Tr.setC_eq, oB]
 . refine qdv ho (by omega) rfl (by unfold big; omega) fun i t h => ?_
   simp only [Tr.get_set]
   match i, h with
   | 0, h => simpa using h
   | 1, h => simpa using h
   | 2, h => simpa using h
   | i + 3, h => simp at h
def Ans (self : EV) (b : Nat) (x : Nd) (f : FuncId) (v : Bool) : Prop := ∀ S, NodeAt S b x->b < S.next->∃ S', qdl E0 self (.fn (.func f) [] [.ptr b 0]) [] S = some (.ret (.bool v), S')/\Grew (fun _ => False) S S'
theorem qdm {E : Env} {self : EV} {f : FuncId} (h : E.ext.get f = none) (hb : qb9 E f = true) (x y args : List V) (S : St) : qdl E self (.fn (.func f) x y) args S = self.f f (x ++ args ++ y) S := by
 show (match E.ext.get f with | some k => _ | none => _) = _;rw [h];show (bif qb9 E f then self.f f (x ++ args ++ y) S else none) = _;rw [hb]; rfl
theorem L75_step (self : EV) (N : Nat) (nk : Ac->St->Rs) (ek : Nat->Ac->St->Rs) (n i : Nat) (hi : i < 3) (b r : Nat) (x : Nd) (l : List (Tr V)) (fs : FuncId) (v : Bool) (hl : l.length = 3) (hf : l[i]? = some (Ev.one (.fn (.func fs) [] [.ptr b 0])))
 (h72 : ∀ S, NodeAt S b x->b < S.next->∃ S', qdl E0 self (.fn (.func 77) [] []) [.fn (.func fs) [] [.ptr b 0]] S = some (.ret (.bool (!v)), S')/\Grew (fun _ => False) S S')
 (S : St) (hx : NodeAt S b x) (hb : b < S.next) (hrow : RowAt S r 29 1 l) :
 ∃ S', L93_6 self N nk ek (n + 1) (.slice r 0 3 3) (.fn (.func 77) [] []) (.int .i64 3) (.int .i64 (i : Int)) S = (bif v then L93_6 self N nk ek n (.slice r 0 3 3) (.fn (.func 77) [] []) (.int .i64 3) (.int .i64 ((i + 1 : Nat) : Int)) S' else some (.ret (.int .i64 (i : Int)), S'))/\Grew (fun _ => False) S S' := by
 obtain ⟨S', h1, h2⟩ := h72 S hx hb;refine ⟨S', ?_, h2⟩
 have hix : ixP 1 (.slice r 0 3 3) (.int .i64 (i : Int)) = some (.ptr r i) := by
  show (bif Nat.blt i 3 then some (V.ptr r (0 + i * 1)) else none) = _;rw [blt_true.2 hi, Nat.zero_add, Nat.mul_one]; rfl
 rw [L93_6_eq, binV_ii, intsV_lss, show decide ((i : Int) < 3) = true by simp; omega, oB, ifK_bool, cT, hix, oB, ld1_ptr, hrow.ld1 hx.on hf, oB];dsimp only;rw [h1, callP_ret, ifK_bool];cases v with
 | true => rw [Bool.not_true, cF, cT, binV_ii, intsV_add, qbt (by omega), oB]
 | false => rfl
end Go.Proofs.Ytmeohejdafbodaa.W
