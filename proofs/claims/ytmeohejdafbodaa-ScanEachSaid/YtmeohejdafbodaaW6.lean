/-
  WHAT THE FUNCTIONS COME TO: each is read by the evaluator, printed, and told as a function of data, part 6 of 12 (no condition).
-/
import Derived.Test.YtmeohejdafbodaaW5
import Derived.OpenShut
import Derived.ProofKit
import Derived.WalkKit
import Derived.Carry
import Derived.ChangeMaps5
namespace Go.Proofs.Ytmeohejdafbodaa.W
open Go.Proofs.Ytmeohejdafbodaa.Ev
theorem body59 : E0.ext.get 43 = none/\qb9 E0 43 = true := ⟨by kernel_rfl, by kernel_rfl⟩
theorem body60 : E0.ext.get 44 = none/\qb9 E0 44 = true := ⟨by kernel_rfl, by kernel_rfl⟩
theorem body62 : E0.ext.get 46 = none/\qb9 E0 46 = true := ⟨by kernel_rfl, by kernel_rfl⟩
theorem body64 : E0.ext.get 48 = none/\qb9 E0 48 = true := ⟨by kernel_rfl, by kernel_rfl⟩
theorem body65 : E0.ext.get 49 = none/\qb9 E0 49 = true := ⟨by kernel_rfl, by kernel_rfl⟩
theorem body72 : E0.ext.get 77 = none/\qb9 E0 77 = true := ⟨by kernel_rfl, by kernel_rfl⟩
section
variable {K : FuncId->Option KF}
theorem call72 (h : K 77 = none) (n : Nat) {b : Nat} {x : Nd} {f : FuncId} {v : Bool} (ha : Ans (ev E0 K n) b x f v) (S : St) (hx : NodeAt S b x) (hb : b < S.next) :
 ∃ S', qdl E0 (ev E0 K (n + 1)) (.fn (.func 77) [] []) [.fn (.func f) [] [.ptr b 0]] S = some (.ret (.bool (!v)), S')/\Grew (fun _ => False) S S' := by
 obtain ⟨S', h1, h2⟩ := ha S hx hb;refine ⟨S', ?_, h2⟩;rw [qdm body72.1 body72.2, List.nil_append, List.append_nil];exact qar (c := C77) (d := B77) (by kernel_rfl) (by kernel_rfl) (qa3 C77 _ (by kernel_rfl)) h (show F77 (ev E0 K n) qa1 _ S = _ by rw [F77_eq, h1]; rfl)
def first3 (v0 v1 v2 : Bool) : Int := if v0 then if v1 then if v2 then -1 else 2 else 1 else 0
theorem F75_spec (h72 : K 77 = none) (n : Nat) {b r : Nat} {x : Nd} {f0 f1 f2 : FuncId} {v0 v1 v2 : Bool} (a0 : Ans (ev E0 K n) b x f0 v0) (a1 : Ans (ev E0 K n) b x f1 v1) (a2 : Ans (ev E0 K n) b x f2 v2) (m : Nat) (S : St) (hx : NodeAt S b x) (hb : b < S.next) (hr : r < S.next)
 (hrow : RowAt S r 29 1 [Ev.one (.fn (.func f0) [] [.ptr b 0]), Ev.one (.fn (.func f1) [] [.ptr b 0]), Ev.one (.fn (.func f2) [] [.ptr b 0])]) :
 ∃ S', F93 (ev E0 K (n + 1)) (m + 4) (.slice r 0 3 3) (.fn (.func 77) [] []) S = some (.ret (.int .i64 (first3 v0 v1 v2)), S')/\Grew (fun _ => False) S S' := by
 rw [F93_eq, lnS_slice, oB];generalize hnk : R93_1 (ev E0 K (n + 1)) (m + 4) (qak E0 (ev E0 K (n + 1)) Try.f93) qa9 = nk;obtain ⟨S1, s1, g1⟩ := L75_step (ev E0 K (n + 1)) (m + 4) nk (exB 0 nk qa9) (m + 3) 0 (by decide) b r x _ f0 v0 rfl rfl (fun S => call72 h72 n a0 S) S hx hb hrow;rw [show (V.int .i64 ((3 : Nat) : Int)) = .int .i64 3 from rfl, show (V.int .i64 0) = .int .i64 ((0 : Nat) : Int) from rfl, s1];unfold first3;cases v0 with
 | false => exact ⟨S1, rfl, g1⟩
 | true =>
 have hx1 := hx.grew hb (fun h => h) g1;have hb1 := Nat.lt_of_lt_of_le hb g1.next
 have hr1 := Nat.lt_of_lt_of_le hr g1.next
 have hrow1 := hrow.grew hr (fun h => h) g1;obtain ⟨S2, s2, g2⟩ := L75_step (ev E0 K (n + 1)) (m + 4) nk (exB 0 nk qa9) (m + 2) 1 (by decide) b r x _ f1 v1 rfl rfl (fun S => call72 h72 n a1 S) S1 hx1 hb1 hrow1;rw [cT, show 0 + 1 = 1 from rfl, s2];cases v1 with
 | false => exact ⟨S2, rfl, g1.trans g2⟩
 | true =>
 have hx2 := hx1.grew hb1 (fun h => h) g2;have hb2 := Nat.lt_of_lt_of_le hb1 g2.next
 have hrow2 := hrow1.grew hr1 (fun h => h) g2;obtain ⟨S3, s3, g3⟩ := L75_step (ev E0 K (n + 1)) (m + 4) nk (exB 0 nk qa9) (m + 1) 2 (by decide) b r x _ f2 v2 rfl rfl (fun S => call72 h72 n a2 S) S2 hx2 hb2 hrow2;rw [cT, show 1 + 1 = 2 from rfl, s3];cases v2 with
 | false => exact ⟨S3, rfl, g1.trans (g2.trans g3)⟩
 | true =>
 refine ⟨S3, ?_, g1.trans (g2.trans g3)⟩;rw [cT, show 2 + 1 = 3 from rfl, L93_6_eq, binV_ii, intsV_lss, show decide (((3 : Nat) : Int) < 3) = false by decide, oB, ifK_bool, cF, exB_same, <- hnk, R93_1_eq];rfl
theorem first3_all (v0 v1 v2 : Bool) : (!decide (0<=first3 v0 v1 v2)) = (v0 && v1 && v2) := by cases v0 <;> cases v1 <;> cases v2 <;> rfl
theorem all3 (h61 : K 45 = none) (h71 : K 76 = none) (h72 : K 77 = none) (h75 : K 93 = none) (n : Nat) {b r : Nat} {x : Nd} {f0 f1 f2 : FuncId} {v0 v1 v2 : Bool} (a0 : Ans (ev E0 K n) b x f0 v0) (a1 : Ans (ev E0 K n) b x f1 v1) (a2 : Ans (ev E0 K n) b x f2 v2) (S : St) (hx : NodeAt S b x) (hb : b < S.next) (hr : r < S.next)
 (hrow : RowAt S r 29 1 [Ev.one (.fn (.func f0) [] [.ptr b 0]), Ev.one (.fn (.func f1) [] [.ptr b 0]), Ev.one (.fn (.func f2) [] [.ptr b 0])]) :
 ∃ S', (ev E0 K (n + 4)).f 45 [.slice r 0 3 3] S = some (.ret (.bool (v0 && v1 && v2)), S')/\Grew (fun _ => False) S S' := by
 obtain ⟨S', h1, h2⟩ := F75_spec h72 n a0 a1 a2 (qa1 - 4) S hx hb hr hrow;rw [show qa1 - 4 + 4 = qa1 by unfold qa1; omega] at h1;have e75 := qar (c := C93) (d := B93) (by kernel_rfl) (by kernel_rfl) (qa3 C93 _ (by kernel_rfl)) h75 h1
 have h71' : F76 (ev E0 K (n + 2)) qa1 (.slice r 0 3 3) (.fn (.func 77) [] []) S = some (.ret (.bool (decide (0<=first3 v0 v1 v2))), S') := by
  rw [F76_eq, e75, callP_ret, binV_ii, intsV_geq];rfl
 have e71 := qar (c := C76) (d := B76) (by kernel_rfl) (by kernel_rfl) (qa3 C76 _ (by kernel_rfl)) h71 h71'
 have h61' : F45 (ev E0 K (n + 3)) qa1 (.slice r 0 3 3) S = some (.ret (.bool (v0 && v1 && v2)), S') := by
  rw [F45_eq, e71, callP_ret, <- first3_all];rfl
 exact ⟨S', qar (c := C45) (d := B45) (by kernel_rfl) (by kernel_rfl) (qa3 C45 _ (by kernel_rfl)) h61 h61', h2⟩
theorem ans59 (h : K 43 = none) (n : Nat) (b : Nat) (x : Nd) : Ans (ev E0 K (n + 1)) b x 43 x.kids.isEmpty := fun S hx hb => by
 refine ⟨S, ?_, Grew.refl _ _⟩;rw [qdm body59.1 body59.2];exact qar (c := C43) (d := B43) (by kernel_rfl) (by kernel_rfl) (qa3 C43 _ (by kernel_rfl)) h (F59_spec (self := ev E0 K n) (N := qa1) hx)
theorem ans60 (h : K 44 = none) (n : Nat) (b : Nat) (x : Nd) : Ans (ev E0 K (n + 1)) b x 44 (!x.exec) := fun S hx hb => by
 refine ⟨S, ?_, Grew.refl _ _⟩;rw [qdm body60.1 body60.2];exact qar (c := C44) (d := B44) (by kernel_rfl) (by kernel_rfl) (qa3 C44 _ (by kernel_rfl)) h (F60_spec (self := ev E0 K n) (N := qa1) hx)
theorem ans64 (h : K 48 = none) (n : Nat) (b : Nat) (x : Nd) : Ans (ev E0 K (n + 1)) b x 48 (x.data == []) := fun S hx hb => by
 refine ⟨S, ?_, Grew.refl _ _⟩;rw [qdm body64.1 body64.2];exact qar (c := C48) (d := B48) (by kernel_rfl) (by kernel_rfl) (qa3 C48 _ (by kernel_rfl)) h (F64_spec (self := ev E0 K n) (N := qa1) hx)
theorem ans62 (h : K 46 = none) (h63 : K 47 = some kfIndexByte) (n : Nat) (b : Nat) (x : Nd) : Ans (ev E0 K (n + 2)) b x 46 (dataOk x.data) := fun S hx hb => by
 refine ⟨S, ?_, Grew.refl _ _⟩;rw [qdm body62.1 body62.2]
 exact qar (c := C46) (d := B46) (by kernel_rfl) (by kernel_rfl) (qa3 C46 _ (by kernel_rfl)) h (F62_spec (self := ev E0 K (n + 1)) (N := qa1) hx fun s => by
  rw [qaq h63]
  exact qhm x.data 0 s)
theorem ans65 (h : K 49 = none) (h66 : K 50 = some (qis qhi)) (n : Nat) (b : Nat) (x : Nd) (ok : x.ok) (h36 : ∀ y s m, y ∈ x.kids->(ev E0 K (m + 1)).f 25 [qde y] s = some (.ret (gMay y), s)) : Ans (ev E0 K (n + 2)) b x 49 (mayL none x.kids) := fun S hx hb => by
 obtain ⟨S', h1, h2⟩ := F65_spec (ev E0 K (n + 1)) x b ok.at (fun y hy s => by rw [qaq h66, kfText_run _ _ (ok.at.kids y hy).at.name]) (fun y hy s => h36 y s n hy) S hx hb;refine ⟨S', ?_, h2⟩;rw [qdm body65.1 body65.2];exact qar (c := C49) (d := B49) (by kernel_rfl) (by kernel_rfl) (qa3 C49 _ (by kernel_rfl)) h h1
end
theorem kn36 {K : FuncId->Option KF} (hK : KnOk Try.prog E0 K) (h63 : K 47 = some kfIndexByte) (h66 : K 50 = some (qis qhi)) (h59 : K 43 = none) (h60 : K 44 = none) (h61 : K 45 = none) (h62 : K 46 = none) (h64 : K 48 = none) (h65 : K 49 = none) (h71 : K 76 = none) (h72 : K 77 = none) (h75 : K 93 = none) : KnWell Try.prog E0 25 (qbc gMay) :=
 qic hK (fn := Try.f25) (c := C25) (d := B25) gMay (fun _ _ => .bool _) (by kernel_rfl) (by kernel_rfl) (qa3 C25 _ (by kernel_rfl)) 6 fun K' hK' x S ok hself ho => by
  have e59 : K' 43 = none := by rw [hK' 43 (by decide)]; exact h59
  have e60 : K' 44 = none := by rw [hK' 44 (by decide)]; exact h60
  have e61 : K' 45 = none := by rw [hK' 45 (by decide)]; exact h61
  have e62 : K' 46 = none := by rw [hK' 46 (by decide)]; exact h62
  have e64 : K' 48 = none := by rw [hK' 48 (by decide)]; exact h64
  have e65 : K' 49 = none := by rw [hK' 49 (by decide)]; exact h65
  have e71 : K' 76 = none := by rw [hK' 76 (by decide)]; exact h71
  have e72 : K' 77 = none := by rw [hK' 77 (by decide)]; exact h72
  have e75 : K' 93 = none := by rw [hK' 93 (by decide)]; exact h75
  have e63 : K' 47 = some kfIndexByte := by rw [hK' 47 (by decide)]; exact h63
  have e66 : K' 50 = some (qis qhi) := by rw [hK' 50 (by decide)]; exact h66
  obtain ⟨S1, k1, k2, k3, k4⟩ := qdc ho x;have hb : S.next < S1.next := by omega
  show ∃ S', F25 (ev E0 K' 6) qa1 (qde x) S = _/\_;rw [F25_eq, k1, gMay, mayN_eq, oB, faP_ptr, oB, Nat.zero_add, k2.f1, oB, binV_ii, intsV_eql, oB, ifK_bool];by_cases c1 : x.kind = 1
  . obtain ⟨S', h1, h2⟩ := ans59 e59 5 S.next x S1 k2 hb
    refine ⟨S', ?_, k3.trans h2⟩;rw [dT c1, cT, iP c1, h1];rfl
  . rw [dF c1, cF, iN c1, binV_ii, intsV_eql, oB, ifK_bool]
    by_cases c3 : x.kind = 3
    . obtain ⟨S2, m1, m2, m3, m4⟩ := bsP_three S1 k2.on 29 .nilfn (.fn (.func 43) [] [.ptr S.next 0]) (.fn (.func 44) [] [.ptr S.next 0]) (.fn (.func 46) [] [.ptr S.next 0]) ⟨rfl, rfl, rfl⟩ ⟨rfl, rfl, rfl⟩ ⟨rfl, rfl, rfl⟩
      have hx2 := k2.grew hb (fun h => h) m3;obtain ⟨S', h1, h2⟩ := all3 e61 e71 e72 e75 2 (ans59 e59 1 S.next x) (ans60 e60 1 S.next x) (ans62 e62 e63 0 S.next x) S2 hx2 (by omega) (by omega) m2;refine ⟨S', ?_, k3.trans (m3.trans h2)⟩;rw [dT c3, cT, iP c3, m1, oB, h1, callP_ret];unfold dataOk;generalize decide (1<=x.data.length) = p1;generalize decide (x.data.length<=255) = p2;generalize (x.data.any fun x => x == 0) = p3;generalize x.kids.isEmpty = p4;cases x.exec <;> cases p1 <;> cases p2 <;> cases p3 <;> cases p4 <;> rfl
    . rw [dF c3, cF, iN c3, binV_ii, intsV_eql, oB, ifK_bool]
      by_cases c2 : x.kind = 2
      . obtain ⟨S2, m1, m2, m3, m4⟩ := bsP_three S1 k2.on 29 .nilfn (.fn (.func 44) [] [.ptr S.next 0]) (.fn (.func 48) [] [.ptr S.next 0]) (.fn (.func 49) [] [.ptr S.next 0]) ⟨rfl, rfl, rfl⟩ ⟨rfl, rfl, rfl⟩ ⟨rfl, rfl, rfl⟩
        have hx2 := k2.grew hb (fun h => h) m3;obtain ⟨S', h1, h2⟩ := all3 e61 e71 e72 e75 2 (ans60 e60 1 S.next x) (ans64 e64 1 S.next x) (ans65 e65 e66 0 S.next x ok (fun y s m hy => hself y s m hy)) S2 hx2 (by omega) (by omega) m2;refine ⟨S', ?_, k3.trans (m3.trans h2)⟩;rw [dT c2, cT, iP c2, m1, oB, h1, callP_ret];generalize (x.data == []) = p3;generalize mayL none x.kids = p4;cases x.exec <;> cases p3 <;> cases p4 <;> rfl
      . rw [dF c2, cF, iN c2]
        exact ⟨S1, rfl, k3⟩
def qgw (x : Nd) : Int := if qbs x then 3 else if x.name == [] && mayN x then if decide (2000 < (sizeT x).1) || decide (100000 < (sizeT x).2) then 3 else 0 else 2
noncomputable def qoe (x : Nd) : V := .int .i64 (qgw x)
theorem kn15 {K : FuncId->Option KF} (hK : KnOk Try.prog E0 K) (h35 : K 24 = some (qbc qdq)) (h36 : K 25 = some (qbc gMay)) (h17 : K 26 = some (qbc qfg)) : KnWell Try.prog E0 11 (qbc qoe) :=
 knNode hK (fn := Try.f11) (c := C11) (d := B11) qoe (fun _ _ => .int _ _) (by kernel_rfl) (by kernel_rfl) (qa3 C11 _ (by kernel_rfl)) 1 fun x S ok ho => by
  obtain ⟨S1, k1, k2, k3, k4⟩ := qdc ho x;refine ⟨S1, (?_ : F11 (ev E0 K 1) qa1 (qde x) S = _), k3⟩;rw [F11_eq, k1, oB, k2.fA, oB, qaq h35, qbq _ x ok, callP_ret, qdq, ifK_bool, qoe, qgw];cases qbs x with
  | true => rfl
  | false =>
   rw [cF, iN (by simp), faP_ptr, oB, Nat.zero_add, k2.f0, oB, binV_ss, strOp_neq, oB, qal, oB];cases hn : (x.name == []) with
   | false => rfl
   | true =>
    simp only [Bool.not_true, nF, cT, k2.fA, oB, qal, Bool.true_and];rw [qaq h36, qbq _ x ok, callP_ret, gMay];simp only [unV, oB, qag, cF, ifK_bool];cases mayN x with
    | false => rfl
    | true =>
     simp only [Bool.not_true, cF, k2.fA, oB, if_true];rw [qaq h17, qbq _ x ok, callP_ret, qfg];simp only [qac, List.getElem?_cons_zero, List.getElem?_cons_succ, oB, binV_ii];rw [intsV_gtr];generalize decide (2000 < (sizeT x).1) = p1;cases p1 with
     | true => rfl
     | false =>
      simp only [oB, qal, nF, cT, binV_ii];rw [intsV_gtr];generalize decide (100000 < (sizeT x).2) = p2;cases p2 <;> rfl
theorem kn21 {K : FuncId->Option KF} (hK : KnOk Try.prog E0 K) (h34 : K 36 = some (qbc qm9)) (h44 : K 37 = some (qbc gMay)) (h45 : K 38 = some (qbc qfg)) : KnWell Try.prog E0 18 (qbc qoe) :=
 knNode hK (fn := Try.f18) (c := C18) (d := B18) qoe (fun _ _ => .int _ _) (by kernel_rfl) (by kernel_rfl) (qa3 C18 _ (by kernel_rfl)) 1 fun x S ok ho => by
  obtain ⟨S1, k1, k2, k3, k4⟩ := qdc ho x;refine ⟨S1, (?_ : F18 (ev E0 K 1) qa1 (qde x) S = _), k3⟩;rw [F18_eq, k1, oB, k2.fA, oB, qaq h34, qbq _ x ok, callP_ret, qm9, binV_ii, intsV_gtr];rw [show decide ((12 : Int) < (qbv 14 x : Int)) = qbs x by unfold qbs; rw [decide_eq_decide]; omega];rw [oB, ifK_bool, qoe, qgw];cases qbs x with
  | true => rfl
  | false =>
   rw [cF, iN (by simp), faP_ptr, oB, Nat.zero_add, k2.f0, oB, binV_ss, strOp_neq, oB, qal, oB];cases hn : (x.name == []) with
   | false => rfl
   | true =>
    simp only [Bool.not_true, nF, cT, k2.fA, oB, qal, Bool.true_and];rw [qaq h44, qbq _ x ok, callP_ret, gMay];simp only [unV, oB, qag, cF, ifK_bool];cases mayN x with
    | false => rfl
    | true =>
     simp only [Bool.not_true, cF, k2.fA, oB, if_true];rw [qaq h45, qbq _ x ok, callP_ret, qfg];simp only [qac, List.getElem?_cons_zero, List.getElem?_cons_succ, oB, binV_ii];rw [intsV_gtr];generalize decide (2000 < (sizeT x).1) = p1;cases p1 with
     | true => rfl
     | false =>
      simp only [oB, qal, nF, cT, binV_ii];rw [intsV_gtr];generalize decide (100000 < (sizeT x).2) = p2;cases p2 <;> rfl
section
variable {s : St}
variable {b : Nat} {t : List UInt8}
end
theorem Grew.of0 {W : Nat->Prop} {a b : St} (h : Grew (fun _ => False) a b) : Grew W a b := h.mono fun _ _ h => h.elim
inductive KForm where
 | nil
 | empty
 | list
mutual
inductive Rw where
 | mk (name : List UInt8) (kind : Int) (exec : Bool) (data : List UInt8) (form : KForm) (kids : List Rw)
end
noncomputable def kform : KForm->List V->V
 | .nil, _ => .nilslice
 | .empty, _ => .eslice
 | .list, l => .list 5 l
mutual
noncomputable def rwV : Rw->V
 | .mk n k e d f l => qmc [sv n, .int .i64 k, .bool e, sv d, kform f (rwVs l)]
noncomputable def rwVs : List Rw->List V
 | [] => []
 | x :: l => rwV x :: rwVs l
end
def Rw.kids : Rw->List Rw
 | .mk _ _ _ _ .list l => l
 | .mk _ _ _ _ _ _ => []
def Rw.form : Rw->KForm | .mk _ _ _ _ f _ => f
def Rw.name : Rw->List UInt8 | .mk n _ _ _ _ _ => n
def Rw.kind : Rw->Int | .mk _ k _ _ _ _ => k
def Rw.exec : Rw->Bool | .mk _ _ e _ _ _ => e
def Rw.data : Rw->List UInt8 | .mk _ _ _ d _ _ => d
theorem qie : ∀ l : List Rw, rwVs l = l.map rwV
 | [] => rfl
 | x :: l => by rw [rwVs, qie l]; rfl
noncomputable def qok (x : Rw) : V := match x with | .mk _ _ _ _ f l => kform f (rwVs l)
noncomputable def qir (x : Rw) : List V := [sv x.name, .int .i64 x.kind, .bool x.exec, sv x.data, qok x]
theorem qkj (x : Rw) : rwV x = qmc (qir x) := by cases x; rw [rwV]; rfl
def qck : Nat->Rw->Nd
 | 0, x => .mk x.name x.kind x.exec (x.data.take 400) []
 | d + 1, x => .mk x.name x.kind x.exec (x.data.take 400) ((x.kids.take 20).map (qck d))
theorem cntL_le (B : Nat) : ∀ l : List Nd, (∀ y ∈ l, qgh y<=B)->qkt l<=l.length * B
 | [], _ => by rw [qkt]; omega
 | x :: l, h => by
  have h1 := h x (List.mem_cons_self ..);have h2 := cntL_le B l fun y hy => h y (mO _ hy);rw [qkt, List.length_cons, Nat.succ_mul];omega
mutual
theorem under_encN (N : Nat) : ∀ x : Nd, Under N (qde x)
 | .mk n k e d l => by
  rw [qde];refine .agg fun i v hi => ?_;rw [qmw] at hi
  have hk : Under N (qbh (qd3 l)) := by
   have := qlk N l;cases hl : qd3 l with
   | nil => exact .nilslice
   | cons a m => rw [hl] at this; exact .list this
  match i, hi with
  | 0, hi => simp at hi; subst hi; exact qmv _
  | 1, hi => simp at hi; subst hi; exact .int _ _
  | 2, hi => simp at hi; subst hi; exact .bool _
  | 3, hi => simp at hi; subst hi; exact qmv _
  | 4, hi => simp at hi; subst hi; exact hk
  | i + 5, hi => simp at hi
theorem qlk (N : Nat) : ∀ l : List Nd, Unders N (qd3 l)
 | [] => by rw [qd3]; exact .nil
 | x :: l => by rw [qd3]; exact .cons (under_encN N x) (qlk N l)
end
noncomputable def treeN (x : Nd) : Tr V := Tr.ofListFrom .nil (qfd x) 0
theorem qf1 (x : Nd) : qde x = .agg 5 (treeN x) := by rw [qdz]; rfl
section
variable {s : St}
theorem bsP_node (ho : s.on = false) (z : Tr V) (x : Nd) : ∃ t, bsP 24 5 1 z [(0, qde x)] s = some (.slice s.next 0 1 1, t)/\RowAt t s.next 24 5 [treeN x]/\Grew (fun _ => False) s t/\t.next = s.next + 1 := by
 rw [qf1];refine ⟨nw s (.cells 24 5 1 false ((Tr.tab 1 1 fun _ => z).set (treeN x) 0)), ?_, ?_, qbe ho _ _, rfl⟩
 . unfold bsP qe7 qe7
   simp only [V.size, qa8, V.cells, show Nat.beq 5 5 = true from rfl, nF, Bool.and_true, show Nat.blt 0 1 = true from rfl, cT, Tr.setC_eq, oB]
 . refine qdv ho (by omega) rfl (by unfold big; omega) fun i t h => ?_
   rw [Tr.get_set];cases i with
   | zero => simpa using h
   | succ i => simp at h
theorem ap_first (ho : s.on = false) {b : Nat} {t : Tr V} (h : RowAt s b 24 5 [t]) : ∃ u, apP 24 5 72 .nilslice (.slice b 0 1 1) s = some (.oslice s.next 0 1 5, u)/\RowAt u s.next 24 5 [t]/\Grew (fun _ => False) s u/\u.next = s.next + 1 := by
 refine ⟨qaf s 24 5 [t], ?_, qce ho (by omega) (by unfold big; simp), qbe ho _ _, rfl⟩;unfold apP;simp only [lenV, oB, show Nat.blt ((0 + 1) * (72 + 5 + 1)) qae = true from rfl, cT];unfold qdk qbn;have := h.ldN ho 1 0 (by simp);simp only [Nat.zero_mul, List.drop_zero] at this;simp only [this, oB, show Nat.beq 1 0 = false from rfl, cF];rfl
theorem ap_more (ho : s.on = false) {b r : Nat} {t : Tr V} {l : List (Tr V)} (h : RowAt s b 24 5 [t]) (hr : RowAt s r 24 5 l) (hl : l.length<=3000) : ∃ u, apP 24 5 72 (.oslice r 0 l.length 5) (.slice b 0 1 1) s = some (.oslice s.next 0 (l.length + 1) 5, u)/\RowAt u s.next 24 5 (l ++ [t])/\Grew (fun x => x = r) s u/\u.next = s.next + 1 := by
 obtain ⟨c, hc1, hc2⟩ := hr.row;have hfit := hr.fit;refine ⟨nw (s.put r .dead) (.cells 24 5 (l.length + 1) false (c.set t l.length)), ?_, ?_, ?_, rfl⟩
 . unfold apP
   have hm : Nat.blt ((l.length + 1) * (72 + 5 + 1)) qae = true := by rw [blt_true]; unfold qae; omega
   simp only [lenV, oB, hm, cT];unfold qdk qbn;have := h.ldN ho 1 0 (by simp);simp only [Nat.zero_mul, List.drop_zero] at this;simp only [this, oB, show Nat.beq 5 5 = true from rfl, cT];unfold qkn;rw [hc1]
   have hb : Nat.ble (0 + (l.length + 1) * 5) (5 * l.length) = false := by
    cases hh : Nat.ble (0 + (l.length + 1) * 5) (5 * l.length) with
    | false => rfl
    | true => rw [ble_true] at hh; omega
   simp only [blt_true.2 hfit, cT, oB, qai ho, hb, cF];unfold ql1;rw [hc1];simp only [show Nat.beq 24 24 = true from rfl, Bool.not_true, Bool.or_self, cF, show Nat.beq 5 5 = true from rfl, show Nat.beq 0 0 = true from rfl, Nat.beq_refl, blt_true.2 hfit, Bool.and_self, cT];rw [show List.take 1 [t] = [t] from rfl];unfold addLC addLC;rw [Tr.setC_eq];unfold setO;rw [qai ho]
 . have hnx : (s.put r .dead).next = s.next := rfl
   have := qdv (s := s.put r .dead) (e := 24) (z := 5) (n := l.length + 1) (c := c.set t l.length) (l := l ++ [t]) ho (by omega) (by simp) (by unfold big; omega) fun i u h => by
    rw [Tr.get_set];by_cases hi : i = l.length
    . subst hi
      rw [iP rfl];simpa using h
    . rw [iN hi]
      have hlt := (List.getElem?_eq_some_iff.1 h).1;rw [lA, List.length_singleton] at hlt;rw [List.getElem?_append_left (by omega)] at h;exact hc2 i u h
   exact this
 . exact ⟨by show s.next<=s.next + 1; omega, (qov (s := s.put r .dead) ho _).trans ho.symm, fun x hx hw => by
    rw [qdt, iN (by show x ≠ s.next; omega), qby, iN hw]⟩
end
section
variable {s : St}
theorem Bx.var {b e : Nat} {l : List V} (h : Bx s b e l) (h0 : 0 < l.length) (hl : l.length < big) : VarAt s b e l.length l := by
 refine ⟨h0, hl, rfl, _, h, fun i v hi => ?_⟩;have hlt := (List.getElem?_eq_some_iff.1 hi).1;rw [tr_two, iP hlt]; exact hi
theorem VarAt.agg {b e z : Nat} {l : List V} (h : VarAt s b e z l) : ∃ t, AgAt s b e z t/\∀ (i : Nat) v, l[i]? = some v->t.get i = some v := by
 obtain ⟨c, h1, h2⟩ := h.row;have hl := h.len;obtain ⟨u, hu⟩ : ∃ u, l[0]? = some u := ⟨_, List.getElem?_eq_getElem (by have := h.pos; omega)⟩
 have h0 := h2 0 u hu;rw [qcm h.pos, oI] at h0;obtain ⟨t, ht, _⟩ := h0;refine ⟨t, ⟨c, h1, ht⟩, fun i v hi => ?_⟩;have hlt := (List.getElem?_eq_some_iff.1 hi).1;have := h2 i v hi;rw [qcm (by omega), ht] at this;exact this
def SliceIs (s : St) (N0 : Nat) (v : V) (acc : List Nd) : Prop := (acc = []/\v = .nilslice)\/(acc ≠ []/\∃ r, v = .oslice r 0 acc.length 5/\RowAt s r 24 5 (acc.map treeN)/\N0<=r/\r < s.next)
theorem SliceIs.grew {W : Nat->Prop} {t : St} {N0 : Nat} {v : V} {acc : List Nd} (h : SliceIs s N0 v acc) (hw : ∀ r, N0<=r->r < s.next->¬ W r) (g : Grew W s t) : SliceIs t N0 v acc := by
 rcases h with h | ⟨h1, r, h2, h3, h4, h5⟩
 . exact .inl h
 . exact .inr ⟨h1, r, h2, h3.grew h5 (hw r h4 h5) g, h4, Nat.lt_of_lt_of_le h5 g.next⟩
theorem SliceIs.add (ho : s.on = false) {N0 : Nat} {v : V} {acc : List Nd} (h : SliceIs s N0 v acc) (hN : N0<=s.next) (hl : acc.length<=3000) (z : Tr V) (y : Nd) :
 ∃ t v' u, bsP 24 5 1 z [(0, qde y)] s = some (.slice s.next 0 1 1, t)/\apP 24 5 72 v (.slice s.next 0 1 1) t = some (v', u)/\SliceIs u N0 v' (acc ++ [y])/\Grew (fun x => N0<=x) s u := by
 obtain ⟨t, h1, h2, h3, h4⟩ := bsP_node ho z y;have on1 := h3.on.trans ho;rcases h with ⟨rfl, rfl⟩ | ⟨hne, r, rfl, hr, hNr, hrn⟩
 . obtain ⟨u, k1, k2, k3, k4⟩ := ap_first on1 h2
   refine ⟨t, _, u, h1, k1, .inr ⟨by simp, t.next, rfl, k2, by omega, by omega⟩, (Grew.of0 h3).trans (Grew.of0 k3)⟩
 . have hr1 := hr.grew hrn (fun h => h) h3
   obtain ⟨u, k1, k2, k3, k4⟩ := ap_more on1 h2 hr1 (by simpa using hl);rw [lM] at k1;refine ⟨t, _, u, h1, k1, .inr ⟨by simp, t.next, by rw [lA]; rfl, by rw [List.map_append]; exact k2, by omega, by omega⟩, (Grew.of0 h3).trans (k3.mono fun x _ hx => by rw [hx]; exact hNr)⟩
end
theorem lnS_kidsR (x : Rw) (S : St) : lnS (qok x) S = some (.int .i64 (x.kids.length : Int), S) := by
 cases x with
 | mk n k e d f l =>
  cases f with
  | nil => rfl
  | empty => rfl
  | list =>
   show some (V.int .i64 (.ofNat (rwVs l).length), S) = _;rw [qie, lM]; rfl
theorem ixP_kidsR (x : Rw) (i : Nat) (h : i < x.kids.length) : ixP 5 (qok x) (.int .i64 (i : Int)) = some (.cptr (rwV x.kids[i])) := by
 cases x with
 | mk n k e d f l =>
  cases f with
  | nil => simp [Rw.kids] at h
  | empty => simp [Rw.kids] at h
  | list =>
   have h' : i < l.length := h;show ixP 5 (.list 5 (rwVs l)) _ = _;rw [ixP_list 5 (rwVs l) .i64 i (by rw [qie, lM]; exact h') (by decide)]
   congr 2
   simp only [qie, List.getElem_map];rfl
theorem ldA_kidR (x : Rw) (S : St) : ldA 5 (.cptr (rwV x)) S = some (rwV x, S) := by rw [qkj]; exact ldA_cptr (qir x)
theorem L8_stop (self : EV) (N : Nat) (nk : Ac->St->Rs) (ek : Nat->Ac->St->Rs) (n : Nat) (x : Rw) (b0 b1 : Nat) (cs : List V) (hcs : cs[4]? = some (qok x)) (S : St) (ho : S.on = false) (hv : VarAt S b0 24 5 cs) (d i : Nat) (v5 : V) (h : ¬ (i < x.kids.length/\i < 20/\0 < d)) :
 L6_20 self N nk ek (n + 1) (.int .i64 (d : Int)) (.ptr b0 0) (.ptr b1 0) v5 (.int .i64 (i : Int)) S = ek 0 (fr 44 [(2, .ptr b0 0), (4, .ptr b1 0), (5, v5)]) S := by
 rw [L6_20_eq, faP_ptr, oB, Nat.zero_add, ld1_ptr, hv.ld ho hcs, oB];dsimp only;rw [lnS_kidsR, oB];dsimp only;rw [binV_ii, intsV_lss, oB, qab, oB];by_cases h1 : i < x.kids.length
 . rw [qfz h1, cT, oB, oB, cT, binV_ii, intsV_lss, oB]
   by_cases h2 : i < 20
   . rw [show decide ((i : Int) < 20) = true by simp; omega, show qag (.bool true) (some (.bool true)) (some (.bool false)) = some (.bool true) from rfl, oB, qab, oB, cT, oB, oB, cT, binV_ii, intsV_gtr, oB]
     rw [show decide ((0 : Int) < (d : Int)) = false by simp; omega, show qag (.bool true) (some (.bool false)) (some (.bool false)) = some (.bool false) from rfl, oB, ifK_bool, cF]
   . rw [show decide ((i : Int) < 20) = false by simp; omega, show qag (.bool true) (some (.bool false)) (some (.bool false)) = some (.bool false) from rfl, oB, qab, oB, cF, oB, oB, cF, oB, show qag (.bool false) (some (.tuple [])) (some (.bool false)) = some (.bool false) from rfl, oB, ifK_bool, cF]
 . rw [qgx (by omega), cF, oB, oB, cF, oB, show qag (.bool false) (some (.tuple [])) (some (.bool false)) = some (.bool false) from rfl, oB, qab, oB, cF, oB, oB, cF, oB, show qag (.bool false) (some (.tuple [])) (some (.bool false)) = some (.bool false) from rfl, oB, ifK_bool, cF]
theorem L8_spec (self : EV) (N : Nat) (nk : Ac->St->Rs) (ek : Nat->Ac->St->Rs) (x : Rw) (b0 b1 N0 d : Nat) (hd : d < 14) (cs : List V) (hcs : cs[4]? = some (qok x)) (hb0 : b0 < N0) (hb1 : b1 < N0)
 (h8 : ∀ y ∈ x.kids, ∀ S, self.f 6 [rwV y, .int .i64 (d : Int)] S = some (.ret (qde (qck d y)), S)) (t1 : Tr V) :
 ∀ (r : List Rw) (i n : Nat) (S : St) (acc : List Nd) (v5 : V), (x.kids.take 20).drop i = r->r.length < n->i<=20->acc.length = i->S.on = false->N0<=S.next->VarAt S b0 24 5 cs->AgAt S b1 24 5 t1->SliceIs S N0 v5 acc ->
 ∃ S' v5', L6_20 self N nk ek n (.int .i64 ((d + 1 : Nat) : Int)) (.ptr b0 0) (.ptr b1 0) v5 (.int .i64 (i : Int)) S = ek 0 (fr 44 [(2, .ptr b0 0), (4, .ptr b1 0), (5, v5')]) S'/\SliceIs S' N0 v5' (acc ++ r.map (qck d))/\VarAt S' b0 24 5 cs/\AgAt S' b1 24 5 t1/\Grew (fun y => N0<=y) S S'
 | r, i, 0, S, acc, v5, _, hn, _, _, _, _, _, _, _ => by omega
 | [], i, n + 1, S, acc, v5, hi, hn, h20, ha, ho, hN, hv, hg, hs => by
  have hlen := qbm hi;rw [List.length_take] at hlen;exact ⟨S, v5, L8_stop self N nk ek n x b0 b1 cs hcs S ho hv (d + 1) i v5 (by omega), by simpa using hs, hv, hg, Grew.refl _ _⟩
 | y :: r, i, n + 1, S, acc, v5, hi, hn, h20, ha, ho, hN, hv, hg, hs => by
  obtain ⟨hlt, hy, hr, hmem⟩ := qcn hi;have hlt2 := hlt;rw [List.length_take] at hlt2;have hik : i < x.kids.length := by omega
  have hy2 : x.kids[i] = y := by rw [<- hy, List.getElem_take]
  obtain ⟨t, v', u, k1, k2, k3, k4⟩ := hs.add ho hN (by omega) (Tr.ofListFrom .nil [(sv []), (.int .i64 0), (.bool false), (sv []), .nilslice] 0) (qck d y);have hv' := hv.grew (by omega) (by omega) k4;have hg' := hg.grew (by omega) (by omega) k4;obtain ⟨S', v5', z1, z2, z3, z4, z5⟩ := L8_spec self N nk ek x b0 b1 N0 d hd cs hcs hb0 hb1 h8 t1 r (i + 1) n u (acc ++ [qck d y]) v' hr (by simp at hn; omega) (by omega) (by simp [ha]) (k4.on.trans ho) (by have := k4.next; omega) hv' hg' k3;refine ⟨S', v5', ?_, by simpa using z2, z3, z4, k4.trans z5⟩;rw [L6_20_eq, faP_ptr, oB, Nat.zero_add, ld1_ptr, hv.ld ho hcs, oB];dsimp only;rw [lnS_kidsR, oB];dsimp only;rw [binV_ii, intsV_lss, oB, qab, oB, qfz hik, cT, oB, oB, cT, binV_ii, intsV_lss, oB];rw [show decide ((i : Int) < 20) = true by simp; omega, show qag (.bool true) (some (.bool true)) (some (.bool false)) = some (.bool true) from rfl, oB, qab, oB, cT, oB, oB, cT, binV_ii, intsV_gtr, oB];rw [show decide ((0 : Int) < ((d + 1 : Nat) : Int)) = true by simp, show qag (.bool true) (some (.bool true)) (some (.bool false)) = some (.bool true) from rfl, oB, ifK_bool, cT, oB, ld1_ptr, hv.ld ho hcs, oB];dsimp only;rw [ixP_kidsR x i hik, hy2, oB, ldA_kidR, oB];dsimp only;rw [binV_ii, intsV_sub, show ((d + 1 : Nat) : Int) - 1 = (d : Int) by omega, qb8 (by omega) (by omega), oB, h8 y (List.mem_of_mem_take hmem), callP_ret, k1, oB];dsimp only;rw [k2, oB, binV_ii, intsV_add, qbt (by omega), oB];exact z1
theorem rwV_fields {x y : Rw} (h : rwV x = rwV y) : x.name = y.name/\x.kind = y.kind/\x.exec = y.exec/\x.data = y.data/\qok x = qok y := by
 rw [qkj, qkj] at h;have h := vAgg_inj h;simp only [qir, List.cons.injEq, V.int.injEq, V.bool.injEq, true_and, and_true] at h;obtain ⟨h1, h2, h3, h4, h5⟩ := h;exact ⟨qks h1, h2, h3, qks h4, h5⟩
theorem kidsR_map {x y : Rw} (h : qok x = qok y) : x.kids.map rwV = y.kids.map rwV := by
 cases x with
 | mk n k e d f l =>
  cases y with
  | mk n' k' e' d' f' l' =>
   cases f <;> cases f' <;> simp only [qok, kform, reduceCtorEq, V.list.injEq, true_and] at h
   . rfl
   . rfl
   . rw [qie, qie] at h; exact h
theorem map_eq_of {f : Rw->Nd} : ∀ {l m : List Rw}, (∀ x y, rwV x = rwV y->f x = f y)->l.map rwV = m.map rwV->l.map f = m.map f
 | [], [], _, _ => rfl
 | [], _ :: _, _, h => by simp at h
 | _ :: _, [], _, h => by simp at h
 | x :: l, y :: m, hf, h => by
  simp only [List.map_cons, List.cons.injEq] at h ⊢;exact ⟨hf x y h.1, map_eq_of hf h.2⟩
theorem short_eq : ∀ (d : Nat) (x y : Rw), rwV x = rwV y->qck d x = qck d y
 | 0, x, y, h => by
  obtain ⟨h1, h2, h3, h4, _⟩ := rwV_fields h;rw [qck, qck, h1, h2, h3, h4]
 | d + 1, x, y, h => by
  obtain ⟨h1, h2, h3, h4, h5⟩ := rwV_fields h;rw [qck, qck, h1, h2, h3, h4]
  congr 1
  refine map_eq_of (fun a b => short_eq d a b) ?_;rw [List.map_take, List.map_take, kidsR_map h5]
structure ShortIn where
 d : Nat
 x : Rw
 hd : d<=14
noncomputable def qmf (p : ShortIn) : List V := [rwV p.x, .int .i64 (p.d : Int)]
theorem encShort_inj {p q : ShortIn} (h : qmf p = qmf q) : rwV p.x = rwV q.x/\p.d = q.d := by
 simp only [qmf, List.cons.injEq, V.int.injEq, true_and, and_true] at h;exact ⟨h.1, by omega⟩
noncomputable def kfShort : KF := qdb qmf (fun p => En.ret (qde (qck p.d p.x)))
def ql8 (d : Nat) (x : Rw) : List Nd := match d with | 0 => [] | d + 1 => (x.kids.take 20).map (qck d)
theorem short_fields (d : Nat) (x : Rw) : (qck d x).name = x.name/\(qck d x).kind = x.kind/\(qck d x).exec = x.exec/\(qck d x).data = x.data.take 400/\(qck d x).kids = ql8 d x := by
 cases d <;> exact ⟨rfl, rfl, rfl, rfl, rfl⟩
theorem qoc {s : St} {N : Nat} {c : Tr (Tr V)} : ∀ (l : List Nd) (i : Nat), (∀ (j : Nat) y, l[j]? = some y->c.get (i + j) = some (treeN y))->FzRow s N c i 5 (l.map qde)
 | [], i, _ => .nil
 | y :: l, i, h => by
  have h0 := h 0 y rfl;rw [List.map_cons, qf1];refine .row h0 ?_ (qoc l (i + 1) fun j z hj => ?_)
  . rw [<- qf1]
    exact .same (under_encN _ _)
  . have := h (j + 1) z (by simpa using hj)
    rw [show i + 1 + j = i + (j + 1) by omega]; exact this
theorem F8_spec (self : EV) (x : Rw) (d : Nat) (hd : d<=14) (S : St) (ho : S.on = false) (h8 : ∀ (m : Nat) y, d = m + 1->∀ S, self.f 6 [rwV y, .int .i64 (m : Int)] S = some (.ret (qde (qck m y)), S)) :
 ∃ (v : V) (S' : St), F6 self qa1 (rwV x) (.int .i64 (d : Int)) S = some (.ret v, S')/\Fz S' S.next v (qde (qck d x))/\Grew (fun _ => False) S S' := by
 obtain ⟨S1, k1, k2, k3, k4⟩ := box_new ho 24 (qir x);have on1 := k3.on.trans ho;have hv1 := Bx.var k2 (by show 0 < 5; decide) qm5;obtain ⟨a1, a2, a3⟩ := qne on1 24 5 (Tr.ofListFrom .nil [(sv []), (.int .i64 0), (.bool false), (sv []), .nilslice] 0);generalize hS2 : (nwP 24 5 (Tr.ofListFrom .nil [(sv []), (.int .i64 0), (.bool false), (sv []), .nilslice] 0) S1).2 = S2 at a1 a2 a3;have on2 := a2.on.trans on1;have hv2 := hv1.grew (by omega) (fun h => h) a2;obtain ⟨S3, b1, b2, b3, b4⟩ := hv2.st on2 (i := 3) (by show 3 < 5; decide) (sv (x.data.take 400));have on3 := b3.on.trans on2;have ha3 := a1.grew (by omega) (by omega) b3
 have hst : stP 1 (.ptr S.next 3) (sv (x.data.take 400)) S2 = some (.tuple [], S3) := by
  show vu (stK S2 S.next 3 1 (Ev.one (sv _))) = _;rw [b1]; rfl
 have hcs : ((qir x).set 3 (sv (x.data.take 400)))[4]? = some (qok x) := rfl
 have hloop : ∃ S4 v5, L6_20 self qa1 (R6_12 self qa1 (qak E0 self Try.f6) qa9) (exB 0 (R6_12 self qa1 (qak E0 self Try.f6) qa9) qa9) qa1 (.int .i64 (d : Int)) (.ptr S.next 0) (.ptr S1.next 0) .nilslice (.int .i64 0) S3 = exB 0 (R6_12 self qa1 (qak E0 self Try.f6) qa9) qa9 0 (fr 44 [(2, .ptr S.next 0), (4, .ptr S1.next 0), (5, v5)]) S4 /\
  SliceIs S4 S2.next v5 (ql8 d x)/\VarAt S4 S.next 24 5 ((qir x).set 3 (sv (x.data.take 400)))/\AgAt S4 S1.next 24 5 (Tr.ofListFrom .nil [(sv []), (.int .i64 0), (.bool false), (sv []), .nilslice] 0)/\Grew (fun y => S2.next<=y) S3 S4 := by
  cases d with
  | zero =>
   have := L8_stop self qa1 (R6_12 self qa1 (qak E0 self Try.f6) qa9) (exB 0 (R6_12 self qa1 (qak E0 self Try.f6) qa9) qa9) (qa1 - 1) x S.next S1.next _ hcs S3 on3 b2 0 0 .nilslice (by omega)
   rw [show qa1 - 1 + 1 = qa1 by unfold qa1; omega] at this;exact ⟨S3, .nilslice, this, .inl ⟨rfl, rfl⟩, b2, ha3, Grew.refl _ _⟩
  | succ m =>
   obtain ⟨S4, v5, z1, z2, z3, z4, z5⟩ := L8_spec self qa1 (R6_12 self qa1 (qak E0 self Try.f6) qa9) (exB 0 (R6_12 self qa1 (qak E0 self Try.f6) qa9) qa9) x S.next S1.next S2.next m (by omega) _ hcs (by omega) (by omega) (fun y hy S => h8 m y rfl S) _ (x.kids.take 20) 0 qa1 S3 [] .nilslice rfl (by rw [List.length_take]; unfold qa1; omega) (by omega) rfl on3 (by omega) b2 ha3 (.inl ⟨rfl, rfl⟩)
   exact ⟨S4, v5, z1, by rw [List.nil_append] at z2; exact z2, z3, z4, z5⟩
 obtain ⟨S4, v5, z1, z2, z3, z4, z5⟩ := hloop;have on4 := z5.on.trans on3
 have hv5 : v5.size = 1/\qa8 v5 = false/\v5.cells = Ev.one v5 := by
  rcases z2 with ⟨_, rfl⟩ | ⟨_, r, rfl, _⟩ <;> exact ⟨rfl, rfl, rfl⟩
 obtain ⟨S5, c1, c2, c3, c4⟩ := z3.st on4 (i := 4) (by decide) v5;have on5 := c3.on.trans on4
 have hst5 : stP 1 (.ptr S.next 4) v5 S4 = some (.tuple [], S5) := by
  show vu (bif Nat.beq v5.size 1 && !qa8 v5 then stK S4 S.next 4 1 v5.cells else none) = _;rw [hv5.1, hv5.2.1, hv5.2.2, c1]; rfl
 have z4' := z4.grew (by have := z5.next; omega) (by omega) c3;have z2' := z2.grew (by omega) c3;obtain ⟨t, ht, hget⟩ := VarAt.agg c2;obtain ⟨S6, e1, e2, e3, e4⟩ := z4'.stA on5 qm5 t;have on6 := e3.on.trans on5;have z2'' := z2'.grew (by omega) e3;refine ⟨.agg 5 t, S6, ?_, ?_, ?_⟩
 . rw [F6_eq, qkj, k1, oB, oB]
   dsimp only;rw [faP_ptr, oB, Nat.zero_add, ld1_ptr, hS2, hv2.ld on2 (show (qir x)[3]? = some (sv x.data) from rfl), oB, oB];dsimp only;rw [ld1_ptr, hv2.ld on2 (show (qir x)[3]? = some (sv x.data) from rfl), oB];dsimp only;rw [lnStr_sv, oB];dsimp only;rw [qo8, show min (x.data.length : Int) 400 = ((min x.data.length 400 : Nat) : Int) by omega, oB];dsimp only;rw [qko und9 x.data (qnl .i64 (Nat.min_le_left ..)) (Nat.min_le_left ..), oB, oB];dsimp only
   rw [List.drop_zero, Nat.sub_zero, show List.take (min x.data.length 400) x.data = x.data.take 400 by
    rcases Nat.le_total x.data.length 400 with h | h
    . rw [Nat.min_eq_left h, List.take_length, List.take_of_length_le h]
    . rw [Nat.min_eq_right h], hst, oB, qfv]
   dsimp only;rw [z1, exB_same, R6_12_eq, faP_ptr, oB, Nat.zero_add, hst5, oB];dsimp only;rw [ht.ldA on5 qm5, oB];dsimp only;rw [e1, oB];dsimp only;rw [e2.ldrA on6 qm5];rfl
 . obtain ⟨f1, f2, f3, f4, f5⟩ := short_fields d x
   rw [qf1];have hcell : ∀ (i : Nat) v, (qfd (qck d x))[i]? = some v->(Tr.ofListFrom .nil (qfd (qck d x)) 0).get i = some v := fun i v h => by rw [Tr.get_ofList]; exact h
   have hg : ∀ (i : Nat) v, (((qir x).set 3 (sv (x.data.take 400))).set 4 v5)[i]? = some v->t.get i = some v := hget;refine .agg (fun i => ((((qir x).set 3 (sv (x.data.take 400))).set 4 v5)[i]?).getD .nilptr) (fun i v' _ hi => ?_) fun i v' hv' hi => ?_
   . match i, hi with
     | 0, _ => exact hg 0 _ rfl
     | 1, _ => exact hg 1 _ rfl
     | 2, _ => exact hg 2 _ rfl
     | 3, _ => exact hg 3 _ rfl
     | 4, _ => exact hg 4 _ rfl
   . have hv2 : (qfd (qck d x))[i]? = some v' := by
      have : (Tr.ofListFrom .nil (qfd (qck d x)) 0).get i = some v' := hv'
      rwa [Tr.get_ofList] at this
     unfold qfd at hv2;rw [f1, f2, f3, f4, f5] at hv2
     match i, hi, hv2 with
     | 0, _, hv2 => simp at hv2; subst hv2; exact .same (qmv _)
     | 1, _, hv2 => simp at hv2; subst hv2; exact .same (.int _ _)
     | 2, _, hv2 => simp at hv2; subst hv2; exact .same (.bool _)
     | 3, _, hv2 => simp at hv2; subst hv2; exact .same (qmv _)
     | 4, _, hv2 =>
      simp at hv2; subst hv2;show Fz S6 S.next v5 (qbh (qd3 (ql8 d x)))
      rcases z2'' with ⟨h1, rfl⟩ | ⟨h1, r, rfl, hrow, hNr, hrn⟩
      . rw [h1, qd3]; exact .same .nilslice
      . obtain ⟨c, hc1, hc2⟩ := hrow.row
        have hne : qbh (qd3 (ql8 d x)) = .list 5 (qd3 (ql8 d x)) := by
         cases h : ql8 d x with
         | nil => exact absurd h h1
         | cons a l => rw [qd3]; rfl
        rw [hne, qjx];refine .oslice hc1 (by omega) (by omega) rfl (by rw [lM]) (by rw [lM]; omega) ?_;rw [Nat.zero_div]
        exact qoc _ 0 fun j y hj => by
         rw [Nat.zero_add];exact hc2 j _ (by rw [List.getElem?_map, hj]; rfl)
 . have n5 := z5.next
   refine ⟨by omega, by rw [on6, ho], fun y hy _ => ?_⟩;rw [e3.keep y (by omega) (by omega), c3.keep y (by omega) (by omega), z5.keep y (by omega) (by omega), b3.keep y (by omega) (by omega), a2.keep y (by omega) (fun h => h), k3.keep y hy (fun h => h)]
theorem kn8 {K : FuncId->Option KF} (hK : KnOk Try.prog E0 K) : KnWell Try.prog E0 6 kfShort :=
 qii (fn := Try.f6) (c := C6) (d := B6) (fun p : ShortIn => p.d) (fun p q h => by obtain ⟨h1, h2⟩ := encShort_inj h; rw [h2, short_eq q.d _ _ h1]; exact ⟨rfl, rfl⟩) qm4 hK (by kernel_rfl) (by kernel_rfl) (qa3 C6 _ (by kernel_rfl)) fun K' _ p S hself ho => by
  obtain ⟨d, x, hd⟩ := p;obtain ⟨v, S', h1, h2, h3⟩ := F8_spec (ev E0 K' 1) x d hd S ho fun m y hm S => hself ⟨m, y, by omega⟩ S 0 (by show m < d; omega);exact ⟨1, .ret v, S', h1, h3, h2⟩
def frz (W : World) : Rho := ⟨fun _ => none, fun k => W.heap[k]?⟩
theorem u9 : Try.prog.underlying 9 = some .string := by kernel_rfl
theorem u3 : Try.prog.underlying 3 = some (.int .i64) := by kernel_rfl
theorem u4 : Try.prog.underlying 4 = some .bool := by kernel_rfl
theorem c9 : Try.prog.cellsOf 9 = 1 := by kernel_rfl
theorem c3 : Try.prog.cellsOf 3 = 1 := by kernel_rfl
theorem c4 : Try.prog.cellsOf 4 = 1 := by kernel_rfl
theorem qhp {α : Type} {f : Nat->Option α} : ∀ (n k : Nat) {r : List α}, ((List.range' k n).mapM f) = some r->r.length = n/\∀ i, i < n->∃ y, r[i]? = some y/\f (k + i) = some y
 | 0, k, r, h => by
  simp at h; subst h;exact ⟨rfl, fun i hi => by omega⟩
 | n + 1, k, r, h => by
  rw [List.range'_succ, List.mapM_cons] at h;simp only [Option.bind_eq_bind, oI, Option.pure_def, oS] at h;obtain ⟨y, hy, r', hr', rfl⟩ := h;obtain ⟨h1, h2⟩ := qhp n (k + 1) hr';refine ⟨by simp [h1], fun i hi => ?_⟩;cases i with
  | zero => exact ⟨y, rfl, hy⟩
  | succ i =>
   obtain ⟨z, hz1, hz2⟩ := h2 i (by omega);exact ⟨z, by simpa using hz1, by rw [show k + (i + 1) = k + 1 + i by omega]; exact hz2⟩
theorem cells?_at {W : World} {a : Addr} {n : Nat} {cs : List Value} (h : W.cells? 0 a n = some cs) : cs.length = n/\∀ i, i < n->∃ y, cs[i]? = some y/\W.cell? (a.add i) = some y := by
 unfold World.cells? at h;rw [iP (Nat.zero_le _), List.range_eq_range'] at h;obtain ⟨h1, h2⟩ := qhp n 0 h
 exact ⟨h1, fun i hi => by
  obtain ⟨y, hy1, hy2⟩ := h2 i hi
  exact ⟨y, hy1, by rw [Nat.zero_add] at hy2; exact hy2⟩⟩
theorem add_eq {a : Addr} (h : a.spot = none) (n : Nat) : a.add n = ⟨a.block, a.off + n, none⟩ := by
 unfold Addr.add;split
 . rename_i h0
   subst h0;cases a;simp only at h;subst h;rfl
 . rfl
theorem build {P : Nat->Rw->List Value->Prop} : ∀ (n : Nat), (∀ i, i < n->∃ r c, P i r c)->∃ (rs : List Rw) (cs : List (List Value)), rs.length = n/\cs.length = n/\∀ i r c, rs[i]? = some r->cs[i]? = some c->P i r c
 | 0, _ => ⟨[], [], rfl, rfl, fun i r c h => by simp at h⟩
 | n + 1, h => by
  obtain ⟨rs, cs, h1, h2, h3⟩ := build n fun i hi => h i (by omega);obtain ⟨r, c, hrc⟩ := h n (by omega);refine ⟨rs ++ [r], cs ++ [c], by simp [h1], by simp [h2], fun i r' c' hr hc => ?_⟩;by_cases hi : i < n
  . rw [List.getElem?_append_left (by omega)] at hr hc
    exact h3 i r' c' hr hc
  . have hi2 : i = n := by
     have := (List.getElem?_eq_some_iff.1 hr).1;simp [h1] at this;omega
    subst hi2;rw [List.getElem?_append_right (by omega)] at hr hc;simp [h1] at hr;simp [h2] at hc;subst hr; subst hc;exact hrc
end Go.Proofs.Ytmeohejdafbodaa.W
