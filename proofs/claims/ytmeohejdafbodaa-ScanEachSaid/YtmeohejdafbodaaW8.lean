/-
  WHAT THE FUNCTIONS COME TO: each is read by the evaluator, printed, and told as a function of data, part 8 of 12 (no condition).
-/
import Derived.Test.YtmeohejdafbodaaW7
import Derived.Test.YtmeohejdafbodaaShelf
import Derived.Shelf.Spec.BitsCarry
import Derived.Test.YtmeohejdafbodaaProg
import Derived.Test.YtmeohejdafbodaaChecked
import Derived.WalkKit
import Derived.ProofKit
namespace Go.Proofs.Ytmeohejdafbodaa.W
open Go.RowKit Go.Proofs
theorem cubeMul (x y : Nat) (hx : x < 18446744073709551616) (hy : y < 18446744073709551616) (w : World) :
 Calls Try.prog 96 #[.int .u64 x, .int .u64 y] w fun e w' => e = .returned (.tuple #[.int .u64 ((x * y / 18446744073709551616 : Nat) : Int), .int .u64 ((x * y % 18446744073709551616 : Nat) : Int)])/\w' = w := Any.bits_Mul64 Try.lays264 x y hx hy w
theorem cubeAdd (x y c : Nat) (hc : c<=1) (w : World) :
 (callFunc 97 #[.int .u64 x, .int .u64 y, .int .u64 c]).run Try.prog w =
  .ok (.value (.tuple #[.int .u64 (((x + y + c) % 18446744073709551616 : Nat) : Int), .int .u64 (((x + y + c) / 18446744073709551616 : Nat) : Int)])) w := by
 rw [run_callFunc_extern Try.func97 (by kernel_rfl) (by kernel_rfl) (by kernel_rfl) (e := add64Entry) (by kernel_rfl), run_add64 x y c (by omega) (by omega) (by omega) (by omega)];simp only [Result.andThen]
 congr 5 <;> omega
theorem cubeAddO (x y : Nat) (w : World) :
 (callFunc 97 #[.int .u64 x, .int .u64 y, .int .u64 0]).run Try.prog w =
  .ok (.value (.tuple #[.int .u64 (((x + y) % 18446744073709551616 : Nat) : Int), .int .u64 (((x + y) / 18446744073709551616 : Nat) : Int)])) w :=
 cubeAdd x y 0 (by decide) w
attribute [-go_sem] shift_shl_u64 shift_shl_any
def cubeV (H2 C M Q L1 : Nat) : Bool :=
 decide (0 < IntKind.u64.wrap ((H2 : Int) + C)) || (decide (Q < M) || (decide (M = Q) && decide (0 < L1)))
set_option maxHeartbeats 1000000 in
set_option maxRecDepth 100000 in
theorem cube81A (x p L H L1 H1 L2 H2 M C Q : Nat)
 (c1 : ∀ w, Calls Try.prog 96 #[.int .u64 x, .int .u64 x] w fun e w' => e = .returned (.tuple #[.int .u64 H, .int .u64 L])/\w' = w)
 (c2 : ∀ w, Calls Try.prog 96 #[.int .u64 L, .int .u64 x] w fun e w' => e = .returned (.tuple #[.int .u64 H1, .int .u64 L1])/\w' = w)
 (c3 : ∀ w, Calls Try.prog 96 #[.int .u64 H, .int .u64 x] w fun e w' => e = .returned (.tuple #[.int .u64 H2, .int .u64 L2])/\w' = w)
 (c4 : ∀ w, (callFunc 97 #[.int .u64 H1, .int .u64 L2, .int .u64 0]).run Try.prog w = .ok (.value (.tuple #[.int .u64 M, .int .u64 C])) w)
 (c5 : Op.shift .shl .u64 (p : Int) .u64 32 = pure (.int .u64 (Q : Int)))
 (w : World) :
 Calls Try.prog 81 #[.int .u64 x, .int .u64 p] w fun e w' => e = .returned (.bool (cubeV H2 C M Q L1))/\w' = w := by
 go_enter Try.func81, Try.ntmps81
 go_wp2_with fail
 refine (c1 _).mono ?_;rintro e w' ⟨rfl, rfl⟩
 go_wp2_with fail
 refine (c2 _).mono ?_;rintro e w' ⟨rfl, rfl⟩
 go_wp2_with fail
 refine (c3 _).mono ?_;rintro e w' ⟨rfl, rfl⟩;clear c1 c2 c3
 go_wp2
 all_goals go_ret
 all_goals (refine ⟨?_, rfl⟩)
 all_goals (refine congrArg Ending.returned ?_)
 all_goals (show Value.bool _ = Value.bool _)
 all_goals (refine congrArg Value.bool ?_)
 all_goals (clear c4 c5; unfold cubeV; generalize IntKind.u64.wrap ((H2 : Int) + C) = z at *; rw [Bool.eq_iff_iff]; simp; omega)
theorem cubeShl (p : Nat) : Op.shift .shl .u64 (p : Int) .u64 32 = pure (.int .u64 ((p * 4294967296 % 18446744073709551616 : Nat) : Int)) := by
 have e : IntKind.u64.wrap ((p : Int) * 2 ^ (32 : Int).toNat) = ((p * 4294967296 % 18446744073709551616 : Nat) : Int) := by
  have e2 : (2 : Int) ^ (32 : Int).toNat = 4294967296 := by decide
  rw [e2, IntKind.wrap_u64];omega
 have h := shift_shl .u64 .u64 (p : Int) 32 (by decide) (by decide);rw [e] at h;exact h
def cubeB (x p : Nat) : Bool :=
 let L := x * x % 18446744073709551616
 let H := x * x / 18446744073709551616
 cubeV (H * x / 18446744073709551616) ((L * x / 18446744073709551616 + H * x % 18446744073709551616) / 18446744073709551616)
  ((L * x / 18446744073709551616 + H * x % 18446744073709551616) % 18446744073709551616) (p * 4294967296 % 18446744073709551616) (L * x % 18446744073709551616)
theorem cube81 (x p : Nat) (hx : x < 18446744073709551616) (w : World) :
 Calls Try.prog 81 #[.int .u64 x, .int .u64 p] w fun e w' => e = .returned (.bool (cubeB x p))/\w' = w :=
 cube81A x p _ _ _ _ _ _ _ _ _ (cubeMul x x hx hx) (cubeMul _ x (Nat.mod_lt _ (by decide)) hx) (cubeMul _ x (Nat.div_lt_of_lt_mul (Nat.mul_lt_mul'' hx hx)) hx) (cubeAddO _ _) (cubeShl p) w
open Go.Proofs.Ytmeohejdafbodaa.Ev
noncomputable def kfCube : KF := ⟨fun args s => match args with
 | [.int .u64 (.ofNat x), .int .u64 (.ofNat p)] => bif Nat.blt x 18446744073709551616 then some (.ret (.bool (cubeB x p)), s) else none
 | _ => none⟩
theorem kfCube_locp (args : List V) : LocP fun s => kfCube.run args s := by
 unfold kfCube;dsimp only;split
 . exact Loc.cond (LocP.ret _) Loc.none
 . exact Loc.none
theorem kfCube_lg (args : List V) : Lg.LocP fun s => kfCube.run args s := by
 unfold kfCube;dsimp only;split
 . exact Lg.Loc.cond (Lg.LocP.ret _) Lg.Loc.none
 . exact Lg.Loc.none
theorem cube_well {E : Env} : KnWell Try.prog E 81 kfCube := by
 refine ⟨kfCube_locp, fun w0 ρ s w args cargs e s' hR hv hg => ?_⟩;unfold kfCube at hg;dsimp only at hg;split at hg
 . rename_i x p
   cases hc : Nat.blt x 18446744073709551616 with
   | false => rw [hc] at hg; cases hg
   | true =>
   rw [hc] at hg;rw [blt_true] at hc;simp only [cT, oS, pM] at hg;obtain ⟨rfl, rfl⟩ := hg;obtain ⟨l'⟩ := cargs;cases hv with
   | cons hx ht =>
   cases ht with
   | cons hp hn =>
   cases hn;cases hx;cases hp;refine (cube81 x p hc w).mono fun ce w' h => ?_;obtain ⟨rfl, rfl⟩ := h;exact ⟨ρ, _, rfl, Rho.le_refl ρ, .bool _, hR⟩
 . cases hg
def qpn (H p L : Nat) : Bool := decide (p < H) || (decide (H = p) && decide (0 < L))
set_option maxHeartbeats 1000000 in
set_option maxRecDepth 100000 in
theorem square82A (x p L H : Nat)
 (c1 : ∀ w, Calls Try.prog 96 #[.int .u64 x, .int .u64 x] w fun e w' => e = .returned (.tuple #[.int .u64 H, .int .u64 L])/\w' = w)
 (w : World) :
 Calls Try.prog 82 #[.int .u64 x, .int .u64 p] w fun e w' => e = .returned (.bool (qpn H p L))/\w' = w := by
 go_enter Try.func82, Try.ntmps82
 go_wp2_with fail
 refine (c1 _).mono ?_;rintro e w' ⟨rfl, rfl⟩;clear c1
 go_wp2
 all_goals go_ret
 all_goals (refine ⟨?_, rfl⟩)
 all_goals (refine congrArg Ending.returned ?_)
 all_goals (show Value.bool _ = Value.bool _)
 all_goals (refine congrArg Value.bool ?_)
 all_goals (unfold qpn; rw [Bool.eq_iff_iff]; simp; omega)
theorem square82 (x p : Nat) (hx : x < 18446744073709551616) (w : World) :
 Calls Try.prog 82 #[.int .u64 x, .int .u64 p] w fun e w' => e = .returned (.bool (qpn (x * x / 18446744073709551616) p (x * x % 18446744073709551616)))/\w' = w :=
 square82A x p _ _ (cubeMul x x hx hx) w
noncomputable def kfSquare : KF := ⟨fun args s => match args with
 | [.int .u64 (.ofNat x), .int .u64 (.ofNat p)] => bif Nat.blt x 18446744073709551616 then some (.ret (.bool (qpn (x * x / 18446744073709551616) p (x * x % 18446744073709551616))), s) else none
 | _ => none⟩
theorem kfSquare_locp (args : List V) : LocP fun s => kfSquare.run args s := by
 unfold kfSquare;dsimp only;split
 . exact Loc.cond (LocP.ret _) Loc.none
 . exact Loc.none
theorem kfSquare_lg (args : List V) : Lg.LocP fun s => kfSquare.run args s := by
 unfold kfSquare;dsimp only;split
 . exact Lg.Loc.cond (Lg.LocP.ret _) Lg.Loc.none
 . exact Lg.Loc.none
theorem square_well {E : Env} : KnWell Try.prog E 82 kfSquare := by
 refine ⟨kfSquare_locp, fun w0 ρ s w args cargs e s' hR hv hg => ?_⟩;unfold kfSquare at hg;dsimp only at hg;split at hg
 . rename_i x p
   cases hc : Nat.blt x 18446744073709551616 with
   | false => rw [hc] at hg; cases hg
   | true =>
   rw [hc] at hg;rw [blt_true] at hc;simp only [cT, oS, pM] at hg;obtain ⟨rfl, rfl⟩ := hg;obtain ⟨l'⟩ := cargs;cases hv with
   | cons hx ht =>
   cases ht with
   | cons hp hn =>
   cases hn;cases hx;cases hp;refine (square82 x p hc w).mono fun ce w' h => ?_;obtain ⟨rfl, rfl⟩ := h;exact ⟨ρ, _, rfl, Rho.le_refl ρ, .bool _, hR⟩
 . cases hg
end Go.Proofs.Ytmeohejdafbodaa.W
namespace Go.Proofs.Ytmeohejdafbodaa.W
open Go.Proofs.Ytmeohejdafbodaa.Ev Go.RowKit
def rootF (ab : Nat->Nat->Bool) (p : Nat) : Nat->Nat->Nat->Nat
 | 0, lo, _ => lo
 | k + 1, lo, hi => if 1 < hi - lo then (if ab ((lo + hi) / 2) p then rootF ab p k lo ((lo + hi) / 2) else rootF ab p k ((lo + hi) / 2) hi) else lo
theorem subU {a b : Nat} (h : b<=a) (ha : a < 18446744073709551616) (c d : Bool) : qa4 E0 .sub 96 c d (.int .u64 (a : Int)) (.int .u64 (b : Int)) = some (.int .u64 ((a - b : Nat) : Int)) := by
 rw [binV_ii, intsV_sub, show ((a : Int) - (b : Int)) = ((a - b : Nat) : Int) by omega, wrap_u64 (by omega) (by omega)]
theorem addU {a b : Nat} (h : a + b < 18446744073709551616) (c d : Bool) : qa4 E0 .add 96 c d (.int .u64 (a : Int)) (.int .u64 (b : Int)) = some (.int .u64 ((a + b : Nat) : Int)) := by
 rw [binV_ii, intsV_add, show ((a : Int) + (b : Int)) = ((a + b : Nat) : Int) by omega, wrap_u64 (by omega) (by omega)]
theorem gtrU (a b : Nat) (c d : Bool) : qa4 E0 .gtr 96 c d (.int .u64 (a : Int)) (.int .u64 (b : Int)) = some (.bool (decide (b < a))) := by
 rw [binV_ii, intsV_gtr]; congr 2; simp
theorem halfU {a : Nat} (ha : a < 18446744073709551616) : qa4 E0 .quo 96 false true (.int .u64 (a : Int)) (.int .u64 2) = some (.int .u64 ((a / 2 : Nat) : Int)) := by
 rw [binV_ii, intsV_quo _ _ _ (by decide), show (a : Int).tdiv 2 = ((a / 2 : Nat) : Int) by rw [Int.tdiv_eq_ediv_of_nonneg (by omega)]; omega, wrap_u64 (by omega) (by omega)]
section
variable {S T U : St}
theorem qn8 {self : EV} {N : Nat} (nk : Ac->St->Rs) (ek : Nat->Ac->St->Rs) {v1 : V} (ab : Nat->Nat->Bool) (p : Nat) (hf : ∀ x : Nat, x<=68719476736->qdl E0 self v1 [.int .u64 (x : Int), .int .u64 (p : Int)] S = some (.ret (.bool (ab x p)), S)) :
 ∀ (k lo hi q : Nat), k < q->lo < hi->hi - lo<=2 ^ k->hi<=68719476736 ->
 L80_7 self N nk ek q (.int .u64 (p : Int)) v1 (.int .u64 (lo : Int)) (.int .u64 (hi : Int)) S = ek 0 (fr 24 [(5, .int .u64 (rootF ab p k lo hi : Int))]) S
 | _, _, _, 0, hq, _, _, _ => by omega
 | 0, lo, hi, q + 1, hq, hl, hk, hh => by
  rw [L80_7_eq, subU (by omega) (by omega), oB, show V.int .u64 1 = .int .u64 ((1 : Nat) : Int) from rfl, gtrU, dF (by omega), oB, ifK_bool, cF];rfl
 | k + 1, lo, hi, q + 1, hq, hl, hk, hh => by
  have hp : 2 ^ (k + 1) = 2 * 2 ^ k := by rw [Nat.pow_succ]; omega
  rw [L80_7_eq, subU (by omega) (by omega), oB, show V.int .u64 1 = .int .u64 ((1 : Nat) : Int) from rfl, gtrU];unfold rootF;by_cases h1 : 1 < hi - lo
  . rw [dT h1, oB, ifK_bool, cT, addU (by omega), oB, halfU (by omega), oB, hf _ (by omega), callP_ret, ifK_bool, iP h1]
    cases ab ((lo + hi) / 2) p with
    | true => rw [cT, iP rfl]; exact qn8 nk ek ab p hf k lo _ q (by omega) (by omega) (by omega) (by omega)
    | false => rw [cF, iN (by simp)]; exact qn8 nk ek ab p hf k _ hi q (by omega) (by omega) (by omega) (by omega)
  . rw [dF h1, oB, ifK_bool, cF, iN h1]
def rootC (ab : Nat->Nat->Bool) (p : Nat) : Int := IntKind.u32.wrap (rootF ab p 36 0 68719476736 : Int)
theorem f80_run {K : FuncId->Option KF} (hK : K 80 = none) {f : FuncId} (hx : E0.ext.get f = none) (hb : qb9 E0 f = true) (m : Nat) (ab : Nat->Nat->Bool) (p : Nat) (hf : ∀ x : Nat, x<=68719476736->(ev E0 K m).f f [.int .u64 (x : Int), .int .u64 (p : Int)] S = some (.ret (.bool (ab x p)), S)) :
 (ev E0 K (m + 1)).f 80 [.int .u64 (p : Int), .fn (.func f) [] []] S = some (.ret (.int .u32 (rootC ab p)), S) := by
 refine qar (K := K) (fn := Try.f80) (c := C80) (d := B80) (by kernel_rfl) (by kernel_rfl) (qa3 C80 _ (by kernel_rfl)) hK ?_;show F80 (ev E0 K m) qa1 (.int .u64 (p : Int)) (.fn (.func f) [] []) S = _;rw [F80_eq, show V.int .u64 0 = .int .u64 ((0 : Nat) : Int) from rfl, show V.int .u64 68719476736 = .int .u64 ((68719476736 : Nat) : Int) from rfl];rw [qn8 (S := S) _ _ ab p (fun x hxx => (qdm hx hb [] [] _ S).trans (hf x hxx)) 36 0 68719476736 qa1 (by unfold qa1; omega) (by omega) (by decide) (by omega), exB_same, R80_3_eq, cvI_int, oB];rfl
def numC (p : Nat) : Tr V := Ev.one (.int .u64 (p : Int))
def PL (S : St) (v : V) (L : List Nat) (N : Nat) : Prop := (L = []/\v = .nilslice)\/(L ≠ []/\∃ r, v = .oslice r 0 L.length 1/\RowAt S r 96 1 (L.map numC)/\r < S.next/\N<=r)
theorem PL.len {v : V} {L : List Nat} {N : Nat} (h : PL S v L N) (U : St) : lnS v U = some (.int .i64 (L.length : Int), U) := by
 rcases h with ⟨rfl, rfl⟩ | ⟨_, r, rfl, _⟩
 . rfl
 . exact qk6 (fun _ _ e => by cases e) rfl
theorem PL.grew {W : Nat->Prop} {v : V} {L : List Nat} {N : Nat} (h : PL S v L N) (g : Grew W S T) (hw : ∀ x, N<=x->x < S.next->¬ W x) : PL T v L N := by
 rcases h with h | ⟨h0, r, h1, h2, h3, h4⟩
 . exact .inl h
 . exact .inr ⟨h0, r, h1, h2.grew h3 (hw r h4 h3) g, Nat.lt_of_lt_of_le h3 g.next, h4⟩
theorem ixP_os1 (r n i : Nat) (h : i < n) : ixP 1 (.oslice r 0 n 1) (.int .i64 (i : Int)) = some (.ptr r i) := by
 show (bif Nat.blt i n then some (V.ptr r (0 + i * 1)) else none) = _;rw [blt_true.2 h, cT, Nat.zero_add, Nat.mul_one]
theorem PL.at {v : V} {L : List Nat} {N : Nat} (h : PL S v L N) (ho : S.on = false) {i : Nat} (hi : i < L.length) : ∃ q, ixP 1 v (.int .i64 (i : Int)) = some q/\ld1 q S = some (.int .u64 (L[i] : Int), S) := by
 rcases h with ⟨rfl, _⟩ | ⟨_, r, rfl, h2, h3, h4⟩
 . simp at hi
 . refine ⟨_, ixP_os1 r _ i hi, ?_⟩
   have hx : (L.map numC)[i]? = some (numC L[i]) := by rw [List.getElem?_map, List.getElem?_eq_getElem hi]; rfl
   exact h2.ld1 ho hx
theorem bsU (ho : S.on = false) (p : Nat) : ∃ t, bsP 96 1 1 (Ev.one (.int .u64 0)) [(0, .int .u64 (p : Int))] S = some (.slice S.next 0 1 1, t)/\RowAt t S.next 96 1 [numC p]/\Grew (fun _ => False) S t/\t.next = S.next + 1 := by
 refine ⟨nw S (.cells 96 1 1 false ((Tr.tab 1 1 fun _ => Ev.one (.int .u64 0)).set (numC p) 0)), ?_, ?_, qbe ho _ _, rfl⟩
 . unfold bsP qe7 qe7
   simp only [V.size, qa8, Nat.beq_refl, nF, Bool.and_true, show Nat.blt 0 1 = true from rfl, cT, Tr.setC_eq, oB];rfl
 . refine qdv ho (by omega) rfl (by unfold big; omega) fun i t h => ?_
   rw [Tr.get_set];cases i with
   | zero => simpa using h
   | succ i => simp at h
theorem PL.push {v : V} {L : List Nat} {N : Nat} (h : PL S v L N) (ho : S.on = false) (hN : N<=S.next) (hl : L.length < 1000) (p : Nat) : ∃ y W v' U, bsP 96 1 1 (Ev.one (.int .u64 0)) [(0, .int .u64 (p : Int))] S = some (y, W)/\apP 96 1 8 v y W = some (v', U)/\PL U v' (L ++ [p]) N/\Grew (fun x => N<=x) S U := by
 obtain ⟨W, h1, h2, h3, h4⟩ := bsU ho p;have on1 := h3.on.trans ho;rcases h with ⟨rfl, rfl⟩ | ⟨hne, r, rfl, hr, hr2, hr3⟩
 . obtain ⟨U, k1, k2, k3, k4⟩ := qnh (B := 8) on1 h2 (by unfold qae; omega)
   exact ⟨_, W, _, U, h1, k1, .inr ⟨by simp, W.next, rfl, k2, by omega, by omega⟩, (h3.trans k3).mono fun _ _ h => h.elim⟩
 . have hrow := hr.grew hr2 (fun h => h) h3
   obtain ⟨U, k1, k2, k3, k4⟩ := ap1_more (B := 8) on1 h2 hrow (by rw [lM]; unfold qae; omega) (by rw [lM]; unfold big; omega);rw [lM] at k1;refine ⟨_, W, _, U, h1, k1, .inr ⟨by simp, W.next, by rw [lA]; rfl, by rw [List.map_append]; exact k2, by omega, by omega⟩, (h3.mono fun _ _ h => h.elim).trans (k3.mono fun x _ e => by subst e; exact hr3)⟩
theorem lssK (a b : Nat) (d : Bool) : qa4 E0 .lss 3 false d (.int .i64 (a : Int)) (.int .i64 (b : Int)) = some (.bool (decide (a < b))) := by
 rw [binV_ii, intsV_lss]; congr 2; simp
theorem succK {i : Nat} (h : i < 100000) : qa4 E0 .add 3 false true (.int .i64 (i : Int)) (.int .i64 1) = some (.int .i64 ((i + 1 : Nat) : Int)) := by
 rw [binV_ii, intsV_add, show ((i : Int) + 1) = ((i + 1 : Nat) : Int) by omega, qb8 (by omega) (by omega)]
theorem remU {a b : Nat} (h : b ≠ 0) : qa4 E0 .rem 96 false false (.int .u64 (a : Int)) (.int .u64 (b : Int)) = some (.int .u64 ((a % b : Nat) : Int)) := by
 rw [binV_ii, qoi _ _ _ (by omega), Int.tmod_eq_emod_of_nonneg (by omega)]
 congr 2
theorem eqlU0 (a : Nat) : qa4 E0 .eql 96 false true (.int .u64 (a : Int)) (.int .u64 0) = some (.bool (decide (a = 0))) := by
 rw [binV_ii, intsV_eql]; congr 2; simp
theorem L63c_spec {self : EV} {N M : Nat} {v0 v1 v2 v14 : V} {L : List Nat} (nk : Ac->St->Rs) (ek : Nat->Ac->St->Rs) (ho : S.on = false) (hP : PL S v14 L M) (hl : L.length < 1000) (h0 : ∀ p ∈ L, p ≠ 0) (x : Nat) :
 ∀ (r : List Nat) (i q : Nat), L.drop i = r->r.length < q ->
 L52_63 self N nk ek q v0 v1 v2 (.int .u64 (x : Int)) v14 (.int .i64 (L.length : Int)) (.int .i64 (i : Int)) S = ek (if r.any (fun p => decide (x % p = 0)) then 1 else 2) (fr 54 [(0, v0), (1, v1), (2, v2), (3, .int .u64 (x : Int))]) S
 | _, _, 0, _, hq => by omega
 | [], i, q + 1, hi, _ => by
  rw [L52_63_eq, lssK, dF (Nat.not_lt.2 (qbm hi)), oB, ifK_bool, cF];rfl
 | p :: r, i, q + 1, hi, hq => by
  obtain ⟨hlt, hp, hr, hmem⟩ := qcn hi;obtain ⟨a, a1, a2⟩ := hP.at ho hlt;have ih := L63c_spec (self := self) (N := N) (v0 := v0) (v1 := v1) (v2 := v2) nk ek ho hP hl h0 x r (i + 1) q hr (by simpa using hq);rw [L52_63_eq, lssK, dT hlt, oB, ifK_bool, cT, a1, oB, a2, oB];dsimp only;rw [hp, remU (h0 p hmem), oB, eqlU0, oB, ifK_bool, List.any_cons];by_cases e : x % p = 0
  . rw [dT e, cT, Bool.true_or, iP rfl]
  . rw [dF e, cF, Bool.false_or, succK (by omega), oB, ih]
def qjf : Nat->Nat->List Nat->List Nat
 | 0, _, L => L
 | k + 1, x, L => if L.length < 64 then qjf k (x + 1) (if L.any (fun p => decide (x % p = 0)) then L else L ++ [x]) else L
theorem qn3 {self : EV} {N M : Nat} (hN : 1000 < N) {v0 v1 : V} (nk : Ac->St->Rs) (ek : Nat->Ac->St->Rs) :
 ∀ (k x q : Nat) (L : List Nat) (v : V) (S : St), k < q->S.on = false->PL S v L M->M<=S.next->(∀ p ∈ L, p ≠ 0)->x ≠ 0->x + k < 100000->L.length<=64->64<=(qjf k x L).length ->
 ∃ v' U, L52_46 self N nk ek q v0 v1 v (.int .u64 (x : Int)) S = ek 0 (fr 54 [(0, v0), (1, v1), (2, v')]) U/\PL U v' (qjf k x L) M/\Grew (fun b => M<=b) S U
 | _, _, 0, _, _, _, hq, _, _, _, _, _, _, _, _ => by omega
 | 0, x, q + 1, L, v, S, hq, ho, hP, hM, h0, hx, hxk, hL, h64 => by
  refine ⟨v, S, ?_, hP, Grew.refl _ _⟩;rw [qn5, hP.len, oB];dsimp only;rw [show V.int .i64 64 = .int .i64 ((64 : Nat) : Int) from rfl, lssK, dF (by unfold qjf at h64; omega), oB, ifK_bool, cF]
 | k + 1, x, q + 1, L, v, S, hq, ho, hP, hM, h0, hx, hxk, hL, h64 => by
  unfold qjf at h64 ⊢;by_cases hl : L.length < 64
  . rw [iP hl] at h64 ⊢
    have hh : ∀ e, e = 1\/e = 2->L52_46 self N nk ek (q + 1) v0 v1 v (.int .u64 (x : Int)) S = exB 2 (R52_54 self N (qiq self N (qip self N nk ek q) ek) (exB 1 (qiq self N (qip self N nk ek q) ek) ek)) (exB 1 (qiq self N (qip self N nk ek q) ek) ek) (if L.any (fun p => decide (x % p = 0)) then 1 else 2) (fr 54 [(0, v0), (1, v1), (2, v), (3, .int .u64 (x : Int))]) S := fun e he => by
     rw [qn5, hP.len, oB];dsimp only;rw [show V.int .i64 64 = .int .i64 ((64 : Nat) : Int) from rfl, lssK, dT hl, oB, ifK_bool, cT, hP.len, oB];dsimp only;rw [show V.int .i64 0 = .int .i64 ((0 : Nat) : Int) from rfl, L63c_spec _ _ ho hP (by omega) h0 x L 0 N rfl (by omega)]
    have hh := hh 1 (.inl rfl);by_cases hd : L.any (fun p => decide (x % p = 0)) = true
    . rw [iP hd] at h64 hh ⊢
      obtain ⟨v', U, t1, t2, t3⟩ := qn3 (self := self) hN (v0 := v0) (v1 := v1) nk ek k (x + 1) q L v S (by omega) ho hP hM h0 (by omega) (by omega) hL h64;refine ⟨v', U, hh.trans ?_, t2, t3⟩;show exB 1 (qiq self N (qip self N nk ek q) ek) ek 1 _ S = _;rw [exB_same, R52_50_eq, show V.int .u64 1 = .int .u64 ((1 : Nat) : Int) from rfl, addU (by omega), oB, N52_46_eq, t1]
    . rw [iN hd] at h64 hh ⊢
      obtain ⟨y, W, v1', U1, a1, a2, a3, a4⟩ := hP.push ho hM (by omega) x;have n1 := a4.next
      obtain ⟨v', U, t1, t2, t3⟩ := qn3 (self := self) hN (v0 := v0) (v1 := v1) nk ek k (x + 1) q (L ++ [x]) v1' U1 (by omega) (a4.on.trans ho) a3 (by omega) (fun p hp => by
       rcases List.mem_append.1 hp with h | h
       . exact h0 p h
       . rw [List.mem_singleton.1 h]; exact hx) (by omega) (by omega) (by rw [lA, List.length_singleton]; omega) h64
      refine ⟨v', U, hh.trans ?_, t2, a4.trans t3⟩;rw [exB_same, R52_54_eq, a1, oB];dsimp only;rw [a2, oB];dsimp only;rw [R52_50_eq, show V.int .u64 1 = .int .u64 ((1 : Nat) : Int) from rfl, addU (by omega), oB, N52_46_eq, t1]
  . rw [iN hl] at h64 ⊢
    refine ⟨v, S, ?_, hP, Grew.refl _ _⟩;rw [qn5, hP.len, oB];dsimp only;rw [show V.int .i64 64 = .int .i64 ((64 : Nat) : Int) from rfl, lssK, dF hl, oB, ifK_bool, cF]
noncomputable def qhe (g : Nat->Int) : List Nat->Nat->Tr V->Tr V
 | [], _, t => t
 | p :: r, i, t => qhe g r (i + 1) (t.set (.int .u32 (g p)) i)
theorem ql0 (g : Nat->Int) (z : Nat) : ∀ (r : List Nat) (i : Nat) (t : Tr V), (∀ j, j < z->∃ n : Int, t.get j = some (.int .u32 n))->∀ j, j < z->∃ n : Int, (qhe g r i t).get j = some (.int .u32 n)
 | [], _, _, h, j, hj => h j hj
 | p :: r, i, t, h, j, hj => ql0 g z r (i + 1) _ (fun k hk => by
  rw [Tr.get_set];by_cases e : k = i
  . exact ⟨_, by rw [iP e]⟩
  . rw [iN e]; exact h k hk) j hj
theorem qj3 (g : Nat->Int) : ∀ (r : List Nat) (i : Nat) (t : Tr V), (∀ (j : Nat) v, t.get j = some v->∃ n : Int, v = .int .u32 n)->∀ (j : Nat) v, (qhe g r i t).get j = some v->∃ n : Int, v = .int .u32 n
 | [], _, _, h, j, v, hj => h j v hj
 | p :: r, i, t, h, j, v, hj => qj3 g r (i + 1) _ (fun k w hk => by
  rw [Tr.get_set] at hk;by_cases e : k = i
  . rw [iP e] at hk; cases hk; exact ⟨_, rfl⟩
  . rw [iN e] at hk; exact h k w hk) j v hj
theorem ixA_k {z b i : Nat} (h : i < z) : ixA z 1 false 1 (.ptr b 0) (.int .i64 (i : Int)) = some (.ptr b i) := by
 show (bif Nat.blt i z then some (V.ptr b (0 + i * 1)) else none) = _;rw [blt_true.2 h, cT, Nat.zero_add, Nat.mul_one]
theorem L31c_spec {self : EV} {N M b : Nat} {v0 v2 v29 : V} {L : List Nat} {g : Nat->Int} (hf : ∀ p ∈ L, ∀ S, self.f 80 [.int .u64 (p : Int), .fn (.func 81) [] []] S = some (.ret (.int .u32 (g p)), S)) (hL : L.length<=64) (hb : b < M) (nk : Ac->St->Rs) (ek : Nat->Ac->St->Rs) :
 ∀ (r : List Nat) (i q : Nat) (t : Tr V) (S : St), L.drop i = r->r.length < q->S.on = false->PL S v29 L M->AgAt S b 73 64 t ->
 ∃ U, L52_31 self N nk ek q v0 (.ptr b 0) v2 v29 (.int .i64 (L.length : Int)) (.int .i64 (i : Int)) S = ek 4 (fr 54 [(0, v0), (1, .ptr b 0), (2, v2)]) U/\AgAt U b 73 64 (qhe g r i t)/\Grew (fun x => x = b) S U/\U.next = S.next
 | _, _, 0, _, _, _, hq, _, _, _ => by omega
 | [], i, q + 1, t, S, hi, _, ho, hP, hA => by
  refine ⟨S, ?_, hA, Grew.refl _ _, rfl⟩;rw [L52_31_eq, lssK, dF (Nat.not_lt.2 (qbm hi)), oB, ifK_bool, cF]
 | p :: r, i, q + 1, t, S, hi, hq, ho, hP, hA => by
  obtain ⟨hlt, hp, hr, hmem⟩ := qcn hi;obtain ⟨a, a1, a2⟩ := hP.at ho hlt;obtain ⟨W, b1, b2, b3, b4⟩ := hA.st1 ho (by unfold big; decide) (by decide) (i := i) (by omega) (.int .u32 (g p)) rfl rfl rfl;obtain ⟨U, t1, t2, t3, t4⟩ := L31c_spec (self := self) (N := N) (v0 := v0) (v2 := v2) hf hL hb nk ek r (i + 1) q _ W hr (by simpa using hq) (b3.on.trans ho) (hP.grew b3 fun x hx _ e => by omega) b2;refine ⟨U, ?_, t2, b3.trans t3, by omega⟩;rw [L52_31_eq, lssK, dT hlt, oB, ifK_bool, cT, a1, oB, a2, oB];dsimp only;rw [hp, hf p hmem, callP_ret, ixA_k (by omega), oB, b1, oB, succK (by omega), oB, t1]
theorem L14c_spec {self : EV} {N M b : Nat} {v1 v2 : V} {L : List Nat} {g : Nat->Int} (hf : ∀ p ∈ L, ∀ S, self.f 80 [.int .u64 (p : Int), .fn (.func 82) [] []] S = some (.ret (.int .u32 (g p)), S)) (hL : 8<=L.length) (hb : b < M) (nk : Ac->St->Rs) (ek : Nat->Ac->St->Rs) :
 ∀ (r : List Nat) (i q : Nat) (t : Tr V) (S : St), (L.take 8).drop i = r->r.length < q->S.on = false->PL S v2 L M->AgAt S b 72 8 t ->
 ∃ U, L52_14 self N nk ek q (.ptr b 0) v1 v2 (.int .i64 (i : Int)) S = ek 6 (fr 54 [(0, .ptr b 0), (1, v1)]) U/\AgAt U b 72 8 (qhe g r i t)/\Grew (fun x => x = b) S U/\U.next = S.next
 | _, _, 0, _, _, _, hq, _, _, _ => by omega
 | [], i, q + 1, t, S, hi, _, ho, hP, hA => by
  refine ⟨S, ?_, hA, Grew.refl _ _, rfl⟩;have := qbm hi;rw [List.length_take] at this;rw [L52_14_eq, show V.int .i64 8 = .int .i64 ((8 : Nat) : Int) from rfl, lssK, dF (by omega), oB, ifK_bool, cF]
 | p :: r, i, q + 1, t, S, hi, hq, ho, hP, hA => by
  obtain ⟨hlt0, hp, hr, hmem⟩ := qcn hi;have hlt : i < 8/\i < L.length := by rw [List.length_take] at hlt0; omega
  rw [List.getElem_take] at hp;obtain ⟨a, a1, a2⟩ := hP.at ho hlt.2;obtain ⟨W, b1, b2, b3, b4⟩ := hA.st1 ho (by unfold big; decide) (by decide) (i := i) (by omega) (.int .u32 (g p)) rfl rfl rfl;obtain ⟨U, t1, t2, t3, t4⟩ := L14c_spec (self := self) (N := N) (v1 := v1) hf hL hb nk ek r (i + 1) q _ W hr (by simpa using hq) (b3.on.trans ho) (hP.grew b3 fun x hx _ e => by omega) b2;refine ⟨U, ?_, t2, b3.trans t3, by omega⟩;rw [L52_14_eq, show V.int .i64 8 = .int .i64 ((8 : Nat) : Int) from rfl, lssK, dT hlt.1, oB, ifK_bool, cT, a1, oB, a2, oB];dsimp only;rw [hp, hf p (List.mem_of_mem_take hmem), callP_ret, ixA_k (by omega), oB, b1, oB, succK (by omega), oB, t1]
theorem ag_ldOn {b e z : Nat} {t : Tr V} (h : AgAt S b e z t) (hz : z < big) : Ev.ldA z (.ptr b 0) (S.lg []) = some (.agg z t, S.lg [⟨b, 0, z, false⟩]) := by
 obtain ⟨c, h1, h2⟩ := h;show ((ldK (S.lg []) b 0 z).bind fun p => some (V.agg z p.1, p.2)) = _;unfold ldK;rw [show (S.lg []).heap = S.heap from rfl, h1];simp only [ble_true.2 (show 0 + z<=z * 1 by omega), blt_true.2 (show z * 1 < big by omega), Bool.and_self, cT];unfold qgy;rw [show Nat.beq z z = true from beq_true.2 rfl, Nat.zero_mod, show Nat.beq 0 0 = true from rfl];simp only [Bool.and_self, cT, Nat.zero_div, h2, oB, Nat.zero_add];rfl
theorem ag_stOn {b e z : Nat} {t : Tr V} (ho : S.on = false) (h : AgAt S b e z t) (hz : z < big) : ∃ w, Ev.stP z (.ptr b 0) (.agg z t) (S.lg []) = some (.tuple [], w.lg [⟨b, 0, z, true⟩])/\AgAt w b e z t/\Grew (fun x => x = b) S w/\w.next = S.next := by
 obtain ⟨c, h1, h2⟩ := h;refine ⟨S.put b (.cells e z 1 false (c.set t 0)), ?_, ⟨c.set t 0, by rw [qby, iP rfl], by rw [Tr.get_set, iP rfl]⟩, qb2 b _, rfl⟩;show vu (bif Nat.beq z z && !false then stK (S.lg []) b 0 z t else none) = _;rw [show Nat.beq z z = true from beq_true.2 rfl];simp only [nF, Bool.and_self, cT];unfold stK;rw [show (S.lg []).heap = S.heap from rfl, h1];simp only [ble_true.2 (show 0 + z<=z * 1 by omega), blt_true.2 (show z * 1 < big by omega), Bool.and_self, nF, cT];unfold qe6;rw [show Nat.beq z z = true from beq_true.2 rfl, Nat.zero_mod, show Nat.beq 0 0 = true from rfl];simp only [Bool.and_self, cT, Nat.zero_div, Tr.setC_eq, oB, Nat.zero_add];rfl
def P52 : List Nat := qjf 400 2 []
theorem p52_len : P52.length = 64 := by decide +kernel
def squareN (x p : Nat) : Bool := qpn (x * x / 18446744073709551616) p (x * x % 18446744073709551616)
noncomputable def z32 (n : Nat) : Tr V := Tr.ofListFrom .nil (List.replicate n (.int .u32 0)) 0
noncomputable def tA : Tr V := qhe (rootC squareN) (P52.take 8) 0 (z32 8)
noncomputable def tB : Tr V := qhe (rootC cubeB) P52 0 (z32 64)
theorem z32_all (n : Nat) : ∀ i, i < n->∃ k : Int, (z32 n).get i = some (.int .u32 k) := fun i hi => ⟨0, by
 unfold z32
 rw [Tr.get_ofList, List.getElem?_replicate, iP hi]⟩
theorem z32_only (n : Nat) : ∀ (j : Nat) v, (z32 n).get j = some v->∃ k : Int, v = .int .u32 k := fun j v h => by
 unfold z32 at h;rw [Tr.get_ofList, List.getElem?_replicate] at h;split at h
 . cases h; exact ⟨0, rfl⟩
 . cases h
theorem tA_all : ∀ i, i < 8->∃ k : Int, tA.get i = some (.int .u32 k) := ql0 _ 8 _ _ _ (z32_all 8)
theorem tB_all : ∀ i, i < 64->∃ k : Int, tB.get i = some (.int .u32 k) := ql0 _ 64 _ _ _ (z32_all 64)
theorem tA_only : ∀ (j : Nat) v, tA.get j = some v->∃ k : Int, v = .int .u32 k := qj3 _ _ _ _ (z32_only 8)
theorem tB_only : ∀ (j : Nat) v, tB.get j = some v->∃ k : Int, v = .int .u32 k := qj3 _ _ _ _ (z32_only 64)
theorem ex81 : E0.ext.get 81 = none := by kernel_rfl
theorem ex82 : E0.ext.get 82 = none := by kernel_rfl
theorem hb81 : qb9 E0 81 = true := by kernel_rfl
theorem hb82 : qb9 E0 82 = true := by kernel_rfl
theorem blt_u64 {x : Nat} (h : x<=68719476736) : Nat.blt x 18446744073709551616 = true := blt_true.2 (by omega)
theorem cube_run {K : FuncId->Option KF} (k81 : K 81 = some kfCube) (m x p : Nat) (h : x<=68719476736) (S : St) : (ev E0 K (m + 1)).f 81 [.int .u64 (x : Int), .int .u64 (p : Int)] S = some (.ret (.bool (cubeB x p)), S) := by
 rw [qaq k81];show (bif Nat.blt x 18446744073709551616 then some (En.ret (.bool (cubeB x p)), S) else none) = _;rw [blt_u64 h, cT]
theorem square_run {K : FuncId->Option KF} (k82 : K 82 = some kfSquare) (m x p : Nat) (h : x<=68719476736) (S : St) : (ev E0 K (m + 1)).f 82 [.int .u64 (x : Int), .int .u64 (p : Int)] S = some (.ret (.bool (squareN x p)), S) := by
 rw [qaq k82];show (bif Nat.blt x 18446744073709551616 then some (En.ret (.bool (squareN x p)), S) else none) = _;rw [blt_u64 h, cT]
set_option maxHeartbeats 1000000 in
theorem f52_gen {self : EV} {gA gB : Nat->Int} (hgA : ∀ (p : Nat) S, self.f 80 [.int .u64 (p : Int), .fn (.func 82) [] []] S = some (.ret (.int .u32 (gA p)), S)) (hgB : ∀ (p : Nat) S, self.f 80 [.int .u64 (p : Int), .fn (.func 81) [] []] S = some (.ret (.int .u32 (gB p)), S)) {k : Nat} {P : List Nat} (hk : k<=1000) (hP : qjf k 2 [] = P) (hl : P.length = 64) (ho : S.on = false) :
 ∃ U, qbu E0 self qa1 Try.f52 B52 [] S = some (.ret (.tuple [.agg 8 (qhe gA (P.take 8) 0 (z32 8)), .agg 64 (qhe gB P 0 (z32 64))]), U)/\Grew (fun _ => False) S U := by
 generalize htA : qhe gA (P.take 8) 0 (z32 8) = tA;generalize htB : qhe gB P 0 (z32 64) = tB;obtain ⟨a1, a2, a3⟩ := qne ho 72 8 (z32 8)
 have h0 : F52 self qa1 S = L52_46 self qa1 (R52_3 self qa1 (qak E0 self Try.f52) qa9) (exB 0 (R52_3 self qa1 (qak E0 self Try.f52) qa9) qa9) qa1 (.ptr S.next 0) (.ptr (nwP 72 8 (z32 8) S).2.next 0) .nilslice (.int .u64 2) (nwP 73 64 (z32 64) (nwP 72 8 (z32 8) S).2).2 := by
  rw [F52_eq];rfl
 generalize (nwP 72 8 (z32 8) S).2 = S1 at a1 a2 a3 h0;have on1 := a2.on.trans ho;obtain ⟨b1, b2, b3⟩ := qne on1 73 64 (z32 64);generalize (nwP 73 64 (z32 64) S1).2 = S2 at b1 b2 b3 h0;have on2 := b2.on.trans on1;have hA2 : AgAt S2 S.next 72 8 (z32 8) := a1.grew (by omega) (fun h => h) b2
 obtain ⟨v, S3, c1, c2, c3⟩ := qn3 (self := self) (N := qa1) (M := S2.next) (by unfold qa1; omega) (v0 := .ptr S.next 0) (v1 := .ptr S1.next 0) (R52_3 self qa1 (qak E0 self Try.f52) qa9) (exB 0 (R52_3 self qa1 (qak E0 self Try.f52) qa9) qa9) k 2 qa1 [] .nilslice S2 (by unfold qa1; omega) on2 (.inl ⟨rfl, rfl⟩) (lR _) (fun p hp => by cases hp) (by omega) (by omega) (by simp) (by rw [hP, hl]; exact lR _);have c2' : PL S3 v P S2.next := hP ▸ c2
 have on3 := c3.on.trans on2;have n3 := c3.next
 have hA3 : AgAt S3 S.next 72 8 (z32 8) := hA2.grew (by omega) (by omega) c3
 have hB3 : AgAt S3 S1.next 73 64 (z32 64) := b1.grew (by omega) (by omega) c3
 obtain ⟨S4, d1, d2, d3, d4⟩ := L31c_spec (self := self) (N := qa1) (M := S2.next) (b := S1.next) (v0 := .ptr S.next 0) (v2 := v) (v29 := v) (L := P) (g := gB) (fun p _ S => hgB p S) (by rw [hl]; exact lR _) (by omega) (R52_4 self qa1 (fun a s => qaa [0, 1] a fun a => qak E0 self Try.f52 a s) qa9) (exB 4 (R52_4 self qa1 (fun a s => qaa [0, 1] a fun a => qak E0 self Try.f52 a s) qa9) qa9) P 0 qa1 (z32 64) S3 rfl (by rw [hl]; unfold qa1; omega) on3 c2' hB3;have on4 := d3.on.trans on3;have hA4 : AgAt S4 S.next 72 8 (z32 8) := hA3.grew (by omega) (by omega) d3
 have hP4 : PL S4 v P S2.next := c2'.grew d3 fun x hx _ e => by omega
 obtain ⟨S5, e1, e2, e3, e4⟩ := L14c_spec (self := self) (N := qa1) (M := S2.next) (b := S.next) (v1 := .ptr S1.next 0) (v2 := v) (L := P) (g := gA) (fun p _ S => hgA p S) (by rw [hl]; omega) (by omega) (R52_5 self qa1 (fun a s => qaa [0, 1] a fun a => (fun a s => qaa [0, 1] a fun a => qak E0 self Try.f52 a s) a s) qa9) (exB 6 (R52_5 self qa1 (fun a s => qaa [0, 1] a fun a => (fun a s => qaa [0, 1] a fun a => qak E0 self Try.f52 a s) a s) qa9) qa9) (P.take 8) 0 qa1 (z32 8) S4 rfl (by rw [List.length_take, hl]; unfold qa1; omega) on4 hP4 hA4;have on5 := e3.on.trans on4;have hA5 : AgAt S5 S.next 72 8 tA := htA ▸ e2
 have hB5 : AgAt S5 S1.next 73 64 tB := htB ▸ d2.grew (by omega) (by omega) e3
 obtain ⟨W1, f1, f2, f3, f4⟩ := ag_stOn on5 hA5 (by unfold big; decide);have hB6 : AgAt W1 S1.next 73 64 tB := hB5.grew (by omega) (by omega) f3
 have onW1 := f3.on.trans on5;obtain ⟨W2, g1, g2, g3, g4⟩ := ag_stOn onW1 hB6 (by unfold big; decide);have hA7 : AgAt W2 S.next 72 8 tA := f2.grew (by omega) (by omega) g3
 have onW2 := g3.on.trans onW1;obtain ⟨r1, r2, r3⟩ := relog_lg on5 [⟨S1.next, 0, 64, true⟩] [[⟨S.next, 0, 8, false⟩], [⟨S1.next, 0, 64, false⟩], [⟨S.next, 0, 8, true⟩], [⟨S1.next, 0, 64, true⟩]] onW2
 have hend : ∀ k : St->Rs, qm8 [(0, [1]), (1, [2])] S5 [[⟨S.next, 0, 8, false⟩], [⟨S1.next, 0, 64, false⟩], [⟨S.next, 0, 8, true⟩], [⟨S1.next, 0, 64, true⟩]] (W2.lg [⟨S1.next, 0, 64, true⟩]) k = k (qb3 S5 (W2.lg [⟨S1.next, 0, 64, true⟩]) [[⟨S.next, 0, 8, false⟩], [⟨S1.next, 0, 64, false⟩], [⟨S.next, 0, 8, true⟩], [⟨S1.next, 0, 64, true⟩]]) := fun k => qcg (by
  have h1 : Nat.beq S.next S1.next = false := beq_false.2 (by omega)
  have h2 : Nat.beq S1.next S.next = false := beq_false.2 (by omega)
  simp only [qav, qdn, qed, qez, meet, qf2, h1, h2, cF, cT, Nat.beq_refl, show Nat.beq 1 0 = false from rfl, show Nat.beq 2 0 = false from rfl, show Nat.beq (2 - 1) 0 = false from rfl, show Nat.beq (1 - 1) 0 = true from rfl, show Nat.beq (2 - 1 - 1) 0 = true from rfl])
 generalize qb3 S5 (W2.lg [⟨S1.next, 0, 64, true⟩]) [[⟨S.next, 0, 8, false⟩], [⟨S1.next, 0, 64, false⟩], [⟨S.next, 0, 8, true⟩], [⟨S1.next, 0, 64, true⟩]] = S6 at r1 r2 r3 hend;have hA6 : AgAt S6 S.next 72 8 tA := by obtain ⟨c, q1, q2⟩ := hA7; exact ⟨c, by rw [r1]; exact q1, q2⟩
 have hB6' : AgAt S6 S1.next 73 64 tB := by obtain ⟨c, q1, q2⟩ := g2; exact ⟨c, by rw [r1]; exact q1, q2⟩
 refine ⟨S6, ?_, ?_⟩
 . show F52 self qa1 S = _
   rw [h0, show V.int .u64 2 = .int .u64 ((2 : Nat) : Int) from rfl];refine c1.trans ?_;rw [exB_same, R52_3_eq, c2'.len, oB];dsimp only;rw [show V.int .i64 0 = .int .i64 ((0 : Nat) : Int) from rfl];refine d1.trans ?_;rw [exB_same, R52_4_eq, show V.int .i64 0 = .int .i64 ((0 : Nat) : Int) from rfl];refine e1.trans ?_;rw [exB_same, R52_5_eq, show onS S5 = S5.lg [] from rfl, ag_ldOn hA5 (by unfold big; decide), oB];dsimp only;rw [show onS (S5.lg [⟨S.next, 0, 8, false⟩]) = S5.lg [] from rfl, ag_ldOn hB5 (by unfold big; decide), oB];dsimp only;rw [show onS (S5.lg [⟨S1.next, 0, 64, false⟩]) = S5.lg [] from rfl, f1, oB];dsimp only;rw [show onS (W1.lg [⟨S.next, 0, 8, true⟩]) = W1.lg [] from rfl, g1, oB];show qm8 [(0, [1]), (1, [2])] S5 [[⟨S.next, 0, 8, false⟩], [⟨S1.next, 0, 64, false⟩], [⟨S.next, 0, 8, true⟩], [⟨S1.next, 0, 64, true⟩]] (W2.lg [⟨S1.next, 0, 64, true⟩]) _ = _;rw [hend, hA6.ldrA r3 (by unfold big; decide), oB];dsimp only;rw [hB6'.ldrA r3 (by unfold big; decide), oB]
 . refine ⟨by rw [r2]; omega, by rw [r3, ho], fun b hb _ => ?_⟩
   rw [r1, g3.keep b (by omega) (by omega), f3.keep b (by omega) (by omega), e3.keep b (by omega) (by omega), d3.keep b (by omega) (by omega), c3.keep b (by omega) (by omega), b2.keep b (by omega) (fun h => h), a2.keep b hb (fun h => h)]
theorem f52_text {K : FuncId->Option KF} (k81 : K 81 = some kfCube) (k82 : K 82 = some kfSquare) (k80 : K 80 = none) (ho : S.on = false) :
 ∃ U, qbu E0 (ev E0 K 2) qa1 Try.f52 B52 [] S = some (.ret (.tuple [.agg 8 tA, .agg 64 tB]), U)/\Grew (fun _ => False) S U :=
 f52_gen (fun p S => f80_run k80 ex82 hb82 1 squareN p fun x hx => square_run k82 0 x p hx S) (fun p S => f80_run k80 ex81 hb81 1 cubeB p fun x hx => cube_run k81 0 x p hx S) (by omega) rfl p52_len ho
noncomputable def kfConst : KF := qdb (fun _ : Unit => []) (fun _ => En.ret (.tuple [.agg 8 tA, .agg 64 tB]))
theorem kfConst_run (S : St) : kfConst.run [] S = some (.ret (.tuple [.agg 8 tA, .agg 64 tB]), S) := qcf (enc := fun _ : Unit => []) (out := fun _ => En.ret (.tuple [.agg 8 tA, .agg 64 tB])) (fun _ _ _ => rfl) () S
theorem fz_word (s : St) (N : Nat) {z : Nat} {t : Tr V} (h : ∀ (j : Nat) v, t.get j = some v->∃ n : Int, v = .int .u32 n) : Ev.Fz s N (.agg z t) (.agg z t) := by
 classical
 refine .agg (fun i => (t.get i).getD .nilptr) (fun i v' hv _ => by rw [hv]; rfl) fun i v' hv _ => ?_;rw [hv];obtain ⟨n, rfl⟩ := h i v' hv;exact .same (.int _ _)
theorem const_well {K : FuncId->Option KF} (hK : KnOk Try.prog E0 K) (k81 : K 81 = some kfCube) (k82 : K 82 = some kfSquare) (k80 : K 80 = none) : KnWell Try.prog E0 52 kfConst :=
 qcs (fn := Try.f52) (c := C52) (d := B52) qm4 hK (by kernel_rfl) (by kernel_rfl) (qa3 C52 _ (by kernel_rfl)) fun _ S ho => by
  obtain ⟨U, h1, h2⟩ := f52_text k81 k82 k80 ho;exact ⟨2, _, U, h1, h2, .tuple (.cons (fz_word _ _ tA_only) (.cons (fz_word _ _ tB_only) .nil))⟩
end
theorem glob0 : ∀ g, E0.glob.get g = none := fun _ => rfl
theorem works_runs : saysTrue ((ev E0 (fun _ => none) 400).f 10 [] s0) = true := by decide +kernel
theorem kn10 : KnWell Try.prog E0 10 kfTrue := by
 refine ⟨qlg, fun w0 ρ s w args cargs e t hR hv hg => ?_⟩;unfold kfTrue qdb at hg;simp only at hg;by_cases hx : ∃ x : Unit, ([] : List V) = args
 . rw [dif_pos hx] at hg
   simp only [oS, pM] at hg;obtain ⟨rfl, rfl⟩ := hg;obtain ⟨_, rfl⟩ := hx;obtain ⟨l⟩ := cargs;cases hv;exact (closed_walk qm4 knOk_nil glob0 works_runs w).mono fun ce w' ⟨h1, h2⟩ => ⟨ρ, .bool true, h1, Rho.le_refl ρ, .bool true, hR.grown h2⟩
 . rw [dif_neg hx] at hg; cases hg
noncomputable def K1 := qd0 (fun _ => none) 75 kfDeep
theorem ok1 : KnOk Try.prog E0 K1 := knOk_nil.add (kn70 knOk_nil)
noncomputable def K2 := qd0 K1 73 kfDeep
theorem ok2 : KnOk Try.prog E0 K2 := ok1.add (kn57 ok1)
noncomputable def K3 := qd0 K2 42 (qbc qm9)
theorem ok3 : KnOk Try.prog E0 K3 := ok2.add (kn58 ok2 rfl)
noncomputable def K4 := qd0 K3 36 (qbc qm9)
theorem ok4 : KnOk Try.prog E0 K4 := ok3.add (kn34 ok3 rfl)
noncomputable def K5 := qd0 K4 24 (qbc qdq)
theorem ok5 : KnOk Try.prog E0 K5 := ok4.add (kn35 ok4 rfl)
noncomputable def K6 := qd0 K5 51 (qbc gSize)
theorem ok6 : KnOk Try.prog E0 K6 := ok5.add (kn38 ok5 rfl)
noncomputable def K7 := qd0 K6 26 (qbc qfg)
theorem ok7 : KnOk Try.prog E0 K7 := ok6.add (kn17 ok6 rfl rfl)
noncomputable def K8 := qd0 K7 38 (qbc qfg)
theorem ok8 : KnOk Try.prog E0 K8 := ok7.add (kn45 ok7 rfl)
noncomputable def K9 := qd0 K8 74 (qis qhi)
theorem ok9 : KnOk Try.prog E0 K9 := ok8.add (kn68 ok8)
noncomputable def K10 := qd0 K9 37 (qbc gMay)
theorem ok10 : KnOk Try.prog E0 K10 := ok9.add (kn44 ok9 rfl)
noncomputable def K11 := qd0 K10 47 kfIndexByte
theorem ok11 : KnOk Try.prog E0 K11 := ok10.add (kn63 ok10 rfl)
noncomputable def K12 := qd0 K11 99 kfIndexRune
theorem ok12 : KnOk Try.prog E0 K12 := ok11.add (kn78 ok11 rfl rfl)
noncomputable def K13 := qd0 K12 79 kfAny
theorem ok13 : KnOk Try.prog E0 K13 := ok12.add (kn74 ok12 rfl rfl rfl rfl rfl)
noncomputable def K14 := qd0 K13 50 (qis qhi)
theorem ok14 : KnOk Try.prog E0 K14 := ok13.add (kn66 ok13 rfl)
noncomputable def K15 := qd0 K14 25 (qbc gMay)
theorem ok15 : KnOk Try.prog E0 K15 := ok14.add (kn36 ok14 rfl rfl rfl rfl rfl rfl rfl rfl rfl rfl rfl)
noncomputable def K16 := qd0 K15 11 (qfu 3 qgw)
theorem ok16 : KnOk Try.prog E0 K16 := ok15.add (kfNodeT_well 3 qgw (kn15 ok15 rfl rfl rfl))
noncomputable def K17 := qd0 K16 18 (qbc qoe)
theorem ok17 : KnOk Try.prog E0 K17 := ok16.add (kn21 ok16 rfl rfl rfl)
noncomputable def K18 := qd0 K17 6 kfShort
theorem ok18 : KnOk Try.prog E0 K18 := ok17.add (kn8 ok17)
noncomputable def K19 := qd0 K18 17 kfSort
theorem ok19 : KnOk Try.prog E0 K19 := ok18.add (sort_well (sortOk_of Try.sort17))
noncomputable def K20 := qd0 K19 55 (qbx 55)
theorem ok20 : KnOk Try.prog E0 K20 := ok19.add (copyCheck_well build55)
noncomputable def K21 := qd0 K20 29 (qeo 5)
theorem ok21 : KnOk Try.prog E0 K21 := ok20.add (string_well string29)
noncomputable def K22 := qd0 K21 81 kfCube
theorem ok22 : KnOk Try.prog E0 K22 := ok21.add cube_well
noncomputable def K23 := qd0 K22 82 kfSquare
theorem ok23 : KnOk Try.prog E0 K23 := ok22.add square_well
noncomputable def K24 := qd0 K23 52 kfConst
theorem ok24 : KnOk Try.prog E0 K24 := ok23.add (const_well ok23 rfl rfl rfl)
noncomputable def KD := qd0 K24 10 kfTrue
theorem okD : KnOk Try.prog E0 KD := ok24.add kn10
theorem rd8 {n : Nat} {args : List V} {s : St} {r : En × St} (e : qbu E0 (ev E0 KD n) qa1 Try.f8 B8 args s = some r) : (ev E0 KD (n + 1)).f 8 args s = some r := qar (c := C8) (d := B8) (by kernel_rfl) (by kernel_rfl) (qa3 C8 _ (by kernel_rfl)) rfl e
theorem rd14 {n : Nat} {args : List V} {s : St} {r : En × St} (e : qbu E0 (ev E0 KD n) qa1 Try.f14 B14 args s = some r) : (ev E0 KD (n + 1)).f 14 args s = some r := qar (c := C14) (d := B14) (by kernel_rfl) (by kernel_rfl) (qa3 C14 _ (by kernel_rfl)) rfl e
theorem rd15 {n : Nat} {args : List V} {s : St} {r : En × St} (e : qbu E0 (ev E0 KD n) qa1 Try.f15 B15 args s = some r) : (ev E0 KD (n + 1)).f 15 args s = some r := qar (c := C15) (d := B15) (by kernel_rfl) (by kernel_rfl) (qa3 C15 _ (by kernel_rfl)) rfl e
theorem rd16 {n : Nat} {args : List V} {s : St} {r : En × St} (e : qbu E0 (ev E0 KD n) qa1 Try.f16 B16 args s = some r) : (ev E0 KD (n + 1)).f 16 args s = some r := qar (c := C16) (d := B16) (by kernel_rfl) (by kernel_rfl) (qa3 C16 _ (by kernel_rfl)) rfl e
theorem rd30 {n : Nat} {args : List V} {s : St} {r : En × St} (e : qbu E0 (ev E0 KD n) qa1 Try.f30 B30 args s = some r) : (ev E0 KD (n + 1)).f 30 args s = some r := qar (c := C30) (d := B30) (by kernel_rfl) (by kernel_rfl) (qa3 C30 _ (by kernel_rfl)) rfl e
theorem rd31 {n : Nat} {args : List V} {s : St} {r : En × St} (e : qbu E0 (ev E0 KD n) qa1 Try.f31 B31 args s = some r) : (ev E0 KD (n + 1)).f 31 args s = some r := qar (c := C31) (d := B31) (by kernel_rfl) (by kernel_rfl) (qa3 C31 _ (by kernel_rfl)) rfl e
theorem rd32 {n : Nat} {args : List V} {s : St} {r : En × St} (e : qbu E0 (ev E0 KD n) qa1 Try.f32 B32 args s = some r) : (ev E0 KD (n + 1)).f 32 args s = some r := qar (c := C32) (d := B32) (by kernel_rfl) (by kernel_rfl) (qa3 C32 _ (by kernel_rfl)) rfl e
theorem rd33 {n : Nat} {args : List V} {s : St} {r : En × St} (e : qbu E0 (ev E0 KD n) qa1 Try.f33 B33 args s = some r) : (ev E0 KD (n + 1)).f 33 args s = some r := qar (c := C33) (d := B33) (by kernel_rfl) (by kernel_rfl) (qa3 C33 _ (by kernel_rfl)) rfl e
theorem rd56 {n : Nat} {args : List V} {s : St} {r : En × St} (e : qbu E0 (ev E0 KD n) qa1 Try.f56 B56 args s = some r) : (ev E0 KD (n + 1)).f 56 args s = some r := qar (c := C56) (d := B56) (by kernel_rfl) (by kernel_rfl) (qa3 C56 _ (by kernel_rfl)) rfl e
theorem rd57 {n : Nat} {args : List V} {s : St} {r : En × St} (e : qbu E0 (ev E0 KD n) qa1 Try.f57 B57 args s = some r) : (ev E0 KD (n + 1)).f 57 args s = some r := qar (c := C57) (d := B57) (by kernel_rfl) (by kernel_rfl) (qa3 C57 _ (by kernel_rfl)) rfl e
theorem rd61 {n : Nat} {args : List V} {s : St} {r : En × St} (e : qbu E0 (ev E0 KD n) qa1 Try.f61 B61 args s = some r) : (ev E0 KD (n + 1)).f 61 args s = some r := qar (c := C61) (d := B61) (by kernel_rfl) (by kernel_rfl) (qa3 C61 _ (by kernel_rfl)) rfl e
section
variable {S T U : St}
def ltrs : Bs := [48, 49, 50, 51, 52, 53, 54, 55, 56, 57, 97, 98, 99, 100, 102, 103, 104, 105, 106, 107, 108, 109, 110, 112, 113, 114, 115, 118, 119, 120, 121, 122]
theorem ltrs_len : ltrs.length = 32 := rfl
def isH (h : Bs) : Bool := decide (h.length = 32) && h.all fun c => ltrs.contains c
theorem qj8 {h : Bs} (e : isH h = true) : h.length = 32 := of_decide_eq_true (Bool.and_eq_true_iff.1 e).1
theorem qc9 (l : Bs) : qd1 (sv l) S = some (.int .i64 (l.length : Int), S) := lnStr_sv l
theorem und82 : und E0 82 = some (.map 5 3) := by kernel_rfl
theorem lssN (a b : Nat) : qa4 E0 .lss 3 false false (.int .i64 (a : Int)) (.int .i64 (b : Int)) = some (.bool (decide (a < b))) := by
 rw [binV_ii, intsV_lss]
 congr 2
 simp
theorem qgp {i : Nat} (h : i < 9223372036854775807) : qa4 E0 .add 3 false true (.int .i64 (i : Int)) (.int .i64 1) = some (.int .i64 ((i + 1 : Nat) : Int)) := by
 rw [binV_ii, intsV_add, qbt h]
theorem look_u8t (ho : S.on = false) {t et : TypeId} {z : V} (ht : und E0 t = some (.map 5 et)) (hz : qh5 E0 et = some z) {r : Nat} {kv : List (Int × V)} (h : MapAt S r (kvB kv)) (a : Int) :
 qch E0 t (.map r) (.int .u8 a) true S = some (.tuple [(lkI a kv).getD z, .bool (lkI a kv).isSome], S) := by
 obtain ⟨es, c, h1, h2, _⟩ := h;unfold qch;rw [ht, oB];simp only;rw [und5, oB];simp only [qhl, cT];have hg := qk1 ho h1 none;rw [show stt S none = S from rfl] at hg;rw [hg, oB];simp only;rw [oB];dsimp only;rw [mfind_u8 a kv es 0 h2, oB];cases lkI a kv with
 | none => simp only [Option.map_none]; rw [hz]; rfl
 | some v => rfl
theorem lkI_setI (i : Int) (w : V) (j : Int) : ∀ kv, lkI j (setKI i w kv) = if j = i then some w else lkI j kv
 | [] => by show (if j = i then some w else none) = _; rfl
 | p :: kv => by
  unfold setKI;by_cases hc : i = p.1
  . rw [iP hc]
    show (if j = i then some w else lkI j kv) = if j = i then some w else if j = p.1 then some p.2 else lkI j kv
    by_cases hj : j = i
    . rw [iP hj, iP hj]
    . rw [iN hj, iN hj, iN (fun e => hj (e.trans hc.symm))]
  . rw [iN hc]
    show (if j = p.1 then some p.2 else lkI j (setKI i w kv)) = if j = i then some w else if j = p.1 then some p.2 else lkI j kv
    rw [lkI_setI i w j kv];by_cases hj : j = p.1
    . rw [iP hj, iP hj, iN (fun e => hc (e.symm.trans hj))]
    . rw [iN hj, iN hj]
def Keys (S : St) (r : Nat) (l : Bs) : Prop := r < S.next/\∃ kv, MapAt S r (kvB kv)/\∀ a : UInt8, (lkI (a.toNat : Int) kv).isSome = l.contains a
theorem Keys.put {r : Nat} {l : Bs} (h : Keys S r l) (ho : S.on = false) (c : UInt8) (v : V) : ∃ U, vu (qbp E0 82 (.map r) (.int .u8 (c.toNat : Int)) v S) = some (.tuple [], U)/\Keys U r (l ++ [c])/\Grew (fun x => x = r) S U := by
 obtain ⟨h1, kv, h2, h3⟩ := h;obtain ⟨es, k, k1, k2⟩ := upd_u8 ho und82 h2 (c.toNat : Int) v;have hu := k2 none;refine ⟨S.put r (.map es k), ?_, ⟨h1, setKI (c.toNat : Int) v kv, ⟨es, k, by rw [qby, iP rfl], k1⟩, fun a => ?_⟩, qb2 _ _⟩
 . rw [show qbp E0 82 (.map r) (.int .u8 (c.toNat : Int)) v S = _ from hu]; rfl
 . rw [lkI_setI]
   by_cases e : a = c
   . subst e; simp
   . have : ¬ ((a.toNat : Int) = (c.toNat : Int)) := fun q => e (UInt8.toNat_inj.1 (Int.ofNat_inj.1 q))
     rw [iN this, h3 a];simp [List.contains_iff_mem, e]
theorem L56_spec {self : EV} {N : Nat} (nk : Ac->St->Rs) (ek : Nat->Ac->St->Rs) {r : Nat} : ∀ (k i n : Nat) (S : St), S.on = false->i + k = 32->k < n->Keys S r (ltrs.take i) ->
 ∃ U, L56_7 self N nk ek n (.map r) (.int .i64 (i : Int)) S = ek 0 (fr 13 [(1, .map r)]) U/\Keys U r ltrs/\Grew (fun x => x = r) S U
 | _, _, 0, _, _, _, hn, _ => by omega
 | 0, i, n + 1, S, ho, hi, _, hK => by
  refine ⟨S, ?_, ?_, Grew.refl _ _⟩
  . rw [L56_7_eq, show V.int .i64 32 = .int .i64 ((32 : Nat) : Int) from rfl, binV_ii, intsV_lss, qgx (by omega), oB, ifK_bool, cF]
  . rwa [List.take_of_length_le (by rw [ltrs_len]; omega)] at hK
 | k + 1, i, n + 1, S, ho, hi, hn, hK => by
  have hl : i < ltrs.length := by rw [ltrs_len]; omega
  obtain ⟨U1, a1, a2, a3⟩ := hK.put ho ltrs[i] (.int .i64 (i : Int));rw [<- take_push hl] at a2;obtain ⟨U, b1, b2, b3⟩ := L56_spec (self := self) (N := N) nk ek k (i + 1) n U1 (a3.on.trans ho) (by omega) (by omega) a2;refine ⟨U, ?_, b2, a3.trans b3⟩;rw [L56_7_eq, show V.int .i64 32 = .int .i64 ((32 : Nat) : Int) from rfl, binV_ii, intsV_lss, qfz (by omega), oB, ifK_bool, cT];have hx : ixS (sv [48, 49, 50, 51, 52, 53, 54, 55, 56, 57, 97, 98, 99, 100, 102, 103, 104, 105, 106, 107, 108, 109, 110, 112, 113, 114, 115, 118, 119, 120, 121, 122]) (.int .i64 (i : Int)) = some (.int .u8 (ltrs[i].toNat : Int)) := qh0 ltrs .i64 i hl;rw [hx, oB, a1, oB];dsimp only;rw [qgp (by omega), oB, b1]
theorem f56_run (m : Nat) (S : St) (ho : S.on = false) : ∃ U r, (ev E0 KD (m + 1)).f 56 [] S = some (.ret (.map r), U)/\Keys U r ltrs/\S.next<=r/\Grew (fun _ => False) S U := by
 have g1 : Grew (fun _ => False) S (nw S (.map [] 0)) := qbe ho _ _;have k1 : Keys (nw S (.map [] 0)) S.next (ltrs.take 0) := ⟨by show S.next < S.next + 1; omega, [], ⟨[], 0, by rw [qdt, iP rfl], MapOk.new⟩, fun _ => rfl⟩
 obtain ⟨U, b1, b2, b3⟩ := L56_spec (self := ev E0 KD m) (N := qa1) (R56_3 (ev E0 KD m) qa1 (qak E0 (ev E0 KD m) Try.f56) qa9) (exB 0 (R56_3 (ev E0 KD m) qa1 (qak E0 (ev E0 KD m) Try.f56) qa9) qa9) 32 0 qa1 _ (g1.on.trans ho) rfl (by unfold qa1; omega) k1;refine ⟨U, S.next, rd56 ?_, b2, lR _, Grew.fresh g1 (lR _) (b3.mono fun x _ hx => by omega)⟩;show F56 (ev E0 KD m) qa1 S = _;rw [F56_eq, show qfh E0 82 none S = some (.map S.next, nw S (.map [] 0)) from rfl, oB];dsimp only;rw [show V.int .i64 0 = .int .i64 ((0 : Nat) : Int) from rfl, b1, exB_same, R56_3_eq]
theorem L30_spec {self : EV} {N : Nat} (nk : Ac->St->Rs) (ek : Nat->Ac->St->Rs) {r : Nat} (h : Bs) (hh : h.length < 9223372036854775808) (hK : Keys S r ltrs) (ho : S.on = false) : ∀ (q : Bs) (i n : Nat), h.drop i = q->q.length < n ->
 L30_11 self N nk ek n (sv h) (.map r) (.int .i64 (h.length : Int)) (.int .i64 (i : Int)) S = if q.all (fun c => ltrs.contains c) then ek 0 (fr 27 [(0, sv h)]) S else some (.ret (.bool false), S)
 | _, _, 0, _, hn => by omega
 | [], i, n + 1, hi, _ => by
  rw [L30_11_eq, lssN, dF (Nat.not_lt.2 (qbm hi)), oB, ifK_bool, cF];rfl
 | c :: q, i, n + 1, hi, hn => by
  obtain ⟨hlt, hc, hr, _⟩ := qcn hi;have ih := L30_spec (self := self) (N := N) nk ek h hh hK ho q (i + 1) n hr (by simpa using hn);obtain ⟨h1, kv, h2, h3⟩ := hK;rw [L30_11_eq, lssN, dT hlt, oB, ifK_bool, cT, qh0 h .i64 i hlt, oB, look_u8t ho und82 zero3 h2, oB];dsimp only;rw [hc, h3 c];rw [show ∀ a b, qac (.tuple [a, b]) 0 = some a from fun _ _ => rfl, oB, show ∀ a b, qac (.tuple [a, b]) 1 = some b from fun _ _ => rfl, oB, unV_not, oB, ifK_bool, List.all_cons];cases ltrs.contains c with
  | false => rfl
  | true =>
   rw [Bool.not_true, cF, qgp (by omega), oB, ih, Bool.true_and]
theorem f30_run (m : Nat) (S : St) (ho : S.on = false) (h : Bs) (hh : h.length < 9223372036854775808) : ∃ U, (ev E0 KD (m + 2)).f 30 [sv h] S = some (.ret (.bool (isH h)), U)/\Grew (fun _ => False) S U := by
 obtain ⟨U, r, a1, a2, a3, a4⟩ := f56_run m S ho;refine ⟨U, rd30 ?_, a4⟩;show F30 (ev E0 KD (m + 1)) qa1 (sv h) S = _;rw [F30_eq, a1, callP_ret, qc9, oB];dsimp only;rw [show V.int .i64 0 = .int .i64 ((0 : Nat) : Int) from rfl, L30_spec _ _ h (by omega) a2 (a4.on.trans ho) h 0 qa1 rfl (by unfold qa1; omega)];unfold isH;cases hb : h.all (fun c => ltrs.contains c) with
 | false => rw [iN (by simp), Bool.and_false]
 | true =>
  rw [iP rfl, exB_same, R30_3_eq, qc9, oB];dsimp only;rw [show V.int .i64 32 = .int .i64 ((32 : Nat) : Int) from rfl, binV_ii, intsV_eql, oB, Bool.and_true]
  congr 5
  simp;omega
end
def numb : Nat->List V->List (Nat × V)
 | _, [] => []
 | i, v :: l => (i, v) :: numb (i + 1) l
theorem fillE_numb (n : Nat) : ∀ (vs : List V) (i : Nat) (c : Tr (Tr V)), (∀ v ∈ vs, OneV v)->i + vs.length<=n->∃ c', qe7 n 1 c (numb i vs) = some c'/\∀ j, (∀ v, i<=j->vs[j - i]? = some v->c'.get j = some (Ev.one v))/\(j < i->c'.get j = c.get j)
 | [], i, c, _, _ => ⟨c, rfl, fun j => ⟨fun v _ h => by simp at h, fun _ => rfl⟩⟩
 | v :: vs, i, c, hv, hn => by
  have h1 := hv v (List.mem_cons_self ..);rw [List.length_cons] at hn;obtain ⟨c', h2, h3⟩ := fillE_numb n vs (i + 1) (c.set (Ev.one v) i) (fun w hw => hv w (mO _ hw)) (by omega);refine ⟨c', ?_, fun j => ⟨fun w hj hw => ?_, fun hj => ?_⟩⟩
  . show qe7 n 1 c ((i, v) :: numb (i + 1) vs) = _
    unfold qe7;rw [h1.size, h1.tup, h1.cells, show Nat.blt i n = true from blt_true.2 (by omega)];simp only [Nat.beq_refl, nF, Bool.and_self, cT, Tr.setC_eq];exact h2
  . by_cases e : j = i
    . subst e
      rw [Nat.sub_self] at hw;simp only [List.getElem?_cons_zero, oS] at hw;rw [(h3 j).2 (by omega), Tr.get_set, iP rfl, hw]
    . refine (h3 j).1 w (by omega) ?_
      rw [show j - i = (j - (i + 1)) + 1 by omega, List.getElem?_cons_succ] at hw;exact hw
  . rw [(h3 j).2 (by omega), Tr.get_set, iN (by omega)]
section
variable {S : St}
theorem qme (ho : S.on = false) (e : Nat) (z : Tr V) (vs : List V) (hv : ∀ v ∈ vs, OneV v) (hf : vs.length < big) : ∃ U, (∀ m, bsP e 1 vs.length z (numb 0 vs) (stt S m) = some (.slice S.next 0 vs.length vs.length, stt U (m.map fun l => ⟨S.next, 0, big, true⟩ :: l)))/\RowAt U S.next e 1 (vs.map Ev.one)/\Grew (fun _ => False) S U/\U.next = S.next + 1 := by
 obtain ⟨c, h1, h2⟩ := fillE_numb vs.length vs 0 (Tr.tab vs.length vs.length fun _ => z) hv (by omega);refine ⟨nw S (.cells e 1 vs.length false c), fun m => ?_, ?_, qbe ho _ _, rfl⟩
 . unfold bsP
   rw [h1, oB];cases m with
   | none => rfl
   | some l =>
    show some (V.slice S.next 0 vs.length vs.length, nw (S.lg l) _) = _;rw [nw_lg ho]; rfl
 . refine qdv ho (by omega) (by rw [lM]) (by omega) fun i t h => ?_
   rw [List.getElem?_map] at h;cases hg : vs[i]? with
   | none => rw [hg] at h; cases h
   | some v =>
    rw [hg] at h;simp only [Option.map_some, oS] at h;rw [<- h];exact (h2 i).1 v (Nat.zero_le _) hg
variable {T U : St}
theorem qnd (c d : Bool) {a b : Bs} (h : a.length + b.length < 4611686018427387904) : qa4 E0 .add 9 c d (sv a) (sv b) = some (sv (a ++ b)) := by
 rw [binV_ss, strOp_add _ _ h]
theorem body57 : E0.ext.get 57 = none/\qb9 E0 57 = true := ⟨by kernel_rfl, by kernel_rfl⟩
theorem f57_run (m : Nat) (S : St) : (ev E0 KD (m + 1)).f 57 [.int .u8 120] S = some (.ret (.bool true), S) := rd57 (by
 show F57 (ev E0 KD m) qa1 (.int .u8 120) S = _;rw [F57_eq]
 kernel_rfl)
theorem f61_run (ho : S.on = false) (m : Nat) {r c : Nat} {l : List (Tr V)} (h : RowAt S r 85 1 l) (h0 : l[0]? = some (Ev.one (.fn (.func 57) [] []))) : (ev E0 KD (m + 2)).f 61 [.int .u8 120, .slice r 0 4 c] S = some (.ret (.bool true), S) := rd61 (by
 show F61 (ev E0 KD (m + 1)) qa1 (.int .u8 120) (.slice r 0 4 c) S = _;obtain ⟨n, hn⟩ : ∃ n, qa1 = n + 1 := ⟨qa1 - 1, by unfold qa1; omega⟩
 rw [F61_eq, qk6 (n := 4) (fun _ _ e => by cases e) rfl, oB];dsimp only;rw [hn, L61_6_eq, show V.int .i64 0 = .int .i64 ((0 : Nat) : Int) from rfl, lssN, dT (by omega), oB, ifK_bool, cT, show ixP 1 (.slice r 0 4 c) (.int .i64 ((0 : Nat) : Int)) = some (.ptr r 0) from rfl, oB, show ld1 (.ptr r 0) S = some (_, S) from h.ld1 ho h0, oB];dsimp only;rw [qdm body57.1 body57.2];show qax ((ev E0 KD (m + 1)).f 57 [.int .u8 120] S) _ = _
 rw [f57_run, callP_ret, ifK_bool, cT])
theorem f31_run (ho : S.on = false) (m : Nat) : ∃ U, (ev E0 KD (m + 3)).f 31 [sv [120]] S = some (.ret (.int .i64 0), U)/\Grew (fun _ => False) S U := by
 obtain ⟨U, a1, a2, a3, a4⟩ := qme ho 85 (Ev.one .nilfn) [.fn (.func 57) [] [], .fn (.func 58) [] [], .fn (.func 59) [] [], .fn (.func 60) [] []] (fun v hv => by
  simp only [List.mem_cons, List.not_mem_nil, or_false] at hv
  rcases hv with rfl | rfl | rfl | rfl <;> exact ⟨rfl, rfl, rfl, rfl⟩) (by show 4 < big; unfold big; decide)
 have a1' : bsP 85 1 4 (Ev.one .nilfn) [(0, .fn (.func 57) [] []), (1, .fn (.func 58) [] []), (2, .fn (.func 59) [] []), (3, .fn (.func 60) [] [])] S = some (.slice S.next 0 4 4, U) := a1 none;refine ⟨U, rd31 ?_, a3⟩;obtain ⟨n, hn⟩ : ∃ n, qa1 = n + 2 := ⟨qa1 - 2, by unfold qa1; omega⟩
 show F31 (ev E0 KD (m + 2)) qa1 (sv [120]) S = _;rw [F31_eq, qc9, oB];dsimp only;rw [show qa4 E0 .gtr 3 false true (.int .i64 (([120] : Bs).length : Int)) (.int .i64 20) = some (.bool false) from rfl, oB, ifK_bool, cF, qc9, oB];dsimp only;rw [hn, L31_22_eq, show V.int .i64 0 = .int .i64 ((0 : Nat) : Int) from rfl, lssN, dT (by decide), oB, ifK_bool, cT, show ixS (sv [120]) (.int .i64 ((0 : Nat) : Int)) = some (.int .u8 120) from rfl, oB, a1', oB];dsimp only;rw [f61_run (a3.on.trans ho) m a2 rfl, callP_ret, unV_not, oB, ifK_bool, Bool.not_true, cF, qgp (by decide), oB, L31_22_eq, lssN, dF (by decide), oB, ifK_bool, cF, exB_same, R31_9_eq]
 kernel_rfl
theorem f14_run (ho : S.on = false) (m : Nat) (h : Bs) (hh : h.length < 9223372036854775808) : ∃ U, (ev E0 KD (m + 4)).f 14 [sv h, sv [120]] S = some (.ret (.tuple (if isH h then [sv (h ++ [45] ++ [120]), .int .i64 0] else [sv [], .int .i64 2])), U)/\Grew (fun _ => False) S U := by
 obtain ⟨U1, a1, a2⟩ := f30_run (m + 1) S ho h hh;cases hi : isH h with
 | false =>
  refine ⟨U1, rd14 ?_, a2⟩;show F14 (ev E0 KD (m + 3)) qa1 (sv h) (sv [120]) S = _;rw [F14_eq, a1, callP_ret, unV_not, oB, ifK_bool, hi, nF, cT];rfl
 | true =>
  have h32 := qj8 hi;obtain ⟨U2, b1, b2⟩ := f31_run (a2.on.trans ho) m;refine ⟨U2, rd14 ?_, a2.trans b2⟩;show F14 (ev E0 KD (m + 3)) qa1 (sv h) (sv [120]) S = _;rw [F14_eq, a1, callP_ret, unV_not, oB, ifK_bool, hi, Bool.not_true, cF, b1, callP_ret, show qa4 E0 .neq 32 false true (.int .i64 0) (.int .i64 0) = some (.bool false) from by kernel_rfl, oB, ifK_bool, cF, qnd _ _ (by show h.length + 1 < _; omega), oB, qnd _ _ (by rw [lA]; show h.length + 1 + 1 < _; omega), oB, iP rfl]
end
theorem lgD : Lg.KnLoc KD :=
 (((((((((((((((((((((((((Lg.knLoc_nil).add 75 fun _ => Lg.specKF_lg _).add 73 fun _ => Lg.specKF_lg _).add 42 fun _ => Lg.specKF_lg _).add 36 fun _ => Lg.specKF_lg _).add 24 fun _ => Lg.specKF_lg _).add 51 fun _ => Lg.specKF_lg _).add 26 fun _ => Lg.specKF_lg _).add 38 fun _ => Lg.specKF_lg _).add 74 fun _ => Lg.specKF_lg _).add 37 fun _ => Lg.specKF_lg _).add 47 fun _ => Lg.specKF_lg _).add 99 fun _ => Lg.specKF_lg _).add 79 fun _ => Lg.specKF_lg _).add 50 fun _ => Lg.specKF_lg _).add 25 fun _ => Lg.specKF_lg _).add 11 fun _ => kfNodeT_lg _ _ _).add 18 fun _ => Lg.specKF_lg _).add 6 fun _ => Lg.specKF_lg _).add 17 fun _ => kfSort_lg _).add 55 fun _ => kfCopyCheck_lg _ _).add 29 fun _ => kfString_lg _ _).add 81 fun _ => kfCube_lg _).add 82 fun _ => kfSquare_lg _).add 52 fun _ => Lg.specKF_lg _).add 10 fun _ => Lg.specKF_lg _
section
end
section
variable {S T U : St}
def wins : Bs->List Bs
 | [] => []
 | c :: w => if 32<=(c :: w).length then (c :: w).take 32 :: wins w else []
theorem wins_lt {w : Bs} (h : w.length < 32) : wins w = [] := by
 cases w with
 | nil => rfl
 | cons c w => rw [wins, iN (by omega)]
theorem wins_at {w : Bs} {i : Nat} (h : i + 32<=w.length) : wins (w.drop i) = (w.drop i).take 32 :: wins (w.drop (i + 1)) := by
 have hlt : i < w.length := by omega
 rw [List.drop_eq_getElem_cons hlt, wins, iP (by rw [List.length_cons, List.length_drop]; omega)]
mutual
def qej : Nd->List Bs
 | .mk _ _ _ d l => wins d ++ qgt l
def qgt : List Nd->List Bs
 | [] => []
 | x :: l => qej x ++ qgt l
end
theorem qgu (x : Nd) : qej x = wins x.data ++ qgt x.kids := by cases x; rw [qej]; rfl
theorem addN (c d : Bool) {a b : Nat} (h : a + b < 4611686018427387904) : qa4 E0 .add 3 c d (.int .i64 (a : Int)) (.int .i64 (b : Int)) = some (.int .i64 ((a + b : Nat) : Int)) := by
 rw [binV_ii, intsV_add, show ((a : Int) + (b : Int)) = ((a + b : Nat) : Int) by omega, qb8 (by omega) (by omega)]
theorem leqN (c d : Bool) (a b : Nat) : qa4 E0 .leq 3 c d (.int .i64 (a : Int)) (.int .i64 (b : Int)) = some (.bool (decide (a<=b))) := by
 rw [binV_ii, intsV_leq]
 congr 2
 simp
theorem win_sv (w : Bs) {i : Nat} (h : i + 32<=w.length) (S : St) : qbl E0 9 (sv w) (some (.int .i64 (i : Int))) (some (.int .i64 ((i + 32 : Nat) : Int))) none S = some (sv ((w.drop i).take 32), S) := by
 rw [qko und9' w (qnn .i64 .i64 (Nat.le_add_right ..) h) h, show i + 32 - i = 32 by omega]
end
end Go.Proofs.Ytmeohejdafbodaa.W
