/-
  WHAT THE FUNCTIONS COME TO: each is read by the evaluator, printed, and told as a function of data, part 2 of 6 (no condition).
-/
import Derived.Test.YtbfdabjcgcbimaaRW1
import Derived.Test.YtbfdabjcgcbimaaRProg
import Derived.KernelRfl
namespace Go.Proofs.YtbfdabjcgcbimaaR.W
open Go.Proofs.YtbfdabjcgcbimaaR.Ev
set_option maxRecDepth 100000
noncomputable section
noncomputable def C39 : Code := Try.f39.body.getD .skip
noncomputable def B39 : D := (annot C39 [[], [], [], [], [], [], [], [], []]).1
noncomputable def F39 (self : EV) (N : Nat) (x0 x1 x2 : V) (S : St) : Rs := runF E0 self N Try.f39 B39 [x0, x1, x2] S
theorem F39_eq (self : EV) (N : Nat) (x0 x1 x2 : V) (S : St) : F39 self N x0 x1 x2 S =
(boxK 23 x0 S).bind fun p0 =>
(boxK 3 x1 p0.2).bind fun p1 =>
(boxK 9 x2 p1.2).bind fun p2 =>
(ld1 p0.1 p2.2).bind fun p4 =>
(ld1 p1.1 p4.2).bind fun p5 =>
callP (self.f 42 [p4.1, p5.1] p5.2) fun t6 S6 =>
(binV E0 .neq 31 false true t6 (.int .i64 0)).bind fun t9 =>
ifK t9 (
some (.ret t6, S6)) (
(ld1 p2.1 S6).bind fun p12 =>
(lnStr p12.1 p12.2).bind fun p13 =>
(binV E0 .gtr 3 false true p13.1 (.int .i64 128)).bind fun t14 =>
ifK t14 (
some (.ret (.int .i64 3), p13.2)) (
(ld1 p0.1 p13.2).bind fun p16 =>
callP (self.f 40 [p16.1, (.fn (.func 48) [] [p1.1, p2.1, p0.1])] p16.2) fun t18 S18 =>
some (.ret t18, S18))) := by kernel_rfl
noncomputable def C40 : Code := Try.f40.body.getD .skip
noncomputable def B40 : D := (annot C40 [[], [], [], [], [], [], []]).1
noncomputable def F40 (self : EV) (N : Nat) (x0 x1 : V) (S : St) : Rs := runF E0 self N Try.f40 B40 [x0, x1] S
theorem F40_eq (self : EV) (N : Nat) (x0 x1 : V) (S : St) : F40 self N x0 x1 S =
(boxK 23 x0 S).bind fun p0 =>
callP (callK E0 self (.fn (.func 49) [] [p0.1]) [] p0.2) fun t5 S5 =>
(unV .not t5).bind fun t6 =>
ifK t6 (
some (.ret (.int .i64 11), S5)) (
callP (callK E0 self x1 [] S5) fun t9 S9 =>
some (.ret (.int .i64 0), S9)) := by kernel_rfl
noncomputable def C42 : Code := Try.f42.body.getD .skip
noncomputable def B42 : D := (annot C42 [[], [], [], [], [], [], []]).1
noncomputable def F42 (self : EV) (N : Nat) (x0 x1 : V) (S : St) : Rs := runF E0 self N Try.f42 B42 [x0, x1] S
theorem F42_eq (self : EV) (N : Nat) (x0 x1 : V) (S : St) : F42 self N x0 x1 S =
(binV E0 .eql 23 false true x0 .nilptr).bind fun t2 =>
ifK t2 (
some (.ret (.int .i64 1), S)) (
(binV E0 .lss 3 false true x1 (.int .i64 0)).bind fun t6 =>
(guardV false t6).bind fun g8 => (bif g8 then some x1 else some (.tuple [])).bind fun t8 =>
(guardV false t6).bind fun g9 => (bif g9 then some x0 else some (.tuple [])).bind fun t9 =>
(guardV false t6).bind fun g10 => (bif g10 then nilCheckV t9 else some (.tuple [])).bind fun t10 =>
(guardV false t6).bind fun g11 => (bif g11 then faP 0 false 1 t10 else some (.tuple [])).bind fun t11 =>
(guardV false t6).bind fun g12 => (bif g12 then ld1 t11 S else some (.tuple [], S)).bind fun p12 =>
(guardV false t6).bind fun g13 => (bif g13 then lnS p12.1 p12.2 else some (.tuple [], p12.2)).bind fun p13 =>
(guardV false t6).bind fun g14 => (bif g14 then binV E0 .geq 3 false false t8 p13.1 else some (.tuple [])).bind fun t14 =>
(pickV t6 (some (.bool true)) (some t14)).bind fun t15 =>
ifK t15 (
some (.ret (.int .i64 2), p13.2)) (
some (.ret (.int .i64 0), p13.2))) := by kernel_rfl
noncomputable def C48 : Code := Try.f48.body.getD .skip
noncomputable def B48 : D := (annot C48 [[], []]).1
noncomputable def F48 (self : EV) (N : Nat) (x0 x1 x2 : V) (S : St) : Rs := runF E0 self N Try.f48 B48 [x0, x1, x2] S
theorem F48_eq (self : EV) (N : Nat) (x0 x1 x2 : V) (S : St) : F48 self N x0 x1 x2 S =
(ld1 x0 S).bind fun p0 =>
(buildV E0 82 [(0, p0.1)]).bind fun t1 =>
(some (nwP 82 129 (Tr.ofListFrom .nil [(.int .i64 0), (.int .u8 0), (.int .u8 0), (.int .u8 0), (.int .u8 0), (.int .u8 0), (.int .u8 0), (.int .u8 0), (.int .u8 0), (.int .u8 0), (.int .u8 0), (.int .u8 0), (.int .u8 0), (.int .u8 0), (.int .u8 0), (.int .u8 0), (.int .u8 0), (.int .u8 0), (.int .u8 0), (.int .u8 0), (.int .u8 0), (.int .u8 0), (.int .u8 0), (.int .u8 0), (.int .u8 0), (.int .u8 0), (.int .u8 0), (.int .u8 0), (.int .u8 0), (.int .u8 0), (.int .u8 0), (.int .u8 0), (.int .u8 0), (.int .u8 0), (.int .u8 0), (.int .u8 0), (.int .u8 0), (.int .u8 0), (.int .u8 0), (.int .u8 0), (.int .u8 0), (.int .u8 0), (.int .u8 0), (.int .u8 0), (.int .u8 0), (.int .u8 0), (.int .u8 0), (.int .u8 0), (.int .u8 0), (.int .u8 0), (.int .u8 0), (.int .u8 0), (.int .u8 0), (.int .u8 0), (.int .u8 0), (.int .u8 0), (.int .u8 0), (.int .u8 0), (.int .u8 0), (.int .u8 0), (.int .u8 0), (.int .u8 0), (.int .u8 0), (.int .u8 0), (.int .u8 0), (.int .u8 0), (.int .u8 0), (.int .u8 0), (.int .u8 0), (.int .u8 0), (.int .u8 0), (.int .u8 0), (.int .u8 0), (.int .u8 0), (.int .u8 0), (.int .u8 0), (.int .u8 0), (.int .u8 0), (.int .u8 0), (.int .u8 0), (.int .u8 0), (.int .u8 0), (.int .u8 0), (.int .u8 0), (.int .u8 0), (.int .u8 0), (.int .u8 0), (.int .u8 0), (.int .u8 0), (.int .u8 0), (.int .u8 0), (.int .u8 0), (.int .u8 0), (.int .u8 0), (.int .u8 0), (.int .u8 0), (.int .u8 0), (.int .u8 0), (.int .u8 0), (.int .u8 0), (.int .u8 0), (.int .u8 0), (.int .u8 0), (.int .u8 0), (.int .u8 0), (.int .u8 0), (.int .u8 0), (.int .u8 0), (.int .u8 0), (.int .u8 0), (.int .u8 0), (.int .u8 0), (.int .u8 0), (.int .u8 0), (.int .u8 0), (.int .u8 0), (.int .u8 0), (.int .u8 0), (.int .u8 0), (.int .u8 0), (.int .u8 0), (.int .u8 0), (.int .u8 0), (.int .u8 0), (.int .u8 0), (.int .u8 0), (.int .u8 0), (.int .u8 0), (.int .u8 0)] 0) p0.2)).bind fun p2 =>
(stP 129 p2.1 t1 p2.2).bind fun p3 =>
(faP 1 true 128 p2.1).bind fun t4 =>
(sliceV E0 80 t4 none none none (onS p3.2)).bind fun p5 =>
(ld1 x1 (onS p5.2)).bind fun p6 =>
(cpP 1 p5.1 p6.1 (onS p6.2)).bind fun p7 =>
endP [(1, [2])] p3.2 [[], p5.2.log, p6.2.log, p7.2.log] p7.2 fun S8 =>
(ld1 x2 (onS S8)).bind fun p9 =>
(ld1 x2 (onS p9.2)).bind fun p10 =>
(nilCheckV p10.1).bind fun t11 =>
(faP 1 false 1 t11).bind fun t12 =>
(ld1 t12 (onS p10.2)).bind fun p13 =>
(ldA 129 p2.1 (onS p13.2)).bind fun p14 =>
(bsP 82 129 1 (Tr.ofListFrom .nil [(.int .i64 0), (.int .u8 0), (.int .u8 0), (.int .u8 0), (.int .u8 0), (.int .u8 0), (.int .u8 0), (.int .u8 0), (.int .u8 0), (.int .u8 0), (.int .u8 0), (.int .u8 0), (.int .u8 0), (.int .u8 0), (.int .u8 0), (.int .u8 0), (.int .u8 0), (.int .u8 0), (.int .u8 0), (.int .u8 0), (.int .u8 0), (.int .u8 0), (.int .u8 0), (.int .u8 0), (.int .u8 0), (.int .u8 0), (.int .u8 0), (.int .u8 0), (.int .u8 0), (.int .u8 0), (.int .u8 0), (.int .u8 0), (.int .u8 0), (.int .u8 0), (.int .u8 0), (.int .u8 0), (.int .u8 0), (.int .u8 0), (.int .u8 0), (.int .u8 0), (.int .u8 0), (.int .u8 0), (.int .u8 0), (.int .u8 0), (.int .u8 0), (.int .u8 0), (.int .u8 0), (.int .u8 0), (.int .u8 0), (.int .u8 0), (.int .u8 0), (.int .u8 0), (.int .u8 0), (.int .u8 0), (.int .u8 0), (.int .u8 0), (.int .u8 0), (.int .u8 0), (.int .u8 0), (.int .u8 0), (.int .u8 0), (.int .u8 0), (.int .u8 0), (.int .u8 0), (.int .u8 0), (.int .u8 0), (.int .u8 0), (.int .u8 0), (.int .u8 0), (.int .u8 0), (.int .u8 0), (.int .u8 0), (.int .u8 0), (.int .u8 0), (.int .u8 0), (.int .u8 0), (.int .u8 0), (.int .u8 0), (.int .u8 0), (.int .u8 0), (.int .u8 0), (.int .u8 0), (.int .u8 0), (.int .u8 0), (.int .u8 0), (.int .u8 0), (.int .u8 0), (.int .u8 0), (.int .u8 0), (.int .u8 0), (.int .u8 0), (.int .u8 0), (.int .u8 0), (.int .u8 0), (.int .u8 0), (.int .u8 0), (.int .u8 0), (.int .u8 0), (.int .u8 0), (.int .u8 0), (.int .u8 0), (.int .u8 0), (.int .u8 0), (.int .u8 0), (.int .u8 0), (.int .u8 0), (.int .u8 0), (.int .u8 0), (.int .u8 0), (.int .u8 0), (.int .u8 0), (.int .u8 0), (.int .u8 0), (.int .u8 0), (.int .u8 0), (.int .u8 0), (.int .u8 0), (.int .u8 0), (.int .u8 0), (.int .u8 0), (.int .u8 0), (.int .u8 0), (.int .u8 0), (.int .u8 0), (.int .u8 0), (.int .u8 0), (.int .u8 0), (.int .u8 0), (.int .u8 0)] 0) [(0, p14.1)] (onS p14.2)).bind fun p15 =>
(apP 82 129 136 p13.1 p15.1 (onS p15.2)).bind fun p16 =>
(nilCheckV p9.1).bind fun t17 =>
(faP 1 false 1 t17).bind fun t18 =>
(stP 1 t18 p16.1 (onS p16.2)).bind fun p19 =>
endP [(0, [1, 4, 5, 6, 7]), (1, [5, 6]), (4, [5, 6])] S8 [p9.2.log, p10.2.log, [], [], p13.2.log, p14.2.log, p15.2.log, p16.2.log, [], [], p19.2.log] p19.2 fun S20 =>
some (.ret (.tuple []), S20) := by kernel_rfl
noncomputable def C49 : Code := Try.f49.body.getD .skip
noncomputable def B49 : D := (annot C49 [[], [], [], [], [], [], [], [], []]).1
noncomputable def F49 (self : EV) (N : Nat) (x0 : V) (S : St) : Rs := runF E0 self N Try.f49 B49 [x0] S
theorem F49_eq (self : EV) (N : Nat) (x0 : V) (S : St) : F49 self N x0 S =
(ld1 x0 S).bind fun p1 =>
(nilCheckV p1.1).bind fun t2 =>
(faP 2 false 1 t2).bind fun t3 =>
(ld1 t3 p1.2).bind fun p4 =>
ifK p4.1 (
some (.ret (.bool false), p4.2)) (
(ld1 x0 p4.2).bind fun p6 =>
(nilCheckV p6.1).bind fun t7 =>
(faP 4 false 1 t7).bind fun t8 =>
(ld1 t8 p6.2).bind fun p9 =>
(binV E0 .add 42 false true p9.1 (.int .u64 1)).bind fun t10 =>
(nilCheckV p6.1).bind fun t11 =>
(faP 4 false 1 t11).bind fun t12 =>
(stP 1 t12 t10 p9.2).bind fun p13 =>
(ld1 x0 p13.2).bind fun p14 =>
(nilCheckV p14.1).bind fun t15 =>
(faP 3 false 1 t15).bind fun t16 =>
(ld1 t16 p14.2).bind fun p17 =>
(binV E0 .gtr 3 false true p17.1 (.int .i64 0)).bind fun t18 =>
ifK t18 (
(ld1 x0 p17.2).bind fun p19 =>
(nilCheckV p19.1).bind fun t20 =>
(faP 3 false 1 t20).bind fun t21 =>
(ld1 t21 p19.2).bind fun p22 =>
(binV E0 .sub 3 false true p22.1 (.int .i64 1)).bind fun t23 =>
(nilCheckV p19.1).bind fun t24 =>
(faP 3 false 1 t24).bind fun t25 =>
(stP 1 t25 t23 p22.2).bind fun p26 =>
(ld1 x0 (onS p26.2)).bind fun p27 =>
(ld1 x0 (onS p27.2)).bind fun p28 =>
(nilCheckV p28.1).bind fun t29 =>
(faP 3 false 1 t29).bind fun t30 =>
(ld1 t30 (onS p28.2)).bind fun p31 =>
(binV E0 .eql 3 false true p31.1 (.int .i64 0)).bind fun t32 =>
(nilCheckV p27.1).bind fun t33 =>
(faP 2 false 1 t33).bind fun t34 =>
(stP 1 t34 t32 (onS p31.2)).bind fun p35 =>
endP [(0, [1, 4])] p26.2 [p27.2.log, p28.2.log, [], [], p31.2.log, [], [], [], p35.2.log] p35.2 fun S36 =>
(ld1 x0 S36).bind fun p37 =>
(nilCheckV p37.1).bind fun t38 =>
(faP 2 false 1 t38).bind fun t39 =>
(ld1 t39 p37.2).bind fun p40 =>
(unV .not p40.1).bind fun t41 =>
some (.ret t41, p40.2)) (
(ld1 x0 p17.2).bind fun p43 =>
(nilCheckV p43.1).bind fun t44 =>
(faP 2 false 1 t44).bind fun t45 =>
(ld1 t45 p43.2).bind fun p46 =>
(unV .not p46.1).bind fun t47 =>
some (.ret t47, p46.2))) := by kernel_rfl
end
end Go.Proofs.YtbfdabjcgcbimaaR.W
namespace Go.Proofs.YtbfdabjcgcbimaaR.W
open Go.Proofs.YtbfdabjcgcbimaaR.Ev Go.RowKit
abbrev Bs := List UInt8
theorem E0_ok : EnvOk Try.prog E0 := envOf_ok (by kernel_rfl) (by kernel_rfl) (by kernel_rfl) (fun p hp => by
 simp at hp) (by kernel_rfl) (by kernel_rfl) (by kernel_rfl)
section
variable {s S T U X Y : St} {α : Type}
theorem und9 : und E0 9 = some .string := by kernel_rfl
theorem lnS_of {v : V} {s : St} {n : Nat} (hv : ∀ l k, v ≠ .str l k) (h : lenV v = some n) : lnS v s = some (.int .i64 (n : Int), s) := by
 unfold lnS
 split
 · exact absurd rfl (hv _ _)
 · rw [h]; rfl
noncomputable def kfTrue : KF := specKF (fun _ : Unit => []) (fun _ => En.ret (.bool true))
theorem kfTrue_run (S : St) : kfTrue.run [] S = some (.ret (.bool true), S) := specKF_run (enc := fun _ : Unit => []) (out := fun _ => En.ret (.bool true)) (fun _ _ _ => rfl) () S
def digsA (n : Nat) (acc : List UInt8) : List UInt8 := if h : n = 0 then acc else digsA (n / 128) (UInt8.ofNat (n % 128 + 128) :: acc)
termination_by n
decreasing_by omega
def digs (n : Nat) : List UInt8 := digsA (n / 128) [UInt8.ofNat (n % 128)]
theorem digsA_len : ∀ (k n : Nat) (acc : List UInt8), n < 128 ^ k → (digsA n acc).length ≤ acc.length + k
 | k, n, acc, h => by
  rw [digsA]
  by_cases h0 : n = 0
  · rw [dif_pos h0]; omega
  · rw [dif_neg h0]
    cases k with
    | zero => simp at h; omega
    | succ k =>
     have := digsA_len k (n / 128) (UInt8.ofNat (n % 128 + 128) :: acc) (by rw [Nat.pow_succ] at h; omega)
     simp only [List.length_cons] at this; omega
structure TwoTexts where
 s : List UInt8
 t : List UInt8
 hs : s.length < 100000000
 ht : t.length < 100000000
theorem TwoTexts.inj {x y : TwoTexts} (h : [sv x.s, sv x.t] = [sv y.s, sv y.t]) : x.s = y.s ∧ x.t = y.t := by
 simp only [List.cons.injEq, and_true] at h
 exact ⟨sv_inj h.1, sv_inj h.2⟩
def putText (s t : List UInt8) : List UInt8 := s ++ digs t.length ++ t
theorem digs_len {n : Nat} (h : n < 18446744073709551616) : (digs n).length ≤ 11 := by
 have := digsA_len 10 (n / 128) [UInt8.ofNat (n % 128)] (by omega)
 simpa [digs] using this
noncomputable def kfPutText : KF := specKF (fun x : TwoTexts => [sv x.s, sv x.t]) (fun x => .ret (sv (putText x.s x.t)))
theorem kfPutText_run (s t : List UInt8) (hs : s.length < 100000000) (ht : t.length < 100000000) (S : St) : kfPutText.run [sv s, sv t] S = some (.ret (sv (putText s t)), S) :=
 specKF_run (fun x y h => by obtain ⟨h1, h2⟩ := TwoTexts.inj h; rw [h1, h2]) (⟨s, t, hs, ht⟩ : TwoTexts) S
noncomputable def KD := knAdd (knAdd (fun _ => none) 34 kfPutText) 11 kfTrue
theorem lgD : Lg.KnLoc KD := ((Lg.knLoc_nil).add 34 fun _ => Lg.specKF_lg _).add 11 fun _ => Lg.specKF_lg _
theorem fzD {F : Fz.Fz} : Fz.KnLoc F KD := ((Fz.knLoc_nil).add 34 fun _ => Fz.specKF_fz _).add 11 fun _ => Fz.specKF_fz _
theorem rd3 {n : Nat} {args : List V} {s : St} {r : En × St} (e : runF E0 (ev E0 KD n) rounds Try.f3 B3 args s = some r) : (ev E0 KD (n + 1)).f 3 args s = some r := ev_read (c := C3) (d := B3) (by kernel_rfl) (by kernel_rfl) (annot_isOf C3 _ (by kernel_rfl)) rfl e
theorem rd5 {n : Nat} {args : List V} {s : St} {r : En × St} (e : runF E0 (ev E0 KD n) rounds Try.f5 B5 args s = some r) : (ev E0 KD (n + 1)).f 5 args s = some r := ev_read (c := C5) (d := B5) (by kernel_rfl) (by kernel_rfl) (annot_isOf C5 _ (by kernel_rfl)) rfl e
theorem rd6 {n : Nat} {args : List V} {s : St} {r : En × St} (e : runF E0 (ev E0 KD n) rounds Try.f6 B6 args s = some r) : (ev E0 KD (n + 1)).f 6 args s = some r := ev_read (c := C6) (d := B6) (by kernel_rfl) (by kernel_rfl) (annot_isOf C6 _ (by kernel_rfl)) rfl e
theorem rd7 {n : Nat} {args : List V} {s : St} {r : En × St} (e : runF E0 (ev E0 KD n) rounds Try.f7 B7 args s = some r) : (ev E0 KD (n + 1)).f 7 args s = some r := ev_read (c := C7) (d := B7) (by kernel_rfl) (by kernel_rfl) (annot_isOf C7 _ (by kernel_rfl)) rfl e
theorem rd8 {n : Nat} {args : List V} {s : St} {r : En × St} (e : runF E0 (ev E0 KD n) rounds Try.f8 B8 args s = some r) : (ev E0 KD (n + 1)).f 8 args s = some r := ev_read (c := C8) (d := B8) (by kernel_rfl) (by kernel_rfl) (annot_isOf C8 _ (by kernel_rfl)) rfl e
theorem rd9 {n : Nat} {args : List V} {s : St} {r : En × St} (e : runF E0 (ev E0 KD n) rounds Try.f9 B9 args s = some r) : (ev E0 KD (n + 1)).f 9 args s = some r := ev_read (c := C9) (d := B9) (by kernel_rfl) (by kernel_rfl) (annot_isOf C9 _ (by kernel_rfl)) rfl e
theorem rd10 {n : Nat} {args : List V} {s : St} {r : En × St} (e : runF E0 (ev E0 KD n) rounds Try.f10 B10 args s = some r) : (ev E0 KD (n + 1)).f 10 args s = some r := ev_read (c := C10) (d := B10) (by kernel_rfl) (by kernel_rfl) (annot_isOf C10 _ (by kernel_rfl)) rfl e
theorem rd15 {n : Nat} {args : List V} {s : St} {r : En × St} (e : runF E0 (ev E0 KD n) rounds Try.f15 B15 args s = some r) : (ev E0 KD (n + 1)).f 15 args s = some r := ev_read (c := C15) (d := B15) (by kernel_rfl) (by kernel_rfl) (annot_isOf C15 _ (by kernel_rfl)) rfl e
theorem rd16 {n : Nat} {args : List V} {s : St} {r : En × St} (e : runF E0 (ev E0 KD n) rounds Try.f16 B16 args s = some r) : (ev E0 KD (n + 1)).f 16 args s = some r := ev_read (c := C16) (d := B16) (by kernel_rfl) (by kernel_rfl) (annot_isOf C16 _ (by kernel_rfl)) rfl e
theorem rd17 {n : Nat} {args : List V} {s : St} {r : En × St} (e : runF E0 (ev E0 KD n) rounds Try.f17 B17 args s = some r) : (ev E0 KD (n + 1)).f 17 args s = some r := ev_read (c := C17) (d := B17) (by kernel_rfl) (by kernel_rfl) (annot_isOf C17 _ (by kernel_rfl)) rfl e
theorem rd18 {n : Nat} {args : List V} {s : St} {r : En × St} (e : runF E0 (ev E0 KD n) rounds Try.f18 B18 args s = some r) : (ev E0 KD (n + 1)).f 18 args s = some r := ev_read (c := C18) (d := B18) (by kernel_rfl) (by kernel_rfl) (annot_isOf C18 _ (by kernel_rfl)) rfl e
theorem rd19 {n : Nat} {args : List V} {s : St} {r : En × St} (e : runF E0 (ev E0 KD n) rounds Try.f19 B19 args s = some r) : (ev E0 KD (n + 1)).f 19 args s = some r := ev_read (c := C19) (d := B19) (by kernel_rfl) (by kernel_rfl) (annot_isOf C19 _ (by kernel_rfl)) rfl e
theorem rd20 {n : Nat} {args : List V} {s : St} {r : En × St} (e : runF E0 (ev E0 KD n) rounds Try.f20 B20 args s = some r) : (ev E0 KD (n + 1)).f 20 args s = some r := ev_read (c := C20) (d := B20) (by kernel_rfl) (by kernel_rfl) (annot_isOf C20 _ (by kernel_rfl)) rfl e
theorem rd22 {n : Nat} {args : List V} {s : St} {r : En × St} (e : runF E0 (ev E0 KD n) rounds Try.f22 B22 args s = some r) : (ev E0 KD (n + 1)).f 22 args s = some r := ev_read (c := C22) (d := B22) (by kernel_rfl) (by kernel_rfl) (annot_isOf C22 _ (by kernel_rfl)) rfl e
theorem rd23 {n : Nat} {args : List V} {s : St} {r : En × St} (e : runF E0 (ev E0 KD n) rounds Try.f23 B23 args s = some r) : (ev E0 KD (n + 1)).f 23 args s = some r := ev_read (c := C23) (d := B23) (by kernel_rfl) (by kernel_rfl) (annot_isOf C23 _ (by kernel_rfl)) rfl e
theorem rd24 {n : Nat} {args : List V} {s : St} {r : En × St} (e : runF E0 (ev E0 KD n) rounds Try.f24 B24 args s = some r) : (ev E0 KD (n + 1)).f 24 args s = some r := ev_read (c := C24) (d := B24) (by kernel_rfl) (by kernel_rfl) (annot_isOf C24 _ (by kernel_rfl)) rfl e
theorem rd25 {n : Nat} {args : List V} {s : St} {r : En × St} (e : runF E0 (ev E0 KD n) rounds Try.f25 B25 args s = some r) : (ev E0 KD (n + 1)).f 25 args s = some r := ev_read (c := C25) (d := B25) (by kernel_rfl) (by kernel_rfl) (annot_isOf C25 _ (by kernel_rfl)) rfl e
theorem rd35 {n : Nat} {args : List V} {s : St} {r : En × St} (e : runF E0 (ev E0 KD n) rounds Try.f35 B35 args s = some r) : (ev E0 KD (n + 1)).f 35 args s = some r := ev_read (c := C35) (d := B35) (by kernel_rfl) (by kernel_rfl) (annot_isOf C35 _ (by kernel_rfl)) rfl e
theorem rd36 {n : Nat} {args : List V} {s : St} {r : En × St} (e : runF E0 (ev E0 KD n) rounds Try.f36 B36 args s = some r) : (ev E0 KD (n + 1)).f 36 args s = some r := ev_read (c := C36) (d := B36) (by kernel_rfl) (by kernel_rfl) (annot_isOf C36 _ (by kernel_rfl)) rfl e
theorem rd38 {n : Nat} {args : List V} {s : St} {r : En × St} (e : runF E0 (ev E0 KD n) rounds Try.f38 B38 args s = some r) : (ev E0 KD (n + 1)).f 38 args s = some r := ev_read (c := C38) (d := B38) (by kernel_rfl) (by kernel_rfl) (annot_isOf C38 _ (by kernel_rfl)) rfl e
theorem rd39 {n : Nat} {args : List V} {s : St} {r : En × St} (e : runF E0 (ev E0 KD n) rounds Try.f39 B39 args s = some r) : (ev E0 KD (n + 1)).f 39 args s = some r := ev_read (c := C39) (d := B39) (by kernel_rfl) (by kernel_rfl) (annot_isOf C39 _ (by kernel_rfl)) rfl e
theorem rd40 {n : Nat} {args : List V} {s : St} {r : En × St} (e : runF E0 (ev E0 KD n) rounds Try.f40 B40 args s = some r) : (ev E0 KD (n + 1)).f 40 args s = some r := ev_read (c := C40) (d := B40) (by kernel_rfl) (by kernel_rfl) (annot_isOf C40 _ (by kernel_rfl)) rfl e
theorem rd41 {n : Nat} {args : List V} {s : St} {r : En × St} (e : runF E0 (ev E0 KD n) rounds Try.f41 B41 args s = some r) : (ev E0 KD (n + 1)).f 41 args s = some r := ev_read (c := C41) (d := B41) (by kernel_rfl) (by kernel_rfl) (annot_isOf C41 _ (by kernel_rfl)) rfl e
theorem rd42 {n : Nat} {args : List V} {s : St} {r : En × St} (e : runF E0 (ev E0 KD n) rounds Try.f42 B42 args s = some r) : (ev E0 KD (n + 1)).f 42 args s = some r := ev_read (c := C42) (d := B42) (by kernel_rfl) (by kernel_rfl) (annot_isOf C42 _ (by kernel_rfl)) rfl e
theorem rd48 {n : Nat} {args : List V} {s : St} {r : En × St} (e : runF E0 (ev E0 KD n) rounds Try.f48 B48 args s = some r) : (ev E0 KD (n + 1)).f 48 args s = some r := ev_read (c := C48) (d := B48) (by kernel_rfl) (by kernel_rfl) (annot_isOf C48 _ (by kernel_rfl)) rfl e
theorem rd49 {n : Nat} {args : List V} {s : St} {r : En × St} (e : runF E0 (ev E0 KD n) rounds Try.f49 B49 args s = some r) : (ev E0 KD (n + 1)).f 49 args s = some r := ev_read (c := C49) (d := B49) (by kernel_rfl) (by kernel_rfl) (annot_isOf C49 _ (by kernel_rfl)) rfl e
theorem ext_none {f : FuncId} : E0.ext.get f = none := by
 cases hx : E0.ext.get f with
 | none => rfl
 | some k =>
  have : (f, k) ∈ ([] : List (Nat × Nat)) := kinds_get hx
  cases this
theorem callK_fn {E : Env} {self : EV} {f : FuncId} (h : E.ext.get f = none) (hb : hasBody E f = true) (x y args : List V) (S : St) : callK E self (.fn (.func f) x y) args S = self.f f (x ++ args ++ y) S := by
 show (match E.ext.get f with | some k => _ | none => _) = _
 rw [h]
 show (bif hasBody E f then self.f f (x ++ args ++ y) S else none) = _
 rw [hb]; rfl
theorem drop_at {α : Type} {l r : List α} {i : Nat} {y : α} (h : l.drop i = y :: r) : ∃ hlt : i < l.length, l[i] = y ∧ l.drop (i + 1) = r ∧ y ∈ l := by
 have hlt : i < l.length := by
  by_cases hh : i < l.length
  · exact hh
  · rw [List.drop_of_length_le (by omega)] at h; cases h
 rw [List.drop_eq_getElem_cons hlt] at h
 injection h with h1 h2
 exact ⟨hlt, h1, h2, by rw [← h1]; exact List.getElem_mem hlt⟩
theorem drop_end {α : Type} {l : List α} {i : Nat} (h : l.drop i = []) : l.length ≤ i := List.drop_eq_nil_iff.1 h
theorem dec_lt {a b : Nat} (h : a < b) : decide ((a : Int) < (b : Int)) = true := by simp; omega
theorem dec_ge {a b : Nat} (h : b ≤ a) : decide ((a : Int) < (b : Int)) = false := by simp; omega
theorem wrap_succ {i : Nat} (h : i < 9223372036854775807) : IntKind.i64.wrap ((i : Int) + 1) = ((i + 1 : Nat) : Int) := by
 rw [wrap_i64 (by omega) (by omega)]; omega
theorem gTT : guardV true (.bool true) = some true := rfl
theorem gFT : guardV false (.bool true) = some false := rfl
theorem gFF : guardV false (.bool false) = some true := rfl
theorem big1 : 1 < big := by unfold big; decide
theorem faPg (off k o : Nat) (g : Bool) (b : Nat) : faP off g (k + 1) (.ptr b o) = some (.ptr b (o + off)) := faP_ptr off g k b o
theorem Bx.ldv (ho : S.on = false) {x e : Nat} {l : List V} (h : Bx S x e l) (hl : l.length < big) {i : Nat} {v : V} (hv : l[i]? = some v) : ld1 (.ptr x i) S = some (v, S) := by
 obtain ⟨hi, he⟩ := List.getElem?_eq_some_iff.1 hv
 rw [h.ld1 ho i hi hl, he]
def rowOf (l : List Bs) : List (Tr V) := l.map fun a => Go.Proofs.YtbfdabjcgcbimaaR.Ev.one (sv a)
theorem rowOf_length (l : List Bs) : (rowOf l).length = l.length := by unfold rowOf; rw [List.length_map]
theorem rowOf_get {l : List Bs} {i : Nat} {a : Bs} (h : l[i]? = some a) : (rowOf l)[i]? = some (Go.Proofs.YtbfdabjcgcbimaaR.Ev.one (sv a)) := by unfold rowOf; rw [List.getElem?_map, h]; rfl
theorem rowOf_append (l m : List Bs) : rowOf (l ++ m) = rowOf l ++ rowOf m := by unfold rowOf; rw [List.map_append]
def blkOf : V → Option Nat
 | .slice r _ _ _ => some r
 | .oslice r _ _ _ => some r
 | _ => none
def TL (S : St) (v : V) (l : List Bs) : Prop := (l = [] ∧ (v = .nilslice ∨ v = .eslice ∨ ∃ r c, v = .slice r 0 0 c)) ∨
 ∃ r off L, RowAt S r 9 1 (rowOf L) ∧ r < S.next ∧ off + l.length ≤ L.length ∧ (L.drop off).take l.length = l ∧ (v = .oslice r off l.length 1 ∨ ∃ c, v = .slice r off l.length c)
theorem TL.nil : TL S .nilslice [] := .inl ⟨rfl, .inl rfl⟩
theorem TL.own {r : Nat} {l : List Bs} (h : RowAt S r 9 1 (rowOf l)) (hr : r < S.next) : TL S (.oslice r 0 l.length 1) l := .inr ⟨r, 0, l, h, hr, by omega, by simp, .inl rfl⟩
theorem TL.grew {W : Nat → Prop} {v : V} {l : List Bs} (h : TL S v l) (hw : ∀ r e, blkOf v = some r → RowAt S r 9 1 e → ¬ W r) (g : Grew W S U) : TL U v l := by
 rcases h with h | ⟨r, off, L, h1, h2, h3, h4, h5⟩
 · exact .inl h
 · have hb : blkOf v = some r := by rcases h5 with rfl | ⟨c, rfl⟩ <;> rfl
   exact .inr ⟨r, off, L, h1.grew h2 (hw r _ hb h1) g, Nat.lt_of_lt_of_le h2 g.next, h3, h4, h5⟩
theorem TL.same {v : V} {l : List Bs} (h : TL S v l) (h1 : U.heap = S.heap) (h2 : U.next = S.next) : TL U v l := by
 rcases h with h | ⟨r, off, L, a1, a2, a3, a4, a5⟩
 · exact .inl h
 · exact .inr ⟨r, off, L, a1.same h1, by omega, a3, a4, a5⟩
theorem TL.lenV {v : V} {l : List Bs} (h : TL S v l) : Go.Proofs.YtbfdabjcgcbimaaR.Ev.lenV v = some l.length := by
 rcases h with ⟨rfl, rfl | rfl | ⟨r, c, rfl⟩⟩ | ⟨r, off, L, h1, h2, h3, h4, rfl | ⟨c, rfl⟩⟩ <;> rfl
theorem TL.notStr {v : V} {l : List Bs} (h : TL S v l) : ∀ a b, v ≠ .str a b := by
 rcases h with ⟨rfl, rfl | rfl | ⟨r, c, rfl⟩⟩ | ⟨r, off, L, h1, h2, h3, h4, rfl | ⟨c, rfl⟩⟩ <;> intro a b e <;> cases e
theorem TL.len {v : V} {l : List Bs} (h : TL S v l) (U : St) : lnS v U = some (.int .i64 (l.length : Int), U) := lnS_of h.notStr h.lenV
theorem TL.ix {v : V} {l : List Bs} (h : TL S v l) {i : Nat} {a : Bs} (ha : l[i]? = some a) : ∃ r o L, ixP 1 v (.int .i64 (i : Int)) = some (.ptr r o) ∧ RowAt S r 9 1 L ∧ L[o]? = some (Go.Proofs.YtbfdabjcgcbimaaR.Ev.one (sv a)) := by
 obtain ⟨hi, he⟩ := List.getElem?_eq_some_iff.1 ha
 rcases h with ⟨rfl, _⟩ | ⟨r, off, L, h1, h2, h3, h4, h5⟩
 · cases hi
 · refine ⟨r, off + i * 1, rowOf L, ?_, h1, ?_⟩
   · have : ixP 1 v (.int .i64 (i : Int)) = bif Nat.blt i l.length then some (V.ptr r (off + i * 1)) else none := by rcases h5 with rfl | ⟨c, rfl⟩ <;> rfl
     rw [this, blt_true.2 hi]; rfl
   · refine rowOf_get ?_
     rw [Nat.mul_one]
     have : ((L.drop off).take l.length)[i]? = some a := by rw [h4]; exact ha
     rw [List.getElem?_take, if_pos hi, List.getElem?_drop] at this
     exact this
theorem TL.ld {v : V} {l : List Bs} (h : TL S v l) (ho : S.on = false) {i : Nat} {a : Bs} (ha : l[i]? = some a) : ∃ p, ixP 1 v (.int .i64 (i : Int)) = some p ∧ ld1 p S = some (sv a, S) := by
 obtain ⟨r, o, L, h1, h2, h3⟩ := h.ix ha
 exact ⟨_, h1, h2.ld1 ho h3⟩
def TLo (S : St) (v : V) (l : List Bs) (N : Nat) : Prop := (l = [] ∧ v = .nilslice) ∨ ∃ r, v = .oslice r 0 l.length 1 ∧ RowAt S r 9 1 (rowOf l) ∧ r < S.next ∧ N ≤ r ∧ 0 < l.length
theorem TLo.nil {N : Nat} : TLo S .nilslice [] N := .inl ⟨rfl, rfl⟩
theorem TLo.tl {v : V} {l : List Bs} {N : Nat} (h : TLo S v l N) : TL S v l := by
 rcases h with ⟨rfl, rfl⟩ | ⟨r, rfl, h1, h2, _⟩
 · exact .nil
 · exact .own h1 h2
theorem TLo.grew {v : V} {l : List Bs} {N : Nat} (h : TLo S v l N) (g : Grew (fun _ => False) S U) : TLo U v l N := by
 rcases h with h | ⟨r, h0, h1, h2, h3⟩
 · exact .inl h
 · exact .inr ⟨r, h0, h1.grew h2 (fun h => h) g, Nat.lt_of_lt_of_le h2 g.next, h3⟩
theorem TLo.push (ho : S.on = false) {v : V} {l : List Bs} {N : Nat} (h : TLo S v l N) (hN : N ≤ S.next) (hl : l.length < 100000) (a : Bs) :
 ∃ y W v' U, bsP 9 1 1 (Go.Proofs.YtbfdabjcgcbimaaR.Ev.one (sv [])) [(0, sv a)] S = some (y, W) ∧ apP 9 1 16 v y W = some (v', U) ∧ TLo U v' (l ++ [a]) N ∧ Grew (fun x => N ≤ x) S U := by
 obtain ⟨W, h1, h2, h3, h4⟩ := bsP_one ho 9 (Go.Proofs.YtbfdabjcgcbimaaR.Ev.one (sv [])) (oneV_sv a)
 have on1 := h3.on.trans ho
 have hlm : (l ++ [a]).length = l.length + 1 := by rw [List.length_append]; rfl
 rcases h with ⟨rfl, rfl⟩ | ⟨r, rfl, hr, hr2, hr3, h0⟩
 · obtain ⟨U, k1, k2, k3, k4⟩ := ap1_first (B := 16) on1 h2 (by unfold maxCells; omega)
   exact ⟨_, W, _, U, h1, k1, .inr ⟨W.next, rfl, k2, by omega, by omega, by simp⟩, (h3.trans k3).mono fun _ _ h => h.elim⟩
 · have hrow := hr.grew hr2 (fun h => h) h3
   obtain ⟨U, k1, k2, k3, k4⟩ := ap1_more (B := 16) on1 h2 hrow (by rw [rowOf_length]; unfold maxCells; omega) (by rw [rowOf_length]; unfold big; omega)
   rw [rowOf_length] at k1
   refine ⟨_, W, _, U, h1, k1, .inr ⟨W.next, by rw [hlm], ?_, by omega, by omega, by omega⟩, (h3.mono fun _ _ h => h.elim).trans (k3.mono fun x _ e => by subst e; exact hr3)⟩
   rw [rowOf_append]
   exact k2
theorem Grew.fresh {a b c : St} {N : Nat} (h : Grew (fun _ => False) a b) (hN : a.next ≤ N) (k : Grew (fun x => N ≤ x) b c) : Grew (fun _ => False) a c :=
 ⟨Nat.le_trans h.next k.next, k.on.trans h.on, fun x hx hw => (k.keep x (Nat.lt_of_lt_of_le hx h.next) (by omega)).trans (h.keep x hx hw)⟩
theorem take_push {α : Type} {l : List α} {i : Nat} (h : i < l.length) : l.take (i + 1) = l.take i ++ [l[i]] := (List.take_append_getElem h).symm
theorem neStr (c d : Bool) (a b : Bs) : binV E0 .neq 9 c d (sv a) (sv b) = some (.bool (!(a == b))) := by
 rw [binV_ss]
 show (some (V.bool (!sEq a.length (pack a) b.length (pack b)))) = _
 rw [sEq_eq]
theorem neqInt (a c : Nat) : binV E0 .neq 3 false false (.int .i64 (a : Int)) (.int .i64 (c : Int)) = some (.bool (!decide (a = c))) := by
 rw [binV_ii, intsV_neq]
 congr 3
 rw [decide_eq_decide]; omega
theorem ld1_lg (ho : S.on = false) {b i : Nat} {v : V} (h : ld1 (.ptr b i) S = some (v, S)) (l : List LE) : ld1 (.ptr b i) (S.lg l) = some (v, S.lg (⟨b, i, i + 1, false⟩ :: l)) := by
 have h' : ld S b i = some (v, S) := h
 show ld (S.lg l) b i = _
 unfold ld at h' ⊢
 rw [show (S.lg l).heap = S.heap from rfl]
 split at h'
 · rename_i e esz n ro c hb
   cases hc : (Nat.blt i (esz * n) && Nat.blt (esz * n) big) with
   | false => rw [hc] at h'; cases h'
   | true =>
    rw [hc] at h'
    simp only [cond_true, oI, oS, pM] at h' ⊢
    obtain ⟨t, h1, w, h2, rfl, _⟩ := h'
    exact ⟨t, h1, w, h2, rfl, rfl⟩
 · cases h'
theorem relog_same {T : St} (ho : S.on = false) (hT : T.on = false) (hl : T.log = S.log) (l : List LE) (ls : List (List LE)) : relog S (T.lg l) ls = T := by
 unfold relog
 rw [ho]
 cases T
 simp only at hT hl
 subst hT; subst hl
 rfl
theorem rds_of {logs : List (List LE)} (h : ∀ L ∈ logs, ∀ e ∈ L, e.w = false) : rds logs = true := by
 unfold rds
 rw [List.all_eq_true]
 intro L hL
 rw [List.all_eq_true]
 intro e he
 rw [h L hL e he]; rfl
theorem row_ne {b e e' z z' : Nat} {l l' : List (Tr V)} (h : RowAt S b e z l) (h' : RowAt S b e' z' l') : e = e' := by
 obtain ⟨c, h1, _⟩ := h.row
 obtain ⟨c', h2, _⟩ := h'.row
 rw [h1] at h2
 simp only [oS, O.cells.injEq] at h2
 exact h2.1
theorem TLo.blk {v : V} {l : List Bs} {N r : Nat} (h : TLo S v l N) (hr : blkOf v = some r) : N ≤ r ∧ RowAt S r 9 1 (rowOf l) := by
 rcases h with ⟨_, rfl⟩ | ⟨r', rfl, h1, h2, h3, _⟩
 · cases hr
 · cases hr; exact ⟨h3, h1⟩
noncomputable def icy (S : St) (b e z n : Nat) (c : Tr (Tr V)) : St := S.put b (.cells e z n true c)
theorem icy_same {b e z n : Nat} {c : Tr (Tr V)} (h : S.heap.get b = some (.cells e z n false c)) (hb : b < S.next) : Fz.Same ⟨b, e, z, n, c⟩ (icy S b e z n c) S :=
 ⟨rfl, fun x hx => by show S.heap.get x = (S.put b _).heap.get x; rw [put_get, if_neg hx], by show (S.put b _).heap.get b = _; rw [put_get, if_pos rfl], h, hb⟩
theorem TL.icy {v : V} {l : List Bs} (h : TL S v l) {b e z n : Nat} {c : Tr (Tr V)} {m : List (Tr V)} (hb : RowAt S b e z m) (he : e ≠ 9) : TL (icy S b e z n c) v l :=
 h.grew (fun r _ _ hr hx => by subst hx; exact he (row_ne hb hr)) (grew_put (s := S) b _)
theorem meet_ne {e f : LE} (h : e.b ≠ f.b) : meet e f = false := by
 unfold meet
 rw [show Nat.beq e.b f.b = false from by rw [Bool.eq_false_iff]; exact fun hb => h (Nat.eq_of_beq_eq_true hb)]; rfl
theorem meet_or {e f : LE} (h : e.b ≠ f.b ∨ (e.w = false ∧ f.w = false)) : meet e f = false := by
 rcases h with h | ⟨h1, h2⟩
 · exact meet_ne h
 · unfold meet
   rw [h1, h2]; cases Nat.beq e.b f.b <;> rfl
theorem clash1_or {e : LE} : ∀ {l : List LE}, (∀ f ∈ l, e.b ≠ f.b ∨ (e.w = false ∧ f.w = false)) → clash1 e l = false
 | [], _ => rfl
 | f :: l, h => by
  unfold clash1
  rw [meet_or (h f (List.mem_cons_self ..))]
  exact clash1_or fun g hg => h g (List.mem_cons_of_mem _ hg)
theorem clash_or : ∀ {a b : List LE}, (∀ e ∈ a, ∀ f ∈ b, e.b ≠ f.b ∨ (e.w = false ∧ f.w = false)) → clash a b = false
 | [], _, _ => rfl
 | e :: a, b, h => by
  unfold clash
  rw [clash1_or (h e (List.mem_cons_self ..))]
  exact clash_or fun g hg => h g (List.mem_cons_of_mem _ hg)
theorem relog_any (ho : S.on = false) (U : St) (l : List LE) (ls : List (List LE)) : ∃ U', relog S (U.lg l) ls = U' ∧ U'.heap = U.heap ∧ U'.next = U.next ∧ U'.on = false := by
 refine ⟨_, rfl, ?_, ?_, ?_⟩ <;> (unfold relog; rw [ho]; rfl)
theorem Grew.same {W : Nat → Prop} {a b c : St} (h : Grew W a b) (h1 : c.heap = b.heap) (h2 : c.next = b.next) (h3 : c.on = b.on) : Grew W a c := ⟨by rw [h2]; exact h.next, h3.trans h.on, fun x hx hw => by rw [h1]; exact h.keep x hx hw⟩
theorem ons (S : St) : onS S = S.lg [] := rfl
theorem lglg (S : St) (L M : List LE) : (S.lg L).lg M = S.lg M := rfl
theorem lg_of {f : St → Option (α × St)} (h : Lg.LocP f) {a : α} (hf : f S = some (a, U)) (l : List LE) : ∃ l', f (S.lg l) = some (a, U.lg l') := by
 obtain ⟨_, h2⟩ := h S (a, U) hf
 obtain ⟨t', h3, h4, h5⟩ := h2 (S.lg l) ⟨rfl, rfl⟩
 refine ⟨t'.log, h3.trans ?_⟩
 obtain ⟨hp, nx, on, lg⟩ := t'
 obtain ⟨k1, k2⟩ := h4
 simp only at k1 k2 h5
 have h5' : on = true := h5
 subst h5'; subst k1; subst k2
 rfl
theorem lg_apP (e z B : Nat) (x y : V) : Lg.LocP fun s => apP e z B x y s := by
 unfold apP
 exact Lg.Loc.opt fun n => Lg.Loc.opt fun m => Lg.Loc.cond (Lg.loc_appendV _ _ _ _ _) Lg.Loc.none
theorem lg_bsP (e z n : Nat) (t : Tr V) (ps : List (Nat × V)) : Lg.LocP fun s => bsP e z n t ps s := by
 unfold bsP
 exact Lg.Loc.opt fun l => Lg.LocP.nw (fun k => V.slice k 0 n n) fun _ => _
def TV (v : V) (l : List Bs) : Prop := (l = [] ∧ (v = .nilslice ∨ v = .eslice)) ∨ v = .list 1 (l.map sv)
theorem TV.len {v : V} {l : List Bs} (h : TV v l) : lnS v S = some (.int .i64 (l.length : Int), S) := by
 rcases h with ⟨rfl, rfl | rfl⟩ | rfl
 · rfl
 · rfl
 · show some (V.int .i64 (Int.ofNat (l.map sv).length), S) = _
   rw [List.length_map]; rfl
theorem TV.ix {v : V} {l : List Bs} (h : TV v l) {i : Nat} {a : Bs} (ha : l[i]? = some a) : ixP 1 v (.int .i64 (i : Int)) = some (.cptr (sv a)) := by
 rcases h with ⟨rfl, _⟩ | rfl
 · simp at ha
 · show (bif Nat.beq 1 1 && Nat.blt 0 1 then ((l.map sv)[i]?).bind fun v => some (V.cptr v) else none) = _
   rw [List.getElem?_map, ha]; rfl
theorem TV.one {v : V} {l : List Bs} (h : TV v l) : OneV v := by
 rcases h with ⟨_, rfl | rfl⟩ | rfl <;> exact ⟨rfl, rfl, rfl, rfl⟩
theorem ldc (a : Bs) (S : St) : ld1 (.cptr (sv a)) S = some (sv a, S) := rfl
theorem ldcv {v : V} (h : OneV v) (S : St) : ld1 (.cptr v) S = some (v, S) := by
 obtain ⟨h1, h2, h3, h4⟩ := h
 unfold ld1
 show (bif !Go.Proofs.YtbfdabjcgcbimaaR.Ev.isAgg v && !isTuple v then some (v, S) else none) = _
 rw [h3, h4]; rfl
theorem take_min (l : List UInt8) (n : Nat) : List.take (min l.length n) l = l.take n := by
 rcases Nat.le_total l.length n with h | h
 · rw [Nat.min_eq_left h, List.take_length, List.take_of_length_le h]
 · rw [Nat.min_eq_right h]
theorem cutN (s : List UInt8) (n : Nat) (S : St) : sliceV E0 9 (sv s) none (some (.int .i64 ((min s.length n : Nat) : Int))) none S = some (sv (s.take n), S) := by
 rw [slice_sv und9 s (bounds_hi .i64 (Nat.min_le_left ..)) (Nat.min_le_left ..), List.drop_zero, Nat.sub_zero, take_min]
theorem lim_cond (i n : Nat) (c : Nat) (hc : c < 100) (K : V → Rs) : ((binV E0 .lss 3 false false (.int .i64 (i : Int)) (.int .i64 (n : Int))).bind fun t10 =>
(guardV true t10).bind fun g12 => (bif g12 then some (V.int .i64 (i : Int)) else some (.tuple [])).bind fun t12 =>
(guardV true t10).bind fun g13 => (bif g13 then binV E0 .lss 3 false true t12 (.int .i64 (c : Int)) else some (.tuple [])).bind fun t13 =>
(pickV t10 (some t13) (some (.bool false))).bind fun t14 => K t14) = K (.bool (decide (i < n) && decide (i < c))) := by
 rw [binV_ii, intsV_lss, oB]
 by_cases h : i < n
 · rw [dec_lt h, decide_eq_true h]
   simp only [gTT, oB, cond_true, pickV_bool, Bool.true_and]
   rw [binV_ii, intsV_lss]
   by_cases h2 : i < c
   · rw [dec_lt h2, decide_eq_true h2]; rfl
   · rw [dec_ge (by omega), decide_eq_false h2]; rfl
 · rw [dec_ge (by omega), decide_eq_false h]
   rfl
theorem map_take_push (l : List Bs) (f : Bs → Bs) {i c : Nat} (hi : i < l.length) (hc : i < c) : ((l.take c).take (i + 1)).map f = ((l.take c).take i).map f ++ [f l[i]] := by
 have h1 : i < (l.take c).length := by rw [List.length_take]; omega
 rw [take_push h1, List.map_append, List.getElem_take]; rfl
end
end Go.Proofs.YtbfdabjcgcbimaaR.W
namespace Go.Proofs.YtbfdabjcgcbimaaR.W
open Go.Proofs.YtbfdabjcgcbimaaR.Ev Go.RowKit
theorem toNat_ofNat {n : Nat} (h : n < 256) : (UInt8.ofNat n).toNat = n := by simp [UInt8.toNat_ofNat']; omega
theorem ixA_ptr (len z : Nat) (g : Bool) (k : Nat) (ik : IntKind) {b off n : Nat} (h : n < len) : ixA len z g k (.ptr b off) (.int ik (n : Int)) = some (.ptr b (off + n * z)) := by
 show (bif Nat.blt n len then some (V.ptr b (off + n * z)) else none) = _
 rw [blt_true.2 h]; rfl
theorem und77 : und E0 77 = some (.slice 5) := by kernel_rfl
theorem und5 : und E0 5 = some (.int .u8) := by kernel_rfl
def byteV (c : UInt8) : V := .int .u8 (c.toNat : Int)
theorem L47_spec (self : EV) (N : Nat) (nk : Ac → St → Rs) (ek : Nat → Ac → St → Rs) (s0 : List UInt8) (b : Nat) : ∀ (k n m : Nat) (acc cs : List UInt8) (at' : Nat) (S : St), S.on = false → n < 128 ^ k → n < 18446744073709551616 → k < m → VarAt S b 91 10 (cs.map byteV) → cs.drop at' = acc → k ≤ at' → at' ≤ 9 →
 ∃ (S' : St) (cs' : List UInt8) (a' : Nat), L47_34 self N nk ek m (sv s0) (.int .u64 (n : Int)) (.ptr b 0) (.int .i64 (at' : Int)) S = ek 0 (fr 45 [(0, sv s0), (5, .ptr b 0), (6, .int .i64 (a' : Int))]) S' ∧ VarAt S' b 91 10 (cs'.map byteV) ∧ cs'.drop a' = digsA n acc ∧ a' ≤ 9 ∧ Grew (fun x => x = b) S S'
 | k, n, 0, acc, cs, a, S, ho, hk, h64, hm, hv, hd, hka, h9 => by omega
 | k, n, m + 1, acc, cs, a, S, ho, hk, h64, hm, hv, hd, hka, h9 => by
  rw [L47_34_eq]
  simp only [binV_ii, intsV_gtr, oB, ifK_bool]
  by_cases h0 : n = 0
  · subst h0
    refine ⟨S, cs, a, ?_, hv, by rw [hd]; simp [digsA], h9, Grew.refl _ _⟩
    simp
  · have hdec : decide ((0 : Int) < (n : Int)) = true := by simp; omega
    rw [hdec]
    have hk0 : k ≠ 0 := by intro h; subst h; simp at hk; omega
    have e1 : (n : Int).tmod 128 = ((n % 128 : Nat) : Int) := by rw [Int.tmod_eq_emod_of_nonneg (by omega)]; omega
    have e2 : IntKind.u64.wrap ((n : Int).tdiv 128) = ((n / 128 : Nat) : Int) := by
     rw [Int.tdiv_eq_ediv_of_nonneg (by omega), wrap_u64 (by omega) (by omega)]; omega
    have e3 : IntKind.u8.wrap ((n % 128 : Nat) : Int) = ((n % 128 : Nat) : Int) := wrap_u8 (by omega) (by omega)
    have e4 : IntKind.u8.wrap (((n % 128 : Nat) : Int) + 128) = ((UInt8.ofNat (n % 128 + 128)).toNat : Int) := by
     rw [wrap_u8 (by omega) (by omega), toNat_ofNat (by omega)]; omega
    have hlen : cs.length = 10 := by rw [← hv.len, List.length_map]
    have e5 : IntKind.i64.wrap ((a : Int) - 1) = ((a - 1 : Nat) : Int) := by rw [wrap_i64 (by omega) (by omega)]; omega
    obtain ⟨S1, k1, k2, k3, k4⟩ := hv.st ho (i := a - 1) (by omega) (byteV (UInt8.ofNat (n % 128 + 128)))
    have hst : stP 1 (.ptr b (a - 1)) (byteV (UInt8.ofNat (n % 128 + 128))) S = some (.tuple [], S1) := by
     show vu (stK S b (a - 1) 1 (Go.Proofs.YtbfdabjcgcbimaaR.Ev.one _)) = _
     rw [k1]; rfl
    obtain ⟨S', cs', a', h1, h2, h3, h4, h5⟩ := L47_spec self N nk ek s0 b (k - 1) (n / 128) m (UInt8.ofNat (n % 128 + 128) :: acc) (cs.set (a - 1) (UInt8.ofNat (n % 128 + 128))) (a - 1) S1 (k3.on.trans ho) (by
     have : 128 ^ k = 128 ^ (k - 1) * 128 := by rw [← Nat.pow_succ]; congr 1; omega
     omega) (by omega) (by omega) (by rw [List.map_set]; exact k2) (by
     rw [List.drop_eq_getElem_cons (by rw [List.length_set]; omega), List.getElem_set_self]
     congr 1
     rw [List.drop_set_of_lt (by omega), ← hd]
     congr 1
     omega) (by omega) (by omega)
    refine ⟨S', cs', a', ?_, h2, ?_, h4, k3.trans h5⟩
    · rw [cond_true, intsV_sub, oB, e5, intsV_rem _ _ _ (by decide), oB, cvI_int, oB, e1, e3]
      dsimp only
      rw [binV_ii, intsV_add, oB, e4, ixA_ptr 10 1 false 1 .i64 (show a - 1 < 10 by omega), oB, Nat.zero_add, Nat.mul_one]
      have hst' : stP 1 (.ptr b (a - 1)) (.int .u8 ((UInt8.ofNat (n % 128 + 128)).toNat : Int)) S = some (.tuple [], S1) := hst
      rw [hst', oB, intsV_quo _ _ _ (by decide), e2, oB]
      exact h1
    · rw [h3, show digsA n acc = digsA (n / 128) (UInt8.ofNat (n % 128 + 128) :: acc) by rw [digsA, dif_neg h0]]
theorem el77 : sliceElem E0 77 = some (5, 1, 1) := by kernel_rfl
theorem zero5 : zeroT E0 5 = some (.int .u8 0) := by kernel_rfl
theorem und91 : und E0 91 = some (.array 10 5) := by kernel_rfl
theorem size5 : Go.Proofs.YtbfdabjcgcbimaaR.Ev.sizeT E0 5 = some 1 := by kernel_rfl
theorem over_take (n : Nat) (s : List UInt8) (h : s.length ≤ n) : over (List.replicate n (0 : UInt8)) 0 (s.take (min s.length n)) = s ++ List.replicate (n - s.length) 0 := by
 unfold over
 rw [show min s.length n = s.length by omega, List.take_length, List.take_zero, List.nil_append, Nat.zero_add, List.drop_replicate]
theorem over_end (s d : List UInt8) (m : Nat) (h : d.length = m) : over (s ++ List.replicate m (0 : UInt8)) s.length d = s ++ d := by
 unfold over
 rw [List.take_left, List.drop_eq_nil_of_le (by simp; omega), List.append_nil]
theorem R47_spec (self : EV) (N : Nat) (ek : Nat → Ac → St → Rs) (nk : Ac → St → Rs) (s0 cs : List UInt8) (b a : Nat) (S : St) (ho : S.on = false) (hb : b < S.next) (hv : VarAt S b 91 10 (cs.map byteV)) (ha : a ≤ 9) (hs : s0.length < 200000000) :
 ∃ S', R47_9 self N nk ek (fr 45 [(0, sv s0), (5, .ptr b 0), (6, .int .i64 (a : Int))]) S = some (.ret (sv (s0 ++ cs.drop a)), S') ∧ Grew (fun _ => False) S S' := by
 have hlen : cs.length = 10 := by rw [← hv.len, List.length_map]
 obtain ⟨S1, m1, m2, m3, m4⟩ := makeBytes (E := E0) ho el77 zero5 (n := s0.length + 10 - a) (by unfold maxCells; omega)
 have on1 := m3.on.trans ho
 obtain ⟨S2, c1, c2, c3, c4⟩ := cpP_sv on1 m2 (l := s0) (off := 0) (len := s0.length + 10 - a) (cap := s0.length + 10 - a) (by simp)
 have on2 := c3.on.trans on1
 rw [over_take _ _ (by omega)] at c2
 have hv2 := (hv.grew hb (fun h => h) m3).grew (by omega) (by omega) c3
 obtain ⟨S3, d1, d2, d3, d4⟩ := cpP_var on2 c2 hv2 (by decide) (off := s0.length) (len := 10 - a) (cap := 10 - a) (off2 := a) (len2 := 10 - a) (cap2 := 10 - a) (by simp; omega) (by omega)
 rw [List.take_of_length_le (by rw [List.length_drop]; omega), over_end _ _ _ (by rw [List.length_drop]; omega)] at d2
 obtain ⟨on3, l', d5⟩ := cpP_lg on2 d1 []
 have hres := relog_lg on2 l' [[], [], [], [], [], [], (S3.lg l').log] on3
 generalize hS4 : relog S2 (S3.lg l') [[], [], [], [], [], [], (S3.lg l').log] = S4 at hres
 obtain ⟨r1, r2, r3⟩ := hres
 have hrow := d2.same r1
 refine ⟨S4, ?_, ?_⟩
 · rw [R47_9_eq, lnStr_sv, oB, binV_ii, intsV_add, show IntKind.i64.wrap ((s0.length : Int) + 10) = ((s0.length + 10 : Nat) : Int) by rw [wrap_i64 (by omega) (by omega)]; omega, oB, binV_ii, intsV_sub,
    show IntKind.i64.wrap (((s0.length + 10 : Nat) : Int) - (a : Int)) = ((s0.length + 10 - a : Nat) : Int) by rw [wrap_i64 (by omega) (by omega)]; omega, oB, m1, oB]
   dsimp only
   rw [c1, oB]
   dsimp only
   rw [lnStr_sv, oB]
   dsimp only
   have sl1 : sliceV E0 77 (.slice S.next 0 (s0.length + 10 - a) (s0.length + 10 - a)) (some (.int .i64 (s0.length : Int))) none none (onS (onS S2)) = some (.slice S.next s0.length (10 - a) (10 - a), onS S2) := by
    unfold sliceV
    rw [und77]
    simp only [oB]
    rw [bounds_lo .i64 (by omega), size5]
    simp only [oB]
    rw [Nat.zero_add, Nat.mul_one, show s0.length + 10 - a - s0.length = 10 - a by omega]
    rfl
   have sl2 : sliceV E0 91 (.ptr b 0) (some (.int .i64 (a : Int))) none none (onS (onS S2)) = some (.slice b a (10 - a) (10 - a), onS S2) := by
    unfold sliceV
    rw [und91]
    simp only [oB]
    rw [bounds_lo .i64 (by omega), size5]
    simp only [oB]
    rw [Nat.zero_add, Nat.mul_one]
    rfl
   rw [sl1, oB]
   dsimp only
   rw [sl2, oB]
   dsimp only
   rw [show onS (onS S2) = S2.lg [] from rfl, d5, oB]
   dsimp only
   rw [endP_of (by rfl)]
   have e : relog S2 (S3.lg l') [[], [], (onS S2).log, (onS S2).log, [], (onS S2).log, (S3.lg l').log] = S4 := hS4
   rw [e, convert_row r3 und77 und5 und9 hrow (by simp; omega), oB]
   dsimp only
   rw [List.drop_zero, List.take_of_length_le (by simp; omega)]
 · refine ⟨?_, ?_, fun x hx hw => ?_⟩
   · rw [r2, d4, c4, m4]; omega
   · rw [r3, ho]
   · rw [r1, d3.keep x (by omega) (by omega), c3.keep x (by omega) (by omega), m3.keep x hx (fun h => h)]
theorem F47_spec (self : EV) (s0 : List UInt8) (n : Nat) (S : St) (ho : S.on = false) (h64 : n < 18446744073709551616) (hs : s0.length < 200000000) :
 ∃ S', F47 self rounds (sv s0) (.int .u64 (n : Int)) S = some (.ret (sv (s0 ++ digs n)), S') ∧ Grew (fun _ => False) S S' := by
 have v0 := varAt_new (s := S) ho (t := 91) (z := 10) (l := (List.replicate 10 (0 : UInt8)).map byteV) (by simp) (by omega) (by unfold big; decide)
 have g0 := grew_nwP (s := S) ho (fun _ => False) 91 10 (Tr.ofListFrom .nil ((List.replicate 10 (0 : UInt8)).map byteV) 0)
 have e1 : (n : Int).tmod 128 = ((n % 128 : Nat) : Int) := by rw [Int.tmod_eq_emod_of_nonneg (by omega)]; omega
 have e2 : IntKind.u64.wrap ((n : Int).tdiv 128) = ((n / 128 : Nat) : Int) := by
  rw [Int.tdiv_eq_ediv_of_nonneg (by omega), wrap_u64 (by omega) (by omega)]; omega
 have e4 : IntKind.u8.wrap (((n % 128 : Nat) : Int)) = ((UInt8.ofNat (n % 128)).toNat : Int) := by
  rw [wrap_u8 (by omega) (by omega), toNat_ofNat (by omega)]
 have hlit : nwP 91 10 (Tr.ofListFrom .nil [(.int .u8 0), (.int .u8 0), (.int .u8 0), (.int .u8 0), (.int .u8 0), (.int .u8 0), (.int .u8 0), (.int .u8 0), (.int .u8 0), (.int .u8 0)] 0) S = nwP 91 10 (Tr.ofListFrom .nil ((List.replicate 10 (0 : UInt8)).map byteV) 0) S := rfl
 rw [F47_eq, hlit, oB, binV_ii, intsV_rem _ _ _ (by decide), oB, cvI_int, oB, e1, e4, nwP_fst, show (V.int .i64 9) = .int .i64 ((9 : Nat) : Int) from rfl, ixA_ptr 10 1 false 1 .i64 (by decide), oB, Nat.zero_add, Nat.mul_one]
 have hnext : (nwP 91 10 (Tr.ofListFrom .nil ((List.replicate 10 (0 : UInt8)).map byteV) 0) S).2.next = S.next + 1 := rfl
 generalize (nwP 91 10 (Tr.ofListFrom .nil ((List.replicate 10 (0 : UInt8)).map byteV) 0) S).2 = S0 at *
 have on0 := g0.on.trans ho
 obtain ⟨S1, k1, k2, k3, k4⟩ := v0.st on0 (i := 9) (by omega) (byteV (UInt8.ofNat (n % 128)))
 have hst : stP 1 (.ptr S.next 9) (.int .u8 ((UInt8.ofNat (n % 128)).toNat : Int)) S0 = some (.tuple [], S1) := by
  show vu (stK S0 S.next 9 1 (Go.Proofs.YtbfdabjcgcbimaaR.Ev.one _)) = _
  have k1' : stK S0 S.next 9 1 (Go.Proofs.YtbfdabjcgcbimaaR.Ev.one (.int .u8 ((UInt8.ofNat (n % 128)).toNat : Int))) = some S1 := k1
  rw [k1']; rfl
 dsimp only
 rw [hst, oB, binV_ii, intsV_quo _ _ _ (by decide), e2, oB]
 have on1 := k3.on.trans on0
 obtain ⟨S2, cs, a, h1, h2, h3, h4, h5⟩ := L47_spec self rounds (R47_9 self rounds (finN E0 self Try.f47) noEx) (exB 0 (R47_9 self rounds (finN E0 self Try.f47) noEx) noEx) s0 S.next 9 (n / 128) rounds [UInt8.ofNat (n % 128)] ((List.replicate 10 0).set 9 (UInt8.ofNat (n % 128))) 9 S1 on1 (by omega) (by omega) (by unfold rounds; omega) (by rw [List.map_set]; exact k2) rfl (by omega) (by omega)
 have on2 := h5.on.trans on1
 have hnx : S.next < S2.next := by have := h5.next; omega
 obtain ⟨S3, r1, r2⟩ := R47_spec self rounds noEx (finN E0 self Try.f47) s0 cs S.next a S2 on2 hnx h2 h4 hs
 refine ⟨S3, ?_, (g0.own (Nat.le_refl _) (k3.trans h5)).trans r2⟩
 dsimp only
 rw [h1, exB_same, r1, h3]
 rfl
def costT (t : Bs) : Nat := t.length + 1 + if 128 ≤ t.length then 1 else 0
def laidL (l : List Bs) : Bs := l.foldl putText []
def costL (l : List Bs) : Nat := (l.map costT).sum
theorem digs_small {n : Nat} (h : n < 16384) : (digs n).length = 1 + if 128 ≤ n then 1 else 0 := by
 unfold digs
 rw [digsA]
 by_cases h0 : n / 128 = 0
 · rw [dif_pos h0, if_neg (by omega)]; rfl
 · rw [dif_neg h0, digsA, dif_pos (by omega), if_pos (by omega)]; rfl
theorem putText_len (s t : Bs) (h : t.length < 16384) : (putText s t).length = s.length + costT t := by
 unfold putText costT
 rw [List.length_append, List.length_append, digs_small h]
 omega
theorem foldl_len : ∀ (l : List Bs) (s : Bs), (∀ t ∈ l, t.length < 16384) → (l.foldl putText s).length = s.length + costL l
 | [], s, _ => rfl
 | t :: l, s, h => by
  rw [List.foldl_cons, foldl_len l _ fun x hx => h x (List.mem_cons_of_mem _ hx), putText_len s t (h t (List.mem_cons_self ..))]
  unfold costL
  rw [List.map_cons, List.sum_cons]; omega
theorem laid_len {l : List Bs} (h : ∀ t ∈ l, t.length < 16384) : (laidL l).length = costL l := by
 unfold laidL
 rw [foldl_len l [] h]
 simp
theorem costL_app (l m : List Bs) : costL (l ++ m) = costL l + costL m := by
 unfold costL
 rw [List.map_append, List.sum_append]
section
variable {S T U : St}
theorem kn34 : KnWell Try.prog E0 34 kfPutText :=
 specKF_text (K := fun _ => none) (fn := Try.f34) (c := C34) (d := B34) E0_ok knOk_nil (by kernel_rfl) (by kernel_rfl) (annot_isOf C34 _ (by kernel_rfl)) fun x S ho => by
  have h1 := x.hs
  have h2 := x.ht
  obtain ⟨U, u1, u2⟩ := F47_spec (ev E0 (fun _ => none) 0) x.s x.t.length S ho (by omega) (by omega)
  have h47 : (ev E0 (fun _ => none) 1).f 47 [sv x.s, .int .u64 (x.t.length : Int)] S = some (.ret (sv (x.s ++ digs x.t.length)), U) := ev_read (c := C47) (d := B47) (by kernel_rfl) (by kernel_rfl) (annot_isOf C47 _ (by kernel_rfl)) rfl u1
  refine ⟨1, .ret (sv (putText x.s x.t)), U, (?_ : F34 (ev E0 (fun _ => none) 1) rounds (sv x.s) (sv x.t) S = some (.ret (sv (putText x.s x.t)), U)), u2, Fz.same (under_sv _)⟩
  rw [F34_eq, lnStr_sv, oB, cvI_int, wrap_u64 (by omega) (by omega), oB]
  dsimp only
  rw [h47, callP_ret, binV_ss]
  have hd := digs_len (n := x.t.length) (by omega)
  rw [strOp_add _ _ (by rw [List.length_append]; omega)]
  rfl
theorem putText_run (n : Nat) {s t : Bs} (hs : s.length < 100000000) (ht : t.length < 1000000) (S : St) : (ev E0 KD (n + 1)).f 34 [sv s, sv t] S = some (.ret (sv (putText s t)), S) := by
 rw [ev_known (g := kfPutText) rfl]
 exact kfPutText_run s t hs (by omega) S
theorem L16_spec {m N : Nat} (ho : S.on = false) {v : V} {l : List Bs} (hl : TL S v l) (hb : l.length < 1000) (hs : ∀ t ∈ l, t.length < 16384) (nk : Ac → St → Rs) (ek : Nat → Ac → St → Rs) :
 ∀ (rest : List Bs) (i q : Nat) (acc : Bs), l.drop i = rest → rest.length < q → acc.length + costL rest < 90000000 →
 L16_8 (ev E0 KD (m + 1)) N nk ek q (sv acc) v (.int .i64 (l.length : Int)) (.int .i64 (i : Int)) S = ek 0 (fr 17 [(3, sv (rest.foldl putText acc))]) S
 | rest, i, 0, acc, _, hq, _ => by omega
 | [], i, q + 1, acc, hi, hq, _ => by
  rw [L16_8_eq, binV_ii, intsV_lss, dec_ge (drop_end hi), oB, ifK_bool, cond_false]
  rfl
 | a :: rest, i, q + 1, acc, hi, hq, hc => by
  obtain ⟨hlt, hf, hrest, hmem⟩ := drop_at hi
  obtain ⟨p, p1, p2⟩ := hl.ld ho (show l[i]? = some a by rw [List.getElem?_eq_getElem hlt, hf])
  have ha := hs a hmem
  have hcc : costL (a :: rest) = costT a + costL rest := by unfold costL; rw [List.map_cons, List.sum_cons]
  rw [L16_8_eq, binV_ii, intsV_lss, dec_lt hlt, oB, ifK_bool, cond_true, p1, oB, p2, oB]
  dsimp only
  rw [putText_run m (by omega) (by omega), callP_ret, binV_ii, intsV_add, wrap_succ (by omega), oB, L16_spec (m := m) (N := N) ho hl hb hs nk ek rest (i + 1) q (putText acc a) hrest (by simp at hq; omega) (by rw [putText_len _ _ ha]; omega), List.foldl_cons]
theorem laid_run (m : Nat) (ho : S.on = false) {v : V} {l : List Bs} (hl : TL S v l) (hb : l.length < 1000) (hs : ∀ t ∈ l, t.length < 16384) (hc : costL l < 90000000) :
 (ev E0 KD (m + 2)).f 16 [v] S = some (.ret (sv (laidL l)), S) := by
 refine rd16 ?_
 show F16 (ev E0 KD (m + 1)) rounds v S = _
 rw [F16_eq, hl.len, oB]
 dsimp only
 rw [show (V.int .i64 0) = .int .i64 ((0 : Nat) : Int) from rfl, L16_spec (m := m) (N := rounds) ho hl hb hs _ _ l 0 rounds [] rfl (by unfold rounds; omega) (by simpa using hc), exB_same, R16_2_eq]
 rfl
theorem L16_on {m N : Nat} (ho : S.on = false) {v : V} {l : List Bs} (hl : TL S v l) (hb : l.length < 1000) (hs : ∀ t ∈ l, t.length < 16384) (nk : Ac → St → Rs) (ek : Nat → Ac → St → Rs) :
 ∀ (rest : List Bs) (i q : Nat) (acc : Bs) (L : List LE), l.drop i = rest → rest.length < q → acc.length + costL rest < 90000000 → (∀ e ∈ L, e.w = false ∧ e.b < S.next) →
 ∃ L', L16_8 (ev E0 KD (m + 1)) N nk ek q (sv acc) v (.int .i64 (l.length : Int)) (.int .i64 (i : Int)) (S.lg L) = ek 0 (fr 17 [(3, sv (rest.foldl putText acc))]) (S.lg L') ∧ ∀ e ∈ L', e.w = false ∧ e.b < S.next
 | rest, i, 0, acc, L, _, hq, _, _ => by omega
 | [], i, q + 1, acc, L, hi, hq, _, hL => by
  refine ⟨L, ?_, hL⟩
  rw [L16_8_eq, binV_ii, intsV_lss, dec_ge (drop_end hi), oB, ifK_bool, cond_false]
  rfl
 | a :: rest, i, q + 1, acc, L, hi, hq, hc, hL => by
  obtain ⟨hlt, hf, hrest, hmem⟩ := drop_at hi
  obtain ⟨r, o, LL, h1, h2, h3⟩ := hl.ix (show l[i]? = some a by rw [List.getElem?_eq_getElem hlt, hf])
  have hr : r < S.next := by
   rcases hl with ⟨rfl, _⟩ | ⟨r', off, L2, _, hlt2, _, _, h5⟩
   · simp at hlt
   · have : r = r' := by
      rcases h5 with rfl | ⟨c, rfl⟩ <;> (
       have hx : (bif Nat.blt i l.length then some (V.ptr r' (off + i * 1)) else none) = some (V.ptr r o) := h1
       rw [blt_true.2 hlt] at hx
       simp only [cond_true, oS, V.ptr.injEq] at hx
       exact hx.1.symm)
     rw [this]; exact hlt2
  have hld := ld1_lg ho (show ld1 (.ptr r o) S = some (sv a, S) from h2.ld1 ho h3) L
  have ha := hs a hmem
  have hcc : costL (a :: rest) = costT a + costL rest := by unfold costL; rw [List.map_cons, List.sum_cons]
  obtain ⟨L', t1, t2⟩ := L16_on (m := m) (N := N) ho hl hb hs nk ek rest (i + 1) q (putText acc a) (⟨r, o, o + 1, false⟩ :: L) hrest (by simp at hq; omega) (by rw [putText_len _ _ ha]; omega) (fun e he => by
   rcases List.mem_cons.1 he with rfl | h
   · exact ⟨rfl, hr⟩
   · exact hL e h)
  refine ⟨L', ?_, t2⟩
  rw [L16_8_eq, binV_ii, intsV_lss, dec_lt hlt, oB, ifK_bool, cond_true, h1, oB, hld, oB]
  dsimp only
  rw [putText_run m (by omega) (by omega), callP_ret, binV_ii, intsV_add, wrap_succ (by omega), oB, t1, List.foldl_cons]
theorem laid_on (m : Nat) (ho : S.on = false) {v : V} {l : List Bs} (hl : TL S v l) (hb : l.length < 1000) (hs : ∀ t ∈ l, t.length < 16384) (hc : costL l < 90000000) :
 ∃ L, (ev E0 KD (m + 2)).f 16 [v] (S.lg []) = some (.ret (sv (laidL l)), S.lg L) ∧ ∀ e ∈ L, e.w = false ∧ e.b < S.next := by
 obtain ⟨L', t1, t2⟩ := L16_on (m := m) (N := rounds) ho hl hb hs (R16_2 (ev E0 KD (m + 1)) rounds (finN E0 (ev E0 KD (m + 1)) Try.f16) noEx) (exB 0 (R16_2 (ev E0 KD (m + 1)) rounds (finN E0 (ev E0 KD (m + 1)) Try.f16) noEx) noEx) l 0 rounds [] [] rfl (by unfold rounds; omega) (by simpa using hc) (fun e he => by cases he)
 refine ⟨L', rd16 ?_, t2⟩
 show F16 (ev E0 KD (m + 1)) rounds v (S.lg []) = _
 rw [F16_eq, hl.len, oB]
 dsimp only
 rw [show (V.int .i64 0) = .int .i64 ((0 : Nat) : Int) from rfl, t1, exB_same, R16_2_eq]
 rfl
end
end Go.Proofs.YtbfdabjcgcbimaaR.W
