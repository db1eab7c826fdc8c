/-
  WHAT THE FUNCTIONS COME TO: each is read by the evaluator, printed, and told as a function of data, part 4 of 4 (no condition).
-/
import Derived.Test.YtcbaodegkfokjaaDoorW3
namespace Go.Proofs.YtcbaodegkfokjaaDoor.W
open Go.Proofs.YtcbaodegkfokjaaDoor.Ev
theorem agAt_cells {s : St} {b e z : Nat} {t : Tr V} (h : AgAt s b e z t) {o : O} (hd : s.heap.get b = some o) (hn : ∀ a c d l m, o ≠ .cells a c d l m) : False := by
 obtain ⟨c, h1, _⟩ := h
 rw [h1] at hd
 cases hd
 exact hn _ _ _ _ _ rfl
theorem fin7 {self : EV} {a : Ac} {p1 p2 : Nat} {t : Tr V} {v : V} (S : St) (ho : S.on = false) (bs : List Nat) (hd : a.defers = bs.map mkR) (h4 : evO E0 a (.tmp 4) = some (.ptr p1 0)) (h5 : evO E0 a (.tmp 5) = some (.ptr p2 0)) (hn : bs.Nodup) (h : ∀ b ∈ bs, S.heap.get b = some .defb)
 (ho1 : AgAt S p1 24 5 t) (ho2 : AgAt S p2 4 1 (one v)) (l1 : p1 < S.next) (l2 : p2 < S.next) : ∃ S', finR E0 self Tryd.f7 a S = some (.ret (.tuple [.agg 5 t, v]), S') ∧ Grew (fun b => b ∈ bs) S S' := by
 have key : ∀ S, S.on = false → AgAt S p1 24 5 t → AgAt S p2 4 1 (one v) → ((evO E0 a (.tmp 4)).bind fun v => (ldRes E0 24 v S).bind fun p => (evO E0 a (.tmp 5)).bind fun w => (ldRes E0 4 w p.2).bind fun q => some (En.ret (.tuple [p.1, q.1]), q.2)) = some (.ret (.tuple [.agg 5 t, v]), S) := fun S ho k1 k2 => by
  rw [h4, oB, show ldRes E0 24 (.ptr p1 0) S = ldrA 5 (.ptr p1 0) S by kernel_rfl, k1.ldrA ho big5, oB, h5, oB]
  dsimp only
  rw [show ldRes E0 4 (.ptr p2 0) S = ldr1 (.ptr p2 0) S by kernel_rfl, k2.ldr_one ho, oB]
 have hlv : ∀ S, leaves E0 self Tryd.f7 a [] .ret S = ((resultsV E0 a Tryd.f7.results.toList S).bind fun q => some (.ret (oneOr q.1), q.2)) := fun S => by kernel_rfl
 have hrk : ∀ S, resK E0 a Tryd.f7.results.toList (fun vs s => some (.ret (oneOr vs), s)) S = ((evO E0 a (.tmp 4)).bind fun v => (ldRes E0 24 v S).bind fun p => (evO E0 a (.tmp 5)).bind fun w => (ldRes E0 4 w p.2).bind fun q => some (En.ret (.tuple [p.1, q.1]), q.2)) := fun S => by kernel_rfl
 cases bs with
 | nil =>
  refine ⟨S, ?_, Grew.refl _ _⟩
  unfold finR
  rw [hd]
  show resK E0 a Tryd.f7.results.toList _ S = _
  rw [hrk S, key S ho ho1 ho2]
 | cons b bs =>
  obtain ⟨S', h1, h2, h3⟩ := leaves_marks (E := E0) (self := self) (fn := Tryd.f7) (a := a) (m := .ret) (b :: bs) ho hn h
  have hne : ∀ {p e z u}, AgAt S p e z u → p ∉ b :: bs := fun hp hm => agAt_cells hp (h _ hm) (fun _ _ _ _ _ hh => by cases hh)
  have o1' := ho1.grew l1 (hne ho1) h2
  have o2' := ho2.grew l2 (hne ho2) h2
  refine ⟨S', ?_, h2⟩
  rw [finR_defer (d := mkR b) (ds := bs.map mkR) (by rw [hd]; rfl)]
  rw [List.map_cons] at h1
  rw [h1]
  exact lvK_sound (ALe.refl a) (by
   have hk : lvK E0 self Tryd.f7 a [] .ret S' = ((evO E0 a (.tmp 4)).bind fun v => (ldRes E0 24 v S').bind fun p => (evO E0 a (.tmp 5)).bind fun w => (ldRes E0 4 w p.2).bind fun q => some (En.ret (.tuple [p.1, q.1]), q.2)) := by kernel_rfl
   rw [hk, key S' (h2.on.trans ho) o1' o2'])
structure FindIn where
 x : Nd
 ok : x.ok
 p : List UInt8
 hp : p.length ≤ 1000
noncomputable def encFind (q : FindIn) : List V := [encN q.x, sv q.p]
noncomputable def outFind (x : Nd) (p : List UInt8) : V := .tuple [encN ((findS x p).getD zN), .bool (findS x p).isSome]
noncomputable def kfFind : KF := specKF encFind (fun q => En.ret (outFind q.x q.p))
theorem kfFind_run (x : Nd) (ok : x.ok) (p : List UInt8) (hp : p.length ≤ 1000) (S : St) : kfFind.run [encN x, sv p] S = some (.ret (outFind x p), S) :=
 specKF_run (enc := encFind) (out := fun q => En.ret (outFind q.x q.p)) (fun a b h => by
  simp only [encFind, List.cons.injEq, and_true] at h
  rw [encN_inj h.1, sv_inj h.2]) ⟨x, ok, p, hp⟩ S
theorem F7_spec {K : FuncId → Option KF} (h21 : K 21 = none) (h31 : K 31 = none) (h22 : K 22 = none) (h23 : K 23 = none) (h43 : K 43 = none) (h44 : K 44 = none) (h48 : K 48 = none) (h52 : K 52 = none) (x : Nd) (ok : x.ok) (p : List UInt8) (hp : p.length ≤ 1000) (S : St) (ho : S.on = false) :
 ∃ S', F7 (ev E0 K 10) rounds (encN x) (sv p) S = some (.ret (outFind x p), S') ∧ Grew (fun _ => False) S S' := by
 obtain ⟨S1, k1, k2, k3, k4⟩ := box_new ho 24 (cellsN x)
 have on1 := k3.on.trans ho
 obtain ⟨t0, b0, bget⟩ := VarAt.agg (Bx.var k2 (by show 0 < 5; decide) big5)
 have b0 : AgAt S1 S.next 24 5 t0 := b0
 have l1 : ldA 5 (.ptr S.next 0) S1 = some (encN x, S1) := by rw [encN_cells]; exact Bx.ldA on1 k2 rfl big5
 obtain ⟨c1, c2, c3⟩ := ag_new on1 24 5 (Tr.ofListFrom .nil [(sv []), (.int .i64 0), (.bool false), (sv []), .nilslice] 0)
 have hF := F7_eq (ev E0 K 10) rounds (encN x) (sv p) S
 rw [encN_cells, k1, oB, oB, nwP_fst] at hF
 dsimp only at hF
 generalize (nwP 24 5 (Tr.ofListFrom .nil [(sv []), (.int .i64 0), (.bool false), (sv []), .nilslice] 0) S1).2 = S2 at c1 c2 c3 hF
 have on2 := c2.on.trans on1
 obtain ⟨d1, d2, d3⟩ := ag_new on2 4 1 (one (.bool false))
 rw [oB, nwP_fst] at hF
 generalize (nwP 4 1 (one (.bool false)) S2).2 = S3 at d1 d2 d3 hF
 have on3 := d2.on.trans on2
 have c1' := c1.grew (by omega) (fun h => h) d2
 have k2' : Bx S3 S.next 24 (cellsN x) := (k2.grew (by omega) (fun h => h) c2).grew (by omega) (fun h => h) d2
 have b0' : AgAt S3 S.next 24 5 (treeN x) := by
  refine ⟨Tr.ofListFrom .nil [treeN x] 0, k2', by rw [Tr.get_ofList]; rfl⟩
 have g03 : Grew (fun _ => False) S S3 := (k3.trans c2).trans d2
 rw [show (sv []) = sv ([] : List UInt8) from rfl, binV_ss, strOp_eql, oB, ifK_bool] at hF
 rw [encN_cells x, hF]
 clear hF
 by_cases hpe : p = []
 · have hfind : outFind x p = .tuple [encN x, .bool true] := by unfold outFind findS; rw [if_pos hpe]; rfl
   rw [beq_iff_eq.2 hpe, cond_true]
   obtain ⟨S4, e1, e2, e3, e4⟩ := c1'.stA on3 big5 (treeN x)
   have on4 := e3.on.trans on3
   have d1' := d1.grew (by omega) (by omega) e3
   obtain ⟨S5, f1, f2, f3, f4⟩ := d1'.st_one on4 (.bool true) rfl rfl rfl
   have on5 := f3.on.trans on4
   have e2' := e2.grew (by omega) (by omega) f3
   rw [b0'.ldA on3 big5, oB]
   dsimp only
   rw [e1, oB]
   dsimp only
   rw [f1, oB]
   obtain ⟨S6, g1, g2⟩ := fin7 (self := ev E0 K 10) (p1 := S1.next) (p2 := S2.next) (a := frD 34 [(0, vAgg (cellsN x)), (1, sv p), (2, .ptr S.next 0), (4, .ptr S1.next 0), (5, .ptr S2.next 0), (8, sv p), (9, .bool true), (10, .agg 5 (treeN x))] []) S5 on5 [] rfl (by kernel_rfl) (by kernel_rfl) List.nodup_nil (fun _ h => by cases h) e2' f2 (by omega) (by omega)
   refine ⟨S6, ?_, ?_⟩
   · rw [hfind, encN_tree]
     exact g1
   · refine ⟨by have := g2.next; have := f3.next; have := e3.next; have := g03.next; omega, (g2.on.trans on5).trans ho.symm, fun y hy _ => ?_⟩
     rw [g2.keep y (by have := f3.next; have := e3.next; have := g03.next; omega) (fun h => by cases h), f3.keep y (by omega) (by omega), e3.keep y (by omega) (by omega), g03.keep y hy (fun h => h)]
 · rw [beq_false_of_ne hpe, cond_false]
   obtain ⟨S4, e1, e2, e3, e4, e5, e6⟩ := f21_run h21 h31 8 p S3 on3
   have on4 := e5.on.trans on3
   have g5 : Grew (fun _ => False) S4 (nw (nw S4 .defb) (O7_14 0 none (.ptr S.next 0) (.ptr S1.next 0) (.ptr S2.next 0))) := (grew_nw on4 _ _).trans (grew_nw (nw_on on4 _) _ _)
   have n5 : (nw (nw S4 .defb) (O7_14 0 none (.ptr S.next 0) (.ptr S1.next 0) (.ptr S2.next 0))).next = S4.next + 2 := rfl
   have hd5 : (nw (nw S4 .defb) (O7_14 0 none (.ptr S.next 0) (.ptr S1.next 0) (.ptr S2.next 0))).heap.get S4.next = some .defb := by
    rw [nw_get, if_neg (by show S4.next ≠ S4.next + 1; omega), nw_get, if_pos rfl]
   have hl5 : (nw (nw S4 .defb) (O7_14 0 none (.ptr S.next 0) (.ptr S1.next 0) (.ptr S2.next 0))).heap.get (S4.next + 1) = some (O7_14 0 none (.ptr S.next 0) (.ptr S1.next 0) (.ptr S2.next 0)) := by
    rw [nw_get]; exact if_pos rfl
   have hrange := fun (self : EV) (kn kr : St → Rs) (ke : Nat → St → Rs) (kp : V → St → Rs) => rangeP_fn (s := S4) (self := self) (first := []) (captured := [.ptr (S3.next + 1) 0, .ptr S3.next 0, .ptr (S3.next + 2) 0]) (o := O7_14 0 none (.ptr S.next 0) (.ptr S1.next 0) (.ptr S2.next 0)) (kn := kn) (kr := kr) (ke := ke) (kp := kp) body44.1 body44.2
   generalize nw (nw S4 .defb) (O7_14 0 none (.ptr S.next 0) (.ptr S1.next 0) (.ptr S2.next 0)) = S5 at g5 n5 hd5 hl5 hrange
   have on5 := g5.on.trans on4
   have g35 : Grew (fun _ => False) S3 S5 := e5.trans g5
   have hI : FindI (S4.next + 1) S.next S1.next S2.next (fun b => b < S5.next ∧ b ≠ S4.next + 1 ∧ b ≠ S.next ∧ b ≠ S1.next ∧ b ≠ S2.next) x S5 :=
    ⟨on5, fun b hb => hb.1, fun hb => hb.2.1 rfl, fun hb => hb.2.2.1 rfl, fun hb => hb.2.2.2.1 rfl, fun hb => hb.2.2.2.2 rfl, by omega, by omega, by omega, by omega, by omega, by omega, by omega, by omega, by omega, by omega, ok, hl5, b0'.grew (by omega) (fun h => h) g35, ⟨_, c1'.grew (by omega) (fun h => h) g35⟩, ⟨_, d1.grew (by omega) (fun h => h) g35⟩⟩
   have own : ∀ b, S3.next ≤ b → b < S4.next + 1 → b < S5.next ∧ b ≠ S4.next + 1 ∧ b ≠ S.next ∧ b ≠ S1.next ∧ b ≠ S2.next := fun b h1 h2 => ⟨by omega, by omega, by omega, by omega, by omega⟩
   obtain ⟨S6, q1, q2, q3, q4⟩ := split_run (find_ys h22 h23 (S4.next + 1) S.next S1.next S2.next) h43 h52 h48 h44 6 (by omega) (b1 := S3.next + 1) (b2 := S3.next) (b3 := S3.next + 2) (by omega) (by omega) (own _ (by omega) (by omega)) (own _ (by omega) (by omega)) (own _ (by omega) (by omega)) hp hI
    (e3.grew (by omega) (fun h => h) g5) (e2.grew (by omega) (fun h => h) g5) (e4.grew (by omega) (fun h => h) g5)
   have on6 := q4.on.trans on5
   have n6 := q4.next
   have hd6 : S6.heap.get S4.next = some .defb := by
    rw [q4.keep S4.next (by omega) (fun h => by
     rcases h with h | h
     · exact h (own _ (by omega) (by omega))
     · omega)]
    exact hd5
   have hold : ∀ y, y < S.next → S6.heap.get y = S.heap.get y := fun y hy => by
    have hy3 : y < S3.next := by have := g03.next; omega
    rw [q4.keep y (by have := g35.next; omega) (fun h => by
     rcases h with h | h
     · exact h ⟨by have := g35.next; omega, by omega, by omega, by omega, by omega⟩
     · omega), g35.keep y hy3 (fun h => h), g03.keep y hy (fun h => h)]
   rw [show ev E0 K 10 = ev E0 K (8 + 2) from rfl, e1, callPF_ret, hrange]
   show ∃ S', onEn ((ev E0 K (6 + 4)).f 44 [.yield (S4.next + 1), .ptr (S3.next + 1) 0, .ptr S3.next 0, .ptr (S3.next + 2) 0] S5) _ _ = _ ∧ _
   rw [q1]
   show ∃ S', endLP (S4.next + 1) S6 _ _ _ = _ ∧ _
   have hfind : findS x p = runP stepF (splitS p) x := by unfold findS; rw [if_neg hpe]
   cases hr : runP stepF (splitS p) x with
   | some y =>
    have hI6 := q2 y hr
    have hend : ∀ (kn kr : St → Rs) (ke : Nat → St → Rs), endLP (S4.next + 1) S6 kn kr ke = kn (S6.put (S4.next + 1) (O7_14 3 none (.ptr S.next 0) (.ptr S1.next 0) (.ptr S2.next 0))) := fun kn kr ke => endLP_norm (kn := kn) (kr := kr) (ke := ke) on6 hI6.rec_ (by decide)
    have g7 : Grew (fun b => b = S4.next + 1) S6 (S6.put (S4.next + 1) (O7_14 3 none (.ptr S.next 0) (.ptr S1.next 0) (.ptr S2.next 0))) := grew_put _ _
    have n7 : (S6.put (S4.next + 1) (O7_14 3 none (.ptr S.next 0) (.ptr S1.next 0) (.ptr S2.next 0))).next = S6.next := rfl
    generalize S6.put (S4.next + 1) (O7_14 3 none (.ptr S.next 0) (.ptr S1.next 0) (.ptr S2.next 0)) = S7 at hend g7 n7
    have on7 := g7.on.trans on6
    have nd7 := hI6.node.grew hI6.l0 hI6.n0 g7
    obtain ⟨u1, ou1⟩ := hI6.out
    have ou7 := ou1.grew hI6.l1 hI6.n1 g7
    obtain ⟨u2, is1⟩ := hI6.is
    have is7 := is1.grew hI6.l2 hI6.n2 g7
    obtain ⟨S8, r1, r2, r3, r4⟩ := ou7.stA on7 big5 (treeN y)
    have on8 := r3.on.trans on7
    have is8 := is7.grew (by omega) (by omega) r3
    obtain ⟨S9, s1, s2, s3, s4⟩ := is8.st_one on8 (.bool true) rfl rfl rfl
    have on9 := s3.on.trans on8
    have hd9 : S9.heap.get S4.next = some .defb := by
     rw [s3.keep S4.next (by omega) (by omega), r3.keep S4.next (by omega) (by omega), g7.keep S4.next (by omega) (by omega)]
     exact hd6
    obtain ⟨Sf, w1, w2⟩ := fin7 (self := ev E0 K (8 + 2)) (p1 := S1.next) (p2 := S2.next) (a := frD 34 [(2, .ptr S.next 0), (4, .ptr S1.next 0), (5, .ptr S2.next 0), (33, .agg 5 (treeN y))] [mkR S4.next]) S9 on9 [S4.next] rfl (by kernel_rfl) (by kernel_rfl) (List.nodup_cons.2 ⟨by simp, List.nodup_nil⟩) (fun b hb => by rw [List.mem_singleton.1 hb]; exact hd9) (r2.grew (by omega) (by omega) s3) s2 (by omega) (by omega)
    refine ⟨Sf, ?_, ?_⟩
    · rw [hend, R7_8_eq, nd7.ldA on7 big5, oB]
      dsimp only
      rw [r1, oB]
      dsimp only
      rw [s1, oB]
      have : outFind x p = .tuple [.agg 5 (treeN y), .bool true] := by
       unfold outFind
       rw [hfind, hr]
       show V.tuple [encN y, .bool true] = _
       rw [encN_tree]
      rw [this]
      exact w1
    · refine ⟨by have := w2.next; have := g35.next; have := g03.next; omega, (w2.on.trans on9).trans ho.symm, fun z hz _ => ?_⟩
      have := g35.next
      have := g03.next
      rw [w2.keep z (by omega) (fun h => by rw [List.mem_singleton] at h; omega), s3.keep z (by omega) (by omega), r3.keep z (by omega) (by omega), g7.keep z (by omega) (by omega)]
      exact hold z hz
   | none =>
    have hJ := q3 hr
    have hend : ∀ (kn kr : St → Rs) (ke : Nat → St → Rs), endLP (S4.next + 1) S6 kn kr ke = kr (S6.put (S4.next + 1) (O7_14 3 (some .ret) (.ptr S.next 0) (.ptr S1.next 0) (.ptr S2.next 0))) := fun kn kr ke => endLP_ret (kn := kn) (kr := kr) (ke := ke) on6 hJ.rec_ (by decide)
    have g7 : Grew (fun b => b = S4.next + 1) S6 (S6.put (S4.next + 1) (O7_14 3 (some .ret) (.ptr S.next 0) (.ptr S1.next 0) (.ptr S2.next 0))) := grew_put _ _
    have n7 : (S6.put (S4.next + 1) (O7_14 3 (some .ret) (.ptr S.next 0) (.ptr S1.next 0) (.ptr S2.next 0))).next = S6.next := rfl
    generalize S6.put (S4.next + 1) (O7_14 3 (some .ret) (.ptr S.next 0) (.ptr S1.next 0) (.ptr S2.next 0)) = S7 at hend g7 n7
    have on7 := g7.on.trans on6
    have hd7 : S7.heap.get S4.next = some .defb := by
     rw [g7.keep S4.next (by omega) (by omega)]
     exact hd6
    obtain ⟨Sf, w1, w2⟩ := fin7 (self := ev E0 K (8 + 2)) (p1 := S1.next) (p2 := S2.next) (a := frD 34 [(0, vAgg (cellsN x)), (1, sv p), (2, .ptr S.next 0), (4, .ptr S1.next 0), (5, .ptr S2.next 0), (8, sv p), (9, .bool false), (11, sv p), (12, .fn (.func 44) [] [.ptr (S3.next + 1) 0, .ptr S3.next 0, .ptr (S3.next + 2) 0])] [mkR S4.next]) S7 on7 [S4.next] rfl (by kernel_rfl) (by kernel_rfl) (List.nodup_cons.2 ⟨by simp, List.nodup_nil⟩) (fun b hb => by rw [List.mem_singleton.1 hb]; exact hd7) (hJ.out.grew hJ.l1 (by omega) g7) (hJ.is.grew hJ.l2 (by omega) g7) (by have := hJ.l1; omega) (by have := hJ.l2; omega)
    refine ⟨Sf, ?_, ?_⟩
    · have : outFind x p = .tuple [.agg 5 (treeN zN), .bool false] := by
       unfold outFind
       rw [hfind, hr]
       show V.tuple [encN zN, .bool false] = _
       rw [encN_tree]
      rw [hend, this]
      exact w1
    · refine ⟨by have := w2.next; have := g35.next; have := g03.next; omega, (w2.on.trans on7).trans ho.symm, fun z hz _ => ?_⟩
      have := g35.next
      have := g03.next
      rw [w2.keep z (by omega) (fun h => by rw [List.mem_singleton] at h; omega), g7.keep z (by omega) (by omega)]
      exact hold z hz
theorem kn7 {K : FuncId → Option KF} (hK : KnOk Tryd.prog E0 K) (h21 : K 21 = none) (h31 : K 31 = none) (h22 : K 22 = none) (h23 : K 23 = none) (h43 : K 43 = none) (h44 : K 44 = none) (h48 : K 48 = none) (h52 : K 52 = none) : KnWell Tryd.prog E0 7 kfFind :=
 specKF_text (fn := Tryd.f7) (c := C7) (d := B7) E0_ok hK (by kernel_rfl) (by kernel_rfl) (annot_isOf C7 _ (by kernel_rfl)) fun q S ho => by
  obtain ⟨x, ok, p, hp⟩ := q
  obtain ⟨S', h1, h2⟩ := F7_spec h21 h31 h22 h23 h43 h44 h48 h52 x ok p hp S ho
  exact ⟨10, .ret (outFind x p), S', h1, h2, Fz.same (.tuple (.cons (under_encN _ _) (.cons (.bool _) .nil)))⟩
end Go.Proofs.YtcbaodegkfokjaaDoor.W
namespace Go.Proofs.YtcbaodegkfokjaaDoor.W
open Go.Proofs.YtcbaodegkfokjaaDoor.Ev Go.RowKit
theorem works_runs : saysTrue ((ev E0 (fun _ => none) 400).f 5 [] s0) = true := by decide +kernel
theorem kn5 : KnWell Tryd.prog E0 5 kfTrue := by
 refine ⟨specKF_loc, fun w0 ρ s w args cargs e t hR hv hg => ?_⟩
 unfold kfTrue specKF at hg
 simp only at hg
 by_cases hx : ∃ x : Unit, ([] : List V) = args
 · rw [dif_pos hx] at hg
   simp only [oS, pM] at hg
   obtain ⟨rfl, rfl⟩ := hg
   obtain ⟨_, rfl⟩ := hx
   obtain ⟨l⟩ := cargs
   cases hv
   exact (closed_walk E0_ok knOk_nil glob0 works_runs w).mono fun ce w' ⟨h1, h2⟩ => ⟨ρ, .bool true, h1, Rho.le_refl ρ, .bool true, hR.grown h2⟩
 · rw [dif_neg hx] at hg; cases hg
noncomputable def K1 := knAdd (fun _ => none) 5 kfTrue
theorem ok1 : KnOk Tryd.prog E0 K1 := knOk_nil.add kn5
noncomputable def K2 := knAdd K1 19 kfCut
theorem ok2 : KnOk Tryd.prog E0 K2 := ok1.add (kn19 ok1)
noncomputable def K3 := knAdd K2 20 kfFewer
theorem ok3 : KnOk Tryd.prog E0 K3 := ok2.add (kn20 ok2)
noncomputable def K4 := knAdd K3 6 kfSmall
theorem ok4 : KnOk Tryd.prog E0 K4 := ok3.add (kn6 ok3 rfl rfl)
noncomputable def K5 := knAdd K4 7 kfFind
theorem ok5 : KnOk Tryd.prog E0 K5 := ok4.add (kn7 ok4 rfl rfl rfl rfl rfl rfl rfl rfl)
theorem cut60 (s : List UInt8) (S : St) : sliceV E0 9 (sv s) none (some (.int .i64 ((min s.length 60 : Nat) : Int))) none S = some (sv (s.take 60), S) := by
 rw [slice_sv und9 s (bounds_hi .i64 (Nat.min_le_left ..)) (Nat.min_le_left ..), List.drop_zero, Nat.sub_zero, take_min]
theorem exOut (x : Nd) (p : List UInt8) : extractV (outFind x p) 0 = some (encN ((findS x p).getD zN)) ∧ extractV (outFind x p) 1 = some (.bool (findS x p).isSome) := ⟨rfl, rfl⟩
theorem F3_spec (r : Rw) (hr : AllOk r) (a b : List UInt8) (S : St) (ho : S.on = false) : ∃ S', F3 (ev E0 K5 1) rounds (rwV r) (sv a) (sv b) S = some (.ret (.bool true), S') := by
 have okr := allOk_deep 16 r hr
 have ok := small_ok r okr
 have hF := F3_eq (ev E0 K5 1) rounds (rwV r) (sv a) (sv b) S
 obtain ⟨S1, k1, k2, k3, k4⟩ := box_new ho 24 (cellsR r)
 have on1 := k3.on.trans ho
 obtain ⟨t1, p1, _⟩ := VarAt.agg (Bx.var k2 (by show 0 < 5; decide) big5)
 have p1 : AgAt S1 S.next 24 5 t1 := p1
 have q1 : ldA 5 (.ptr S.next 0) S1 = some (vAgg (cellsR r), S1) := Bx.ldA on1 k2 rfl big5
 obtain ⟨S2, a1, a2, a3, a4⟩ := p1.stA on1 big5 (treeN (smallN r))
 have on2 := a3.on.trans on1
 rw [rwV_cells, k1, oB] at hF
 dsimp only at hF
 rw [ev_known (show K5 5 = some kfTrue from rfl), kfTrue_run, callP_ret, unV_not, oB, Bool.not_true, ifK_bool, cond_false, q1, oB] at hF
 dsimp only at hF
 rw [← rwV_cells, ev_known (show K5 6 = some kfSmall from rfl), kfSmall_run r okr, callP_ret, encN_tree, a1, oB] at hF
 dsimp only at hF
 generalize smallN r = x at ok a2 hF
 have l2 : ldA 5 (.ptr S.next 0) S2 = some (encN x, S2) := by rw [encN_tree]; exact a2.ldA on2 big5
 have la : (a.take 60).length ≤ 60 := by rw [List.length_take]; omega
 have lb : (b.take 60).length ≤ 60 := by rw [List.length_take]; omega
 rw [lnStr_sv, oB] at hF
 dsimp only at hF
 rw [foldK_min, show min (a.length : Int) 60 = ((min a.length 60 : Nat) : Int) by omega, oB] at hF
 dsimp only at hF
 rw [cut60, oB] at hF
 dsimp only at hF
 rw [lnStr_sv, oB] at hF
 dsimp only at hF
 rw [foldK_min, show min (b.length : Int) 60 = ((min b.length 60 : Nat) : Int) by omega, oB] at hF
 dsimp only at hF
 rw [cut60, oB] at hF
 dsimp only at hF
 generalize a.take 60 = c at la hF
 generalize b.take 60 = d at lb hF
 have find : ∀ (p : List UInt8) (y : Nd) (S : St), y.ok → p.length ≤ 1000 → (ev E0 K5 1).f 7 [encN y, sv p] S = some (.ret (outFind y p), S) := fun p y S oky hp => by
  rw [ev_known (show K5 7 = some kfFind from rfl), kfFind_run y oky p hp]
 have hle : (c ++ d).length ≤ 1000 := by rw [List.length_append]; omega
 have hplus : ∀ c d : List UInt8, c.length ≤ 60 → d.length ≤ 61 → binV E0 .add 9 false false (sv c) (sv d) = some (sv (c ++ d)) := fun c d hc hd => by
  rw [binV_ss, strOp_add _ _ (by omega)]
 have okd : ∀ (p : List UInt8), ((findS x p).getD zN).ok := fun p => by
  cases h : findS x p with
  | none =>
   show zN.ok
   unfold zN
   rw [Nd.ok]
   exact ⟨by decide, by decide, by decide, by decide, by decide, trivial⟩
  | some y => exact findS_ok ok h
 rw [show (sv []) = sv ([] : List UInt8) from rfl, binV_ss, strOp_eql, oB, guardV_f, oB] at hF
 rw [hF]
 clear hF
 have empty : c = [] ∨ d = [] → ∃ S', ((ldA 5 (.ptr S.next 0) S2).bind fun p26 =>
(binV E0 .add 9 false false (sv c) (sv d)).bind fun t29 =>
callP ((ev E0 K5 1).f 7 [p26.1, t29] p26.2) fun t30 S30 =>
(extractV t30 0).bind fun t32 =>
(extractV t30 1).bind fun t33 =>
(some (nwP 24 5 (Tr.ofListFrom .nil [(sv []), (.int .i64 0), (.bool false), (sv []), .nilslice] 0) S30)).bind fun p34 =>
(stP 5 p34.1 t32 p34.2).bind fun p35 =>
(ldA 5 (.ptr S.next 0) p35.2).bind fun p37 =>
(binV E0 .add 9 false false (sv d) (sv c)).bind fun t40 =>
callP ((ev E0 K5 1).f 7 [p37.1, t40] p37.2) fun t41 S41 =>
(extractV t41 0).bind fun t43 =>
(extractV t41 1).bind fun t44 =>
(some (nwP 24 5 (Tr.ofListFrom .nil [(sv []), (.int .i64 0), (.bool false), (sv []), .nilslice] 0) S41)).bind fun p45 =>
(stP 5 p45.1 t43 p45.2).bind fun p46 =>
(binV E0 .eql 4 false false t33 t44).bind fun t50 =>
(guardV true t50).bind fun g52 => (bif g52 then faP 0 false 1 p34.1 else some (.tuple [])).bind fun t52 =>
(guardV true t50).bind fun g53 => (bif g53 then ld1 t52 p46.2 else some (.tuple [], p46.2)).bind fun p53 =>
(guardV true t50).bind fun g54 => (bif g54 then faP 0 false 1 p45.1 else some (.tuple [])).bind fun t54 =>
(guardV true t50).bind fun g55 => (bif g55 then ld1 t54 p53.2 else some (.tuple [], p53.2)).bind fun p55 =>
(guardV true t50).bind fun g56 => (bif g56 then binV E0 .eql 9 false false p53.1 p55.1 else some (.tuple [])).bind fun t56 =>
(pickV t50 (some t56) (some (.bool false))).bind fun t57 =>
(guardV true t57).bind fun g59 => (bif g59 then faP 1 false 1 p34.1 else some (.tuple [])).bind fun t59 =>
(guardV true t57).bind fun g60 => (bif g60 then ld1 t59 p55.2 else some (.tuple [], p55.2)).bind fun p60 =>
(guardV true t57).bind fun g61 => (bif g61 then faP 1 false 1 p45.1 else some (.tuple [])).bind fun t61 =>
(guardV true t57).bind fun g62 => (bif g62 then ld1 t61 p60.2 else some (.tuple [], p60.2)).bind fun p62 =>
(guardV true t57).bind fun g63 => (bif g63 then binV E0 .eql 3 false false p60.1 p62.1 else some (.tuple [])).bind fun t63 =>
(pickV t57 (some t63) (some (.bool false))).bind fun t64 =>
some (En.ret t64, p62.2)) = some (.ret (.bool true), S') := fun he => by
  have hcd : d ++ c = c ++ d := by rcases he with rfl | rfl <;> simp
  obtain ⟨S3, b1, b2, b3, b4⟩ := node_new on2 (Tr.ofListFrom .nil [(sv []), (.int .i64 0), (.bool false), (sv []), .nilslice] 0) ((findS x (c ++ d)).getD zN)
  have on3 := b3.on.trans on2
  have l3 : ldA 5 (.ptr S.next 0) S3 = some (encN x, S3) := by rw [encN_tree]; exact (a2.grew (by omega) (fun h => h) b3).ldA on3 big5
  obtain ⟨S4, c1, c2, c3, c4⟩ := node_new on3 (Tr.ofListFrom .nil [(sv []), (.int .i64 0), (.bool false), (sv []), .nilslice] 0) ((findS x (c ++ d)).getD zN)
  have b2' := b2.grew (by omega) (fun h => h) c3
  rw [l2, oB]
  dsimp only
  rw [hplus c d la (by omega), oB, find _ x S2 ok hle, callP_ret, (exOut x (c ++ d)).1, oB, (exOut x (c ++ d)).2, oB, oB, nwP_fst, b1, oB]
  dsimp only
  rw [l3, oB]
  dsimp only
  rw [hplus d c lb (by omega), oB, hcd, find _ x S3 ok hle, callP_ret, (exOut x (c ++ d)).1, oB, (exOut x (c ++ d)).2, oB, oB, nwP_fst, c1, oB]
  dsimp only
  rw [eqv_bool, beq_self_eq_true, oB, guardV_t, oB, cond_true, faP_ptr, Nat.zero_add, oB, oB, cond_true, b2'.f0, oB, oB, cond_true, faP_ptr, Nat.zero_add, oB, oB, cond_true]
  dsimp only
  rw [c2.f0, oB, oB, cond_true]
  dsimp only
  rw [binV_ss, strOp_eql, beq_self_eq_true, oB, pickV_bool, cond_true, oB, guardV_t, oB, cond_true, faP_ptr, Nat.zero_add, oB, oB, cond_true, b2'.f1, oB, oB, cond_true, faP_ptr, Nat.zero_add, oB, oB, cond_true]
  dsimp only
  rw [c2.f1, oB, oB, cond_true]
  dsimp only
  rw [binV_ii, intsV_eql, decide_eq_true rfl, oB, pickV_bool, cond_true, oB]
  exact ⟨S4, rfl⟩
 by_cases hc : c = []
 · rw [beq_iff_eq.2 hc, Bool.not_true, cond_false, oB, oB, cond_false, oB, pickV_bool, cond_true, oB, ifK_bool, cond_true]
   exact empty (.inl hc)
 · rw [beq_false_of_ne hc, Bool.not_false, cond_true, oB, oB, cond_true, binV_ss, strOp_eql, oB, pickV_bool, cond_false, oB, ifK_bool]
   by_cases hd : d = []
   · rw [beq_iff_eq.2 hd, cond_true]
     exact empty (.inr hd)
   · clear empty
     have hparts := findS_parts hc hd x
     have hle2 : (c ++ 47 :: d).length ≤ 1000 := by rw [List.length_append, List.length_cons]; omega
     obtain ⟨S3, b1, b2, b3, b4⟩ := node_new on2 (Tr.ofListFrom .nil [(sv []), (.int .i64 0), (.bool false), (sv []), .nilslice] 0) ((findS x (c ++ 47 :: d)).getD zN)
     have on3 := b3.on.trans on2
     have l3 : ldA 5 (.ptr S.next 0) S3 = some (encN x, S3) := by rw [encN_tree]; exact (a2.grew (by omega) (fun h => h) b3).ldA on3 big5
     obtain ⟨S4, c1, c2, c3, c4⟩ := node_new on3 (Tr.ofListFrom .nil [(sv []), (.int .i64 0), (.bool false), (sv []), .nilslice] 0) ((findS x c).getD zN)
     have on4 := c3.on.trans on3
     have b2' := b2.grew (by omega) (fun h => h) c3
     rw [beq_false_of_ne hd, cond_false, l2, oB]
     dsimp only
     rw [show binV E0 .add 9 false true (sv c) (sv [47]) = some (sv (c ++ [47])) by rw [binV_ss, strOp_add _ _ (by rw [show ([47] : List UInt8).length = 1 from rfl]; omega)], oB, show binV E0 .add 9 false false (sv (c ++ [47])) (sv d) = some (sv (c ++ 47 :: d)) by rw [binV_ss, strOp_add _ _ (by rw [List.length_append, show ([47] : List UInt8).length = 1 from rfl]; omega), List.append_assoc]; rfl, oB, find _ x S2 ok hle2, callP_ret, (exOut x _).1, oB, (exOut x _).2, oB, oB, nwP_fst, b1, oB]
     dsimp only
     rw [l3, oB]
     dsimp only
     rw [find _ x S3 ok (by omega), callP_ret, (exOut x c).1, oB, (exOut x c).2, oB, oB, nwP_fst, c1, oB]
     dsimp only
     rw [unV_not, oB, ifK_bool]
     cases hfc : findS x c with
     | none =>
      have hall : findS x (c ++ 47 :: d) = none := by rw [hparts, hfc]; rfl
      rw [show (!((none : Option Nd).isSome)) = true from rfl, cond_true, hall, unV_not, oB, show (!((none : Option Nd).isSome)) = true from rfl, guardV_t, oB, cond_true, faP_ptr, Nat.zero_add, oB, oB, cond_true]
      rw [hall] at b2'
      rw [b2'.f1, oB, oB, cond_true]
      dsimp only
      rw [binV_ii, intsV_eql, show decide (((none : Option Nd).getD zN).kind = 0) = true from rfl, oB, pickV_bool, cond_true, oB]
      exact ⟨S4, rfl⟩
     | some y =>
      have hall : findS x (c ++ 47 :: d) = findS y d := by rw [hparts, hfc]; rfl
      have oky := findS_ok ok hfc
      rw [hfc] at c2
      rw [hall] at b2'
      obtain ⟨S5, d1, d2, d3, d4⟩ := node_new on4 (Tr.ofListFrom .nil [(sv []), (.int .i64 0), (.bool false), (sv []), .nilslice] 0) ((findS y d).getD zN)
      have b2'' := b2'.grew (by omega) (fun h => h) d3
      rw [show (!((some y : Option Nd).isSome)) = false from rfl, cond_false, c2.fA, oB]
      dsimp only
      rw [show (some y : Option Nd).getD zN = y from rfl, find _ y S4 oky (by omega), callP_ret, (exOut y d).1, oB, (exOut y d).2, oB, oB, nwP_fst, d1, oB]
      dsimp only
      generalize (findS y d).getD zN = w at b2'' d2
      rw [hall, eqv_bool, beq_self_eq_true, oB, guardV_t, oB, cond_true, faP_ptr, Nat.zero_add, oB, oB, cond_true, b2''.f0, oB, oB, cond_true, faP_ptr, Nat.zero_add, oB, oB, cond_true]
      dsimp only
      rw [d2.f0, oB, oB, cond_true]
      dsimp only
      rw [binV_ss, strOp_eql, beq_self_eq_true, oB, pickV_bool, cond_true, oB, guardV_t, oB, cond_true, faP_ptr, Nat.zero_add, oB, oB, cond_true, b2''.f1, oB, oB, cond_true, faP_ptr, Nat.zero_add, oB, oB, cond_true]
      dsimp only
      rw [d2.f1, oB, oB, cond_true]
      dsimp only
      rw [binV_ii, intsV_eql, decide_eq_true rfl, oB, pickV_bool, cond_true, oB, guardV_t, oB, cond_true, faP_ptr, Nat.zero_add, oB, oB, cond_true, b2''.f3, oB, oB, cond_true, faP_ptr, Nat.zero_add, oB, oB, cond_true]
      dsimp only
      rw [d2.f3, oB, oB, cond_true]
      dsimp only
      rw [binV_ss, strOp_eql, beq_self_eq_true, oB, pickV_bool, cond_true, oB, guardV_t, oB, cond_true, faP_ptr, Nat.zero_add, oB, oB, cond_true, b2''.f4, oB, oB, cond_true]
      dsimp only
      rw [lnS_kids, oB, oB, cond_true, faP_ptr, Nat.zero_add, oB, oB, cond_true]
      dsimp only
      rw [d2.f4, oB, oB, cond_true]
      dsimp only
      rw [lnS_kids, oB, oB, cond_true]
      dsimp only
      rw [binV_ii, intsV_eql, decide_eq_true rfl, oB, pickV_bool, cond_true, oB]
      exact ⟨S5, rfl⟩
end Go.Proofs.YtcbaodegkfokjaaDoor.W
