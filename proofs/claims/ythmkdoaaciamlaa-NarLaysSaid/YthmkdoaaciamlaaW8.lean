/-
  WHAT THE FUNCTIONS COME TO: each is read by the evaluator, printed, and told as a function of data, part 8 of 8 (no condition).
-/
import Derived.Test.YthmkdoaaciamlaaW7
/-
  THE LAW's CALL: what is known, and that it comes to true.
-/
namespace Go.Proofs.Ythmkdoaaciamlaa.W
open Go.Proofs.Ythmkdoaaciamlaa.Ev Go.RowKit

theorem glob0 : ∀ g, E0.glob.get g = none := fun _ => rfl
theorem works_runs : saysTrue ((ev E0 (fun _ => none) 400).f 11 [] s0) = true := by decide +kernel
noncomputable def kfTrue : KF := specKF (fun _ : Unit => []) (fun _ => En.ret (.bool true))
theorem kfTrue_run (S : St) : kfTrue.run [] S = some (.ret (.bool true), S) := specKF_run (enc := fun _ : Unit => []) (out := fun _ => En.ret (.bool true)) (fun _ _ _ => rfl) () S
theorem kn11 : KnWell Try.prog E0 11 kfTrue := by
  refine ⟨specKF_loc, fun w0 ρ s w args cargs e t hR hv hg => ?_⟩
  unfold kfTrue specKF at hg
  simp only at hg
  by_cases hx : ∃ x : Unit, ([] : List V) = args
  · rw [dif_pos hx] at hg
    simp only [Option.some.injEq, Prod.mk.injEq] at hg
    obtain ⟨rfl, rfl⟩ := hg
    obtain ⟨_, rfl⟩ := hx
    obtain ⟨l⟩ := cargs
    cases hv
    exact (closed_walk E0_ok knOk_nil glob0 works_runs w).mono fun ce w' ⟨h1, h2⟩ => ⟨ρ, .bool true, h1, Rho.le_refl ρ, .bool true, hR.grown h2⟩
  · rw [dif_neg hx] at hg; cases hg

/-! ### all that is known -/
noncomputable def K1 := knAdd (knAdd (fun _ => none) 70 kfDeep) 57 kfDeep
theorem ok1 : KnOk Try.prog E0 K1 := (knOk_nil.add (kn70 knOk_nil)).add (kn57 (knOk_nil.add (kn70 knOk_nil)))
noncomputable def K2 := knAdd (knAdd K1 58 (kfNode gDeep)) 34 (kfNode gDeep)
theorem ok2 : KnOk Try.prog E0 K2 := (ok1.add (kn58 ok1 rfl)).add (kn34 (ok1.add (kn58 ok1 rfl)) rfl)
noncomputable def K3 := knAdd K2 35 (kfNode gTooDeep)
theorem ok3 : KnOk Try.prog E0 K3 := ok2.add (kn35 ok2 rfl)
noncomputable def K4 := knAdd K3 38 (kfNode gSize)
theorem ok4 : KnOk Try.prog E0 K4 := ok3.add (kn38 ok3 rfl)
noncomputable def K5 := knAdd K4 17 (kfNode gSizeT)
theorem ok5 : KnOk Try.prog E0 K5 := ok4.add (kn17 ok4 rfl rfl)
noncomputable def K6 := knAdd K5 45 (kfNode gSizeT)
theorem ok6 : KnOk Try.prog E0 K6 := ok5.add (kn45 ok5 rfl)
noncomputable def K7 := knAdd K6 68 (kfText gName)
theorem ok7 : KnOk Try.prog E0 K7 := ok6.add (kn68 ok6)
noncomputable def K8 := knAdd K7 44 (kfNode gMay)
theorem ok8 : KnOk Try.prog E0 K8 := ok7.add (kn44 ok7 rfl)
noncomputable def K9 := knAdd K8 63 kfIndexByte
theorem ok9 : KnOk Try.prog E0 K9 := ok8.add (kn63 ok8 rfl)
noncomputable def K10 := knAdd K9 78 kfIndexRune
theorem ok10 : KnOk Try.prog E0 K10 := ok9.add (kn78 ok9 rfl rfl)
noncomputable def K11 := knAdd K10 74 kfAny
theorem ok11 : KnOk Try.prog E0 K11 := ok10.add (kn74 ok10 rfl rfl rfl rfl rfl)
noncomputable def K12 := knAdd K11 66 (kfText gName)
theorem ok12 : KnOk Try.prog E0 K12 := ok11.add (kn66 ok11 rfl)
noncomputable def K13 := knAdd K12 36 (kfNode gMay)
theorem ok13 : KnOk Try.prog E0 K13 := ok12.add (kn36 ok12 rfl rfl rfl rfl rfl rfl rfl rfl rfl rfl rfl)
noncomputable def K14 := knAdd K13 15 (kfNode gCheck)
theorem ok14 : KnOk Try.prog E0 K14 := ok13.add (kn15 ok13 rfl rfl rfl)
noncomputable def K15 := knAdd K14 21 (kfNode gCheck)
theorem ok15 : KnOk Try.prog E0 K15 := ok14.add (kn21 ok14 rfl rfl rfl)
noncomputable def K16 := knAdd K15 46 kf46
theorem ok16 : KnOk Try.prog E0 K16 := ok15.add (kn46 ok15 rfl)
noncomputable def K17 := knAdd K16 23 kfPutText
theorem ok17 : KnOk Try.prog E0 K17 := ok16.add (kn23 ok16 rfl rfl)
noncomputable def K18 := knAdd K17 40 kf46
theorem ok18 : KnOk Try.prog E0 K18 := ok17.add (kn40 ok17)
noncomputable def K19 := knAdd K18 19 kfPutText
theorem ok19 : KnOk Try.prog E0 K19 := ok18.add (kn19 ok18 rfl)
noncomputable def K20 := knAdd K19 22 kfLay
theorem ok20 : KnOk Try.prog E0 K20 := ok19.add (kn22 ok19 rfl rfl)
noncomputable def K21 := knAdd K20 10 (kfNode gEncode)
theorem ok21 : KnOk Try.prog E0 K21 := ok20.add (kn10 ok20 rfl rfl rfl)
noncomputable def K22 := knAdd K21 9 (kfNode gEncode)
theorem ok22 : KnOk Try.prog E0 K22 := ok21.add (kn9 ok21 rfl rfl rfl rfl rfl rfl rfl)
noncomputable def K23 := knAdd K22 8 kfShort
theorem ok23 : KnOk Try.prog E0 K23 := ok22.add (kn8 ok22)
noncomputable def K24 := knAdd K23 11 kfTrue
theorem ok24 : KnOk Try.prog E0 K24 := ok23.add kn11

/-! ### the law -/
theorem F3_spec (r : Rw) (hr : AllOk r) (S : St) (ho : S.on = false) : ∃ S', F3 (ev E0 K24 1) rounds (rwV r) S = some (.ret (.bool true), S') := by
  have ok := short_ok 14 r (allOk_deep 14 r hr)
  obtain ⟨S1, k1, k2, k3, k4⟩ := box_new ho 24 (cellsR r)
  have on1 := k3.on.trans ho
  obtain ⟨t, ht0, _⟩ := VarAt.agg (Bx.var k2 (by show 0 < 5; decide) big5)
  have ht : AgAt S1 S.next 24 5 t := ht0
  have hld : ldA 5 (.ptr S.next 0) S1 = some (vAgg (cellsR r), S1) := Bx.ldA on1 k2 rfl big5
  obtain ⟨S2, m1, m2, m3, m4⟩ := ht.stA on1 big5 (treeN (shortN 14 r))
  have on2 := m3.on.trans on1
  refine ⟨S2, ?_⟩
  rw [F3_eq, rwV_cells, k1, Option.bind_some]
  dsimp only
  rw [hld, Option.bind_some]
  dsimp only
  rw [← rwV_cells, show (V.int .i64 14) = .int .i64 ((14 : Nat) : Int) from rfl, ev_known (show K24 8 = some kfShort from rfl), kfShort_run 14 r (by omega), callP_ret, encN_tree, m1, Option.bind_some]
  dsimp only
  rw [m2.ldA on2 big5, Option.bind_some, ← encN_tree]
  dsimp only
  rw [ev_known (show K24 9 = some (kfNode gEncode) from rfl), kfNode_run _ _ ok, callP_ret, gEncode, show extractV (.tuple [sv (encodeN (shortN 14 r)).1, .int .i64 (encodeN (shortN 14 r)).2]) 0 = some (sv (encodeN (shortN 14 r)).1) from rfl, Option.bind_some, show extractV (.tuple [sv (encodeN (shortN 14 r)).1, .int .i64 (encodeN (shortN 14 r)).2]) 1 = some (.int .i64 (encodeN (shortN 14 r)).2) from rfl, Option.bind_some, m2.ldA on2 big5, Option.bind_some, ← encN_tree]
  dsimp only
  rw [ev_known (show K24 10 = some (kfNode gEncode) from rfl), kfNode_run _ _ ok, callP_ret, gEncode, show extractV (.tuple [sv (encodeN (shortN 14 r)).1, .int .i64 (encodeN (shortN 14 r)).2]) 0 = some (sv (encodeN (shortN 14 r)).1) from rfl, Option.bind_some, show extractV (.tuple [sv (encodeN (shortN 14 r)).1, .int .i64 (encodeN (shortN 14 r)).2]) 1 = some (.int .i64 (encodeN (shortN 14 r)).2) from rfl, Option.bind_some]
  rw [binV_ss, strOp_eql, beq_self_eq_true, Option.bind_some, guardV_t, Option.bind_some, cond_true, Option.bind_some, Option.bind_some, cond_true, Option.bind_some, Option.bind_some, cond_true, binV_ii, intsV_eql, decide_eq_true rfl, Option.bind_some, show pickV (.bool true) (some (.bool true)) (some (.bool false)) = some (.bool true) from rfl, Option.bind_some, guardV_t, Option.bind_some, cond_true, ev_known (show K24 11 = some kfTrue from rfl), kfTrue_run, callP_ret]
  rfl
theorem law_run (r : Rw) (hr : AllOk r) (S : St) (ho : S.on = false) : ∃ S', (ev E0 K24 2).f 3 [rwV r] S = some (.ret (.bool true), S') := by
  obtain ⟨S', h⟩ := F3_spec r hr S ho
  exact ⟨S', ev_read (c := C3) (d := B3) (by kernel_rfl) (by kernel_rfl) (annot_isOf C3 _ (by kernel_rfl)) (show K24 3 = none from rfl) h⟩

/-- at a world's node -/
theorem relF (W : World) : Rel E0 (base0 W) (frz W) s0 W :=
  ⟨⟨rfl, rfl, rfl, Nat.le_refl _, fun _ _ => rfl⟩, fun _ _ => rfl, Nat.le_refl _, fun b o h => by simp [s0, Tr.get_nil] at h, fun b b' o o' cb sh sz sh' sz' h => by simp [s0, Tr.get_nil] at h, fun g b h => (by rw [glob0] at h; cases h), fun k o h => h, fun b o cb sh sz h => (by simp [s0, Tr.get_nil] at h), fun k o h _ => trivial⟩
theorem law_calls (W : World) {v : Value} {r : Rw} (hv : VRel (frz W) (rwV r) v) (hr : AllOk r) : Calls Try.prog 3 #[v] W fun e w' => e = .returned (.bool true) ∧ Below W.heap.size W w' := by
  obtain ⟨S', h⟩ := law_run r hr s0 rfl
  refine ((ev_sim E0_ok ok24 2).call (base0 W) _ s0 W 3 [rwV r] #[v] _ S' (relF W) (.cons hv .nil) h).mono fun ce w' hce => ?_
  obtain ⟨ρ', cv, rfl, _, hv, hR⟩ := hce
  cases hv
  exact ⟨rfl, below_of_rel hR⟩
end Go.Proofs.Ythmkdoaaciamlaa.W
