/-
  WHAT THE FUNCTIONS COME TO: each is read by the evaluator, printed, and told as a function of data, part 7 of 9 (no condition).
-/
import Derived.Test.YthmkdoaaciamlaaW6
import Derived.WalkKit
import Derived.ProofKit
import Derived.OpenShut
namespace Go.Proofs.Ythmkdoaaciamlaa.W
open Go.Proofs.Ythmkdoaaciamlaa.Ev
theorem rwV_fields {x y : Rw} (h : rwV x = rwV y) : x.name = y.name ∧ x.kind = y.kind ∧ x.exec = y.exec ∧ x.data = y.data ∧ kidsR x = kidsR y := by
 rw [rwV_cells, rwV_cells] at h
 have h := vAgg_inj h
 simp only [cellsR, List.cons.injEq, V.int.injEq, V.bool.injEq, true_and, and_true] at h
 obtain ⟨h1, h2, h3, h4, h5⟩ := h
 exact ⟨sv_inj h1, h2, h3, sv_inj h4, h5⟩
theorem kidsR_map {x y : Rw} (h : kidsR x = kidsR y) : x.kids.map rwV = y.kids.map rwV := by
 cases x with
 | mk n k e d f l =>
  cases y with
  | mk n' k' e' d' f' l' =>
   cases f <;> cases f' <;> simp only [kidsR, kform, reduceCtorEq, V.list.injEq, true_and] at h
   · rfl
   · rfl
   · rw [rwVs_map, rwVs_map] at h; exact h
theorem map_eq_of {f : Rw → Nd} : ∀ {l m : List Rw}, (∀ x y, rwV x = rwV y → f x = f y) → l.map rwV = m.map rwV → l.map f = m.map f
 | [], [], _, _ => rfl
 | [], _ :: _, _, h => by simp at h
 | _ :: _, [], _, h => by simp at h
 | x :: l, y :: m, hf, h => by
  simp only [List.map_cons, List.cons.injEq] at h ⊢
  exact ⟨hf x y h.1, map_eq_of hf h.2⟩
theorem short_eq : ∀ (d : Nat) (x y : Rw), rwV x = rwV y → shortN d x = shortN d y
 | 0, x, y, h => by
  obtain ⟨h1, h2, h3, h4, _⟩ := rwV_fields h
  rw [shortN, shortN, h1, h2, h3, h4]
 | d + 1, x, y, h => by
  obtain ⟨h1, h2, h3, h4, h5⟩ := rwV_fields h
  rw [shortN, shortN, h1, h2, h3, h4]
  congr 1
  refine map_eq_of (fun a b => short_eq d a b) ?_
  rw [List.map_take, List.map_take, kidsR_map h5]
structure ShortIn where
 d : Nat
 x : Rw
 hd : d ≤ 14
noncomputable def encShort (p : ShortIn) : List V := [rwV p.x, .int .i64 (p.d : Int)]
theorem encShort_inj {p q : ShortIn} (h : encShort p = encShort q) : rwV p.x = rwV q.x ∧ p.d = q.d := by
 simp only [encShort, List.cons.injEq, V.int.injEq, true_and, and_true] at h
 exact ⟨h.1, by omega⟩
noncomputable def kfShort : KF := specKF encShort (fun p => En.ret (encN (shortN p.d p.x)))
theorem kfShort_run (d : Nat) (x : Rw) (hd : d ≤ 14) (S : St) : kfShort.run [rwV x, .int .i64 (d : Int)] S = some (.ret (encN (shortN d x)), S) :=
 specKF_run (enc := encShort) (out := fun p => En.ret (encN (shortN p.d p.x))) (fun p q h => by obtain ⟨h1, h2⟩ := encShort_inj h; rw [h2, short_eq q.d _ _ h1]) ⟨d, x, hd⟩ S
def outKids (d : Nat) (x : Rw) : List Nd := match d with | 0 => [] | d + 1 => (x.kids.take 20).map (shortN d)
theorem short_fields (d : Nat) (x : Rw) : (shortN d x).name = x.name ∧ (shortN d x).kind = x.kind ∧ (shortN d x).exec = x.exec ∧ (shortN d x).data = x.data.take 300 ∧ (shortN d x).kids = outKids d x := by
 cases d <;> exact ⟨rfl, rfl, rfl, rfl, rfl⟩
theorem fzRow_nodes {s : St} {N : Nat} {c : Tr (Tr V)} : ∀ (l : List Nd) (i : Nat), (∀ (j : Nat) y, l[j]? = some y → c.get (i + j) = some (treeN y)) → FzRow s N c i 5 (l.map encN)
 | [], i, _ => .nil
 | y :: l, i, h => by
  have h0 := h 0 y rfl
  rw [List.map_cons, encN_tree]
  refine .row h0 ?_ (fzRow_nodes l (i + 1) fun j z hj => ?_)
  · rw [← encN_tree]
    exact .same (under_encN _ _)
  · have := h (j + 1) z (by simpa using hj)
    rw [show i + 1 + j = i + (j + 1) by omega]; exact this
theorem F8_spec (self : EV) (x : Rw) (d : Nat) (hd : d ≤ 14) (S : St) (ho : S.on = false) (h8 : ∀ (m : Nat) y, d = m + 1 → ∀ S, self.f 8 [rwV y, .int .i64 (m : Int)] S = some (.ret (encN (shortN m y)), S)) :
 ∃ (v : V) (S' : St), F8 self rounds (rwV x) (.int .i64 (d : Int)) S = some (.ret v, S') ∧ Fz S' S.next v (encN (shortN d x)) ∧ Grew (fun _ => False) S S' := by
 obtain ⟨S1, k1, k2, k3, k4⟩ := box_new ho 24 (cellsR x)
 have on1 := k3.on.trans ho
 have hv1 := Bx.var k2 (by show 0 < 5; decide) big5
 obtain ⟨a1, a2, a3⟩ := ag_new on1 24 5 (Tr.ofListFrom .nil [(sv []), (.int .i64 0), (.bool false), (sv []), .nilslice] 0)
 generalize hS2 : (nwP 24 5 (Tr.ofListFrom .nil [(sv []), (.int .i64 0), (.bool false), (sv []), .nilslice] 0) S1).2 = S2 at a1 a2 a3
 have on2 := a2.on.trans on1
 have hv2 := hv1.grew (by omega) (fun h => h) a2
 obtain ⟨S3, b1, b2, b3, b4⟩ := hv2.st on2 (i := 3) (by show 3 < 5; decide) (sv (x.data.take 300))
 have on3 := b3.on.trans on2
 have ha3 := a1.grew (by omega) (by omega) b3
 have hst : stP 1 (.ptr S.next 3) (sv (x.data.take 300)) S2 = some (.tuple [], S3) := by
  show vu (stK S2 S.next 3 1 (one (sv _))) = _
  rw [b1]; rfl
 have hcs : ((cellsR x).set 3 (sv (x.data.take 300)))[4]? = some (kidsR x) := rfl
 have hloop : ∃ S4 v5, L8_20 self rounds (R8_12 self rounds (finN E0 self Try.f8) noEx) (exB 0 (R8_12 self rounds (finN E0 self Try.f8) noEx) noEx) rounds (.int .i64 (d : Int)) (.ptr S.next 0) (.ptr S1.next 0) .nilslice (.int .i64 0) S3 = exB 0 (R8_12 self rounds (finN E0 self Try.f8) noEx) noEx 0 (fr 44 [(2, .ptr S.next 0), (4, .ptr S1.next 0), (5, v5)]) S4 ∧
  SliceIs S4 S2.next v5 (outKids d x) ∧ VarAt S4 S.next 24 5 ((cellsR x).set 3 (sv (x.data.take 300))) ∧ AgAt S4 S1.next 24 5 (Tr.ofListFrom .nil [(sv []), (.int .i64 0), (.bool false), (sv []), .nilslice] 0) ∧ Grew (fun y => S2.next ≤ y) S3 S4 := by
  cases d with
  | zero =>
   have := L8_stop self rounds (R8_12 self rounds (finN E0 self Try.f8) noEx) (exB 0 (R8_12 self rounds (finN E0 self Try.f8) noEx) noEx) (rounds - 1) x S.next S1.next _ hcs S3 on3 b2 0 0 .nilslice (by omega)
   rw [show rounds - 1 + 1 = rounds by unfold rounds; omega] at this
   exact ⟨S3, .nilslice, this, .inl ⟨rfl, rfl⟩, b2, ha3, Grew.refl _ _⟩
  | succ m =>
   obtain ⟨S4, v5, z1, z2, z3, z4, z5⟩ := L8_spec self rounds (R8_12 self rounds (finN E0 self Try.f8) noEx) (exB 0 (R8_12 self rounds (finN E0 self Try.f8) noEx) noEx) x S.next S1.next S2.next m (by omega) _ hcs (by omega) (by omega) (fun y hy S => h8 m y rfl S) _ (x.kids.take 20) 0 rounds S3 [] .nilslice rfl (by rw [List.length_take]; unfold rounds; omega) (by omega) rfl on3 (by omega) b2 ha3 (.inl ⟨rfl, rfl⟩)
   exact ⟨S4, v5, z1, by rw [List.nil_append] at z2; exact z2, z3, z4, z5⟩
 obtain ⟨S4, v5, z1, z2, z3, z4, z5⟩ := hloop
 have on4 := z5.on.trans on3
 have hv5 : v5.size = 1 ∧ isTuple v5 = false ∧ v5.cells = one v5 := by
  rcases z2 with ⟨_, rfl⟩ | ⟨_, r, rfl, _⟩ <;> exact ⟨rfl, rfl, rfl⟩
 obtain ⟨S5, c1, c2, c3, c4⟩ := z3.st on4 (i := 4) (by decide) v5
 have on5 := c3.on.trans on4
 have hst5 : stP 1 (.ptr S.next 4) v5 S4 = some (.tuple [], S5) := by
  show vu (bif Nat.beq v5.size 1 && !isTuple v5 then stK S4 S.next 4 1 v5.cells else none) = _
  rw [hv5.1, hv5.2.1, hv5.2.2, c1]; rfl
 have z4' := z4.grew (by have := z5.next; omega) (by omega) c3
 have z2' := z2.grew (by omega) c3
 obtain ⟨t, ht, hget⟩ := VarAt.agg c2
 obtain ⟨S6, e1, e2, e3, e4⟩ := z4'.stA on5 big5 t
 have on6 := e3.on.trans on5
 have z2'' := z2'.grew (by omega) e3
 refine ⟨.agg 5 t, S6, ?_, ?_, ?_⟩
 · rw [F8_eq, rwV_cells, k1, oB, oB]
   dsimp only
   rw [faP_ptr, oB, Nat.zero_add, ld1_ptr, hS2, hv2.ld on2 (show (cellsR x)[3]? = some (sv x.data) from rfl), oB, oB]
   dsimp only
   rw [ld1_ptr, hv2.ld on2 (show (cellsR x)[3]? = some (sv x.data) from rfl), oB]
   dsimp only
   rw [lnStr_sv, oB]
   dsimp only
   rw [foldK_min, show min (x.data.length : Int) 300 = ((min x.data.length 300 : Nat) : Int) by omega, oB]
   dsimp only
   rw [slice_sv und9 x.data (bounds_hi .i64 (Nat.min_le_left ..)) (Nat.min_le_left ..), oB, oB]
   dsimp only
   rw [List.drop_zero, Nat.sub_zero, show List.take (min x.data.length 300) x.data = x.data.take 300 by
    rcases Nat.le_total x.data.length 300 with h | h
    · rw [Nat.min_eq_left h, List.take_length, List.take_of_length_le h]
    · rw [Nat.min_eq_right h], hst, oB, nwP_fst]
   dsimp only
   rw [z1, exB_same, R8_12_eq, faP_ptr, oB, Nat.zero_add, hst5, oB]
   dsimp only
   rw [ht.ldA on5 big5, oB]
   dsimp only
   rw [e1, oB]
   dsimp only
   rw [e2.ldrA on6 big5]
   rfl
 · obtain ⟨f1, f2, f3, f4, f5⟩ := short_fields d x
   rw [encN_tree]
   have hcell : ∀ (i : Nat) v, (cellsN (shortN d x))[i]? = some v → (Tr.ofListFrom .nil (cellsN (shortN d x)) 0).get i = some v := fun i v h => by rw [Tr.get_ofList]; exact h
   have hg : ∀ (i : Nat) v, (((cellsR x).set 3 (sv (x.data.take 300))).set 4 v5)[i]? = some v → t.get i = some v := hget
   refine .agg (fun i => ((((cellsR x).set 3 (sv (x.data.take 300))).set 4 v5)[i]?).getD .nilptr) (fun i v' _ hi => ?_) fun i v' hv' hi => ?_
   · match i, hi with
     | 0, _ => exact hg 0 _ rfl
     | 1, _ => exact hg 1 _ rfl
     | 2, _ => exact hg 2 _ rfl
     | 3, _ => exact hg 3 _ rfl
     | 4, _ => exact hg 4 _ rfl
   · have hv2 : (cellsN (shortN d x))[i]? = some v' := by
      have : (Tr.ofListFrom .nil (cellsN (shortN d x)) 0).get i = some v' := hv'
      rwa [Tr.get_ofList] at this
     unfold cellsN at hv2
     rw [f1, f2, f3, f4, f5] at hv2
     match i, hi, hv2 with
     | 0, _, hv2 => simp at hv2; subst hv2; exact .same (under_sv _)
     | 1, _, hv2 => simp at hv2; subst hv2; exact .same (.int _ _)
     | 2, _, hv2 => simp at hv2; subst hv2; exact .same (.bool _)
     | 3, _, hv2 => simp at hv2; subst hv2; exact .same (under_sv _)
     | 4, _, hv2 =>
      simp at hv2; subst hv2
      show Fz S6 S.next v5 (kidsV (encL (outKids d x)))
      rcases z2'' with ⟨h1, rfl⟩ | ⟨h1, r, rfl, hrow, hNr, hrn⟩
      · rw [h1, encL]; exact .same .nilslice
      · obtain ⟨c, hc1, hc2⟩ := hrow.row
        have hne : kidsV (encL (outKids d x)) = .list 5 (encL (outKids d x)) := by
         cases h : outKids d x with
         | nil => exact absurd h h1
         | cons a l => rw [encL]; rfl
        rw [hne, encL_map]
        refine .oslice hc1 (by omega) (by omega) rfl (by rw [List.length_map]) (by rw [List.length_map]; omega) ?_
        rw [Nat.zero_div]
        exact fzRow_nodes _ 0 fun j y hj => by
         rw [Nat.zero_add]
         exact hc2 j _ (by rw [List.getElem?_map, hj]; rfl)
 · have n5 := z5.next
   refine ⟨by omega, by rw [on6, ho], fun y hy _ => ?_⟩
   rw [e3.keep y (by omega) (by omega), c3.keep y (by omega) (by omega), z5.keep y (by omega) (by omega), b3.keep y (by omega) (by omega), a2.keep y (by omega) (fun h => h), k3.keep y hy (fun h => h)]
theorem kn8 {K : FuncId → Option KF} (hK : KnOk Try.prog E0 K) : KnWell Try.prog E0 8 kfShort :=
 specKF_rec (fn := Try.f8) (c := C8) (d := B8) (fun p : ShortIn => p.d) (fun p q h => by obtain ⟨h1, h2⟩ := encShort_inj h; rw [h2, short_eq q.d _ _ h1]; exact ⟨rfl, rfl⟩) E0_ok hK (by kernel_rfl) (by kernel_rfl) (annot_isOf C8 _ (by kernel_rfl)) fun K' _ p S hself ho => by
  obtain ⟨d, x, hd⟩ := p
  obtain ⟨v, S', h1, h2, h3⟩ := F8_spec (ev E0 K' 1) x d hd S ho fun m y hm S => hself ⟨m, y, by omega⟩ S 0 (by show m < d; omega)
  exact ⟨1, .ret v, S', h1, h3, h2⟩
end Go.Proofs.Ythmkdoaaciamlaa.W
namespace Go.Proofs.Ythmkdoaaciamlaa.W
open Go.Proofs.Ythmkdoaaciamlaa.Ev
def frz (W : World) : Rho := ⟨fun _ => none, fun k => W.heap[k]?⟩
theorem u24 : ∃ f0 f1 f2 f3 f4 : Field, Try.prog.underlying 24 = some (.struct #[f0, f1, f2, f3, f4]) ∧ (f0.type = 9 ∧ f0.offset = 0) ∧ (f1.type = 3 ∧ f1.offset = 1) ∧ (f2.type = 4 ∧ f2.offset = 2) ∧ (f3.type = 9 ∧ f3.offset = 3) ∧ (f4.type = 22 ∧ f4.offset = 4) :=
 ⟨_, _, _, _, _, Try.underlying24, ⟨rfl, rfl⟩, ⟨rfl, rfl⟩, ⟨rfl, rfl⟩, ⟨rfl, rfl⟩, ⟨rfl, rfl⟩⟩
theorem u22 : Try.prog.underlying 22 = some (.slice 24) := by kernel_rfl
theorem u9 : Try.prog.underlying 9 = some .string := by kernel_rfl
theorem u3 : Try.prog.underlying 3 = some (.int .i64) := by kernel_rfl
theorem u4 : Try.prog.underlying 4 = some .bool := by kernel_rfl
theorem c24 : Try.prog.cellsOf 24 = 5 := by kernel_rfl
theorem c9 : Try.prog.cellsOf 9 = 1 := by kernel_rfl
theorem c3 : Try.prog.cellsOf 3 = 1 := by kernel_rfl
theorem c4 : Try.prog.cellsOf 4 = 1 := by kernel_rfl
theorem c22 : Try.prog.cellsOf 22 = 1 := by kernel_rfl
mutual
def AllOk : Rw → Prop
 | .mk n k _ _ _ l => n.length < 9223372036854775808 ∧ (-9223372036854775808 ≤ k ∧ k < 9223372036854775808) ∧ AllOks l
def AllOks : List Rw → Prop
 | [] => True
 | x :: l => AllOk x ∧ AllOks l
end
theorem allOks_iff : ∀ l : List Rw, AllOks l ↔ ∀ x ∈ l, AllOk x
 | [] => by simp [AllOks]
 | x :: l => by simp [AllOks, allOks_iff l]
theorem allOk_deep : ∀ (d : Nat) (x : Rw), AllOk x → DeepOk d x
 | 0, .mk n k e a f l, h => by rw [AllOk] at h; exact ⟨h.1, h.2.1⟩
 | d + 1, .mk n k e a f l, h => by
  rw [AllOk] at h
  refine ⟨⟨h.1, h.2.1⟩, fun y hy => ?_⟩
  cases f with
  | nil => cases hy
  | empty => cases hy
  | list => exact allOk_deep d y ((allOks_iff l).1 h.2.2 y hy)
theorem mapM_range_some {α : Type} {f : Nat → Option α} : ∀ (n k : Nat) {r : List α}, ((List.range' k n).mapM f) = some r → r.length = n ∧ ∀ i, i < n → ∃ y, r[i]? = some y ∧ f (k + i) = some y
 | 0, k, r, h => by
  simp at h; subst h
  exact ⟨rfl, fun i hi => by omega⟩
 | n + 1, k, r, h => by
  rw [List.range'_succ, List.mapM_cons] at h
  simp only [Option.bind_eq_bind, oI, Option.pure_def, oS] at h
  obtain ⟨y, hy, r', hr', rfl⟩ := h
  obtain ⟨h1, h2⟩ := mapM_range_some n (k + 1) hr'
  refine ⟨by simp [h1], fun i hi => ?_⟩
  cases i with
  | zero => exact ⟨y, rfl, hy⟩
  | succ i =>
   obtain ⟨z, hz1, hz2⟩ := h2 i (by omega)
   exact ⟨z, by simpa using hz1, by rw [show k + (i + 1) = k + 1 + i by omega]; exact hz2⟩
theorem cells?_at {W : World} {a : Addr} {n : Nat} {cs : List Value} (h : W.cells? 0 a n = some cs) : cs.length = n ∧ ∀ i, i < n → ∃ y, cs[i]? = some y ∧ W.cell? (a.add i) = some y := by
 unfold World.cells? at h
 rw [if_pos (Nat.zero_le _), List.range_eq_range'] at h
 obtain ⟨h1, h2⟩ := mapM_range_some n 0 h
 exact ⟨h1, fun i hi => by
  obtain ⟨y, hy1, hy2⟩ := h2 i hi
  exact ⟨y, hy1, by rw [Nat.zero_add] at hy2; exact hy2⟩⟩
theorem add_eq {a : Addr} (h : a.spot = none) (n : Nat) : a.add n = ⟨a.block, a.off + n, none⟩ := by
 unfold Addr.add
 split
 · rename_i h0
   subst h0
   cases a
   simp only at h
   subst h
   rfl
 · rfl
theorem build {P : Nat → Rw → List Value → Prop} : ∀ (n : Nat), (∀ i, i < n → ∃ r c, P i r c) → ∃ (rs : List Rw) (cs : List (List Value)), rs.length = n ∧ cs.length = n ∧ ∀ i r c, rs[i]? = some r → cs[i]? = some c → P i r c
 | 0, _ => ⟨[], [], rfl, rfl, fun i r c h => by simp at h⟩
 | n + 1, h => by
  obtain ⟨rs, cs, h1, h2, h3⟩ := build n fun i hi => h i (by omega)
  obtain ⟨r, c, hrc⟩ := h n (by omega)
  refine ⟨rs ++ [r], cs ++ [c], by simp [h1], by simp [h2], fun i r' c' hr hc => ?_⟩
  by_cases hi : i < n
  · rw [List.getElem?_append_left (by omega)] at hr hc
    exact h3 i r' c' hr hc
  · have hi2 : i = n := by
     have := (List.getElem?_eq_some_iff.1 hr).1
     simp [h1] at this
     omega
    subst hi2
    rw [List.getElem?_append_right (by omega)] at hr hc
    simp [h1] at hr
    simp [h2] at hc
    subst hr; subst hc
    exact hrc
theorem vrels_of {ρ : Rho} : ∀ (l : List V) (m : List Value), l.length = m.length → (∀ (i : Nat) v cv, l[i]? = some v → m[i]? = some cv → VRel ρ v cv) → VRels ρ l m
 | [], [], _, _ => .nil
 | [], _ :: _, h, _ => by simp at h
 | _ :: _, [], h, _ => by simp at h
 | v :: l, c :: m, h, hr => .cons (hr 0 v c rfl rfl) (vrels_of l m (by simpa using h) fun i v cv h1 h2 => hr (i + 1) v cv (by simpa using h1) (by simpa using h2))
theorem flat_lies {big : Array Value} : ∀ (cs : List (List Value)) (off : Nat), (∀ (i : Nat) c, cs[i]? = some c → c.length = 5 ∧ ∀ (k : Nat) x, c[k]? = some x → big[off + i * 5 + k]? = some x) → ∀ (j : Nat) x, (cs.flatMap fun c => (Value.agg c.toArray).cells.toList)[j]? = some x → big[off + j]? = some x
 | [], off, _, j, x, h => by simp at h
 | c :: cs, off, hc, j, x, h => by
  obtain ⟨h1, h2⟩ := hc 0 c rfl
  have e : (Value.agg c.toArray).cells.toList = c := by simp [Value.cells]
  rw [List.flatMap_cons, e] at h
  by_cases hj : j < 5
  · rw [List.getElem?_append_left (by omega)] at h
    have := h2 j x h
    rwa [Nat.zero_mul, Nat.add_zero] at this
  · rw [List.getElem?_append_right (by omega), h1] at h
    have := flat_lies cs (off + 5) (fun i d hd => by
     obtain ⟨k1, k2⟩ := hc (i + 1) d (by simpa using hd)
     exact ⟨k1, fun k y hy => by
      have := k2 k y hy
      rw [show off + (i + 1) * 5 + k = off + 5 + i * 5 + k by omega] at this
      exact this⟩) (j - 5) x h
    rwa [show off + 5 + (j - 5) = off + j by omega] at this
theorem vrel_node {W : World} (s d : ByteArray) (k : Int) (e : Bool) (f : KForm) (l : List Rw) (kc : Value) (h1 : oneC kc = true) (hk : VRel (frz W) (kform f (rwVs l)) kc) :
 VRel (frz W) (rwV (.mk s.data.toList k e d.data.toList f l)) (.agg #[.string s, .int .i64 k, .bool e, .string d, kc]) := by
 rw [rwV]
 refine .agg rfl (fun i cv hi => ?_) fun i v hi cv hc => ?_
 · match i, hi with
   | 0, hi => simp at hi; subst hi; rfl
   | 1, hi => simp at hi; subst hi; rfl
   | 2, hi => simp at hi; subst hi; rfl
   | 3, hi => simp at hi; subst hi; rfl
   | 4, hi => simp at hi; subst hi; exact h1
   | i + 5, hi => simp at hi
 · rw [vAgg_get] at hi
   match i, hi, hc with
   | 0, hi, hc => simp at hi hc; subst hi; subst hc; exact .str s
   | 1, hi, hc => simp at hi hc; subst hi; subst hc; exact .int _ _
   | 2, hi, hc => simp at hi hc; subst hi; subst hc; exact .bool _
   | 3, hi, hc => simp at hi hc; subst hi; subst hc; exact .str d
   | 4, hi, hc => simp at hi hc; subst hi; subst hc; exact hk
   | i + 5, hi, hc => simp at hi
theorem five {α : Type} {l : List α} (h : l.length = 5) : ∃ a b c d e, l = [a, b, c, d, e] := by
 match l, h with
 | [a, b, c, d, e], _ => exact ⟨a, b, c, d, e, rfl⟩
set_option maxRecDepth 100000 in
theorem node_of_trod {H : Type} {enc : TypeId × Value → H} {W : World} : ∀ (fuel : Nat) (cs : List Value) (x : DataW H × List MemPlace), DataW.trod enc Try.prog W 0 (fun _ => true) true fuel 24 cs = some x → ∃ r : Rw, VRel (frz W) (rwV r) (.agg cs.toArray) ∧ cs.length = 5 ∧ AllOk r
 | fuel, cs, x, h => by
  obtain ⟨f0, f1, f2, f3, f4, hu, ⟨t0, o0⟩, ⟨t1, o1⟩, ⟨t2, o2⟩, ⟨t3, o3⟩, ⟨t4, o4⟩⟩ := u24
  obtain ⟨xs, n, hfuel, _, hl, hxl, hf⟩ := DataW.trod_struct hu h
  rw [c24] at hl
  have hx5 : xs.length = 5 := hxl
  obtain ⟨v0, v1, v2, v3, v4, rfl⟩ := five hl
  · have g0 := hf 0 f0 rfl
    have g1 := hf 1 f1 rfl
    have g2 := hf 2 f2 rfl
    have g3 := hf 3 f3 rfl
    have g4 := hf 4 f4 rfl
    rw [t0, o0, c9, List.getElem?_eq_getElem (by omega)] at g0
    rw [t1, o1, c3, List.getElem?_eq_getElem (by omega)] at g1
    rw [t2, o2, c4, List.getElem?_eq_getElem (by omega)] at g2
    rw [t3, o3, c9, List.getElem?_eq_getElem (by omega)] at g3
    rw [t4, o4, c22, List.getElem?_eq_getElem (by omega)] at g4
    obtain ⟨s, hs, _, hsl⟩ := DataW.trod_string u9 g0
    obtain ⟨k, hk, _, hkw⟩ := DataW.trod_int u3 g1
    obtain ⟨e, he, _⟩ := DataW.trod_bool u4 g2
    obtain ⟨d, hd, _, hdl⟩ := DataW.trod_string u9 g3
    simp only [List.drop_zero, List.take_succ_cons, List.take_zero, List.cons.injEq, and_true, List.drop_succ_cons] at hs hk he hd
    subst hs; subst hk; subst he; subst hd
    have hkr : -9223372036854775808 ≤ k ∧ k < 9223372036854775808 := by
     unfold Lit.wf at hkw
     simp only [Bool.and_eq_true, decide_eq_true_eq] at hkw
     have e1 : IntKind.i64.min = -9223372036854775808 := by decide
     have e2 : IntKind.i64.max = 9223372036854775807 := by decide
     rw [e1, e2] at hkw
     omega
    have hsn : s.data.toList.length < 9223372036854775808 := by
     have : s.data.toList.length = s.size := by rw [Array.length_toList]; rfl
     unfold maxLen at hsl
     omega
    rcases DataW.trod_slice u22 g4 with ⟨hv4, _⟩ | ⟨a, len, cap, elems, rest, m, hm, hv4, _, _, hcap, _, hel, hat, _⟩
    · simp only [List.drop_succ_cons, List.drop_zero, List.take_succ_cons, List.take_zero, List.cons.injEq, and_true] at hv4
      subst hv4
      exact ⟨.mk s.data.toList k e d.data.toList .nil [], vrel_node s d k e .nil [] _ rfl .nilslice, rfl, by rw [AllOk]; exact ⟨hsn, hkr, trivial⟩⟩
    · simp only [List.drop_succ_cons, List.drop_zero, List.take_succ_cons, List.take_zero, List.cons.injEq, and_true] at hv4
      subst hv4
      by_cases h0 : len = 0
      · subst h0
        exact ⟨.mk s.data.toList k e d.data.toList .empty [], vrel_node s d k e .empty [] _ rfl (.eslice a cap), rfl, by rw [AllOk]; exact ⟨hsn, hkr, trivial⟩⟩
      · have hAt : ∀ i, i < len → ∃ cells y, W.cells? 0 (a.add (i * 5)) 5 = some cells ∧ DataW.trod enc Try.prog W 0 (fun _ => true) true m 24 cells = some y := fun i hi => by
         have := hat i hi
         rw [c24, List.getElem?_eq_getElem (by omega), oI] at this
         obtain ⟨cells, h1, h2⟩ := this
         exact ⟨cells, _, h1, h2⟩
        have hspot : a.spot = none ∧ ∃ bg ty fr, W.heap[a.block]? = some (.cells bg ty fr) := by
         obtain ⟨cells, y, h1, _⟩ := hAt 0 (by omega)
         obtain ⟨_, h2⟩ := cells?_at h1
         obtain ⟨z, _, hz⟩ := h2 0 (by omega)
         rw [Nat.zero_mul, show (a.add 0).add 0 = a from rfl] at hz
         unfold World.cell? at hz
         split at hz
         · rename_i bg ty fr hh
           split at hz
           · cases hz
           · rename_i hsp
             refine ⟨by simpa using hsp, bg, ty, fr, hh⟩
         · cases hz
        obtain ⟨hsp, bg, ty, fr, hheap⟩ := hspot
        obtain ⟨rs, cls, r1, r2, r3⟩ := build (P := fun i r c => VRel (frz W) (rwV r) (.agg c.toArray) ∧ AllOk r ∧ c.length = 5 ∧ ∀ (k : Nat) x, c[k]? = some x → bg[a.off + i * 5 + k]? = some x) len fun i hi => by
         obtain ⟨cells, y, h1, h2⟩ := hAt i hi
         have hlt : m < fuel := by omega
         obtain ⟨r, q1, q2, q3⟩ := node_of_trod m cells y h2
         refine ⟨r, cells, q1, q3, q2, fun k z hz => ?_⟩
         obtain ⟨_, h4⟩ := cells?_at h1
         have hk5 : k < 5 := by rw [← q2]; exact (List.getElem?_eq_some_iff.1 hz).1
         obtain ⟨z', hz1, hz2⟩ := h4 k hk5
         rw [hz] at hz1
         obtain rfl := Option.some.inj hz1
         rw [add_eq hsp, add_eq rfl] at hz2
         unfold World.cell? at hz2
         simp only at hz2
         rw [hheap] at hz2
         exact hz2
        have hlist : VRel (frz W) (.list 5 (rwVs rs)) (.slice (some a) len cap) := by
         refine .list (cl := cls.map fun c => .agg c.toArray) (vrels_of _ _ (by rw [rwVs_map, List.length_map, List.length_map, r1, r2]) fun i v cv h1 h2 => ?_) (fun v hv => ?_) (by rw [rwVs_map, List.length_map, r1]) hcap fun _ => ⟨fun cv hcv => ?_, hsp, bg, ty, fr, hheap, fun j c hj => ?_⟩
         · rw [rwVs_map, List.getElem?_map, Option.map_eq_some_iff] at h1
           rw [List.getElem?_map, Option.map_eq_some_iff] at h2
           obtain ⟨r, hr, rfl⟩ := h1
           obtain ⟨c, hc, rfl⟩ := h2
           exact (r3 i r c hr hc).1
         · rw [rwVs_map, List.mem_map] at hv
           obtain ⟨r, _, rfl⟩ := hv
           rw [rwV_cells]; rfl
         · rw [List.mem_map] at hcv
           obtain ⟨c, hc, rfl⟩ := hcv
           obtain ⟨i, hi⟩ := List.getElem?_of_mem hc
           have hlt := (List.getElem?_eq_some_iff.1 hi).1
           have := (r3 i rs[i] c (List.getElem?_eq_getElem (by omega)) hi).2.2.1
           simp [Value.cells, this]
         · rw [List.flatMap_map] at hj
           exact flat_lies cls a.off (fun i c hc => by
            have hlt := (List.getElem?_eq_some_iff.1 hc).1
            exact (r3 i rs[i] c (List.getElem?_eq_getElem (by omega)) hc).2.2) j c hj
        refine ⟨.mk s.data.toList k e d.data.toList .list rs, vrel_node s d k e .list rs _ rfl hlist, rfl, ?_⟩
        rw [AllOk]
        refine ⟨hsn, hkr, (allOks_iff rs).2 fun r hr => ?_⟩
        obtain ⟨i, hi⟩ := List.getElem?_of_mem hr
        have hlt := (List.getElem?_eq_some_iff.1 hi).1
        exact (r3 i r cls[i] hi (List.getElem?_eq_getElem (by omega))).2.1
termination_by fuel => fuel
end Go.Proofs.Ythmkdoaaciamlaa.W
namespace Go.Proofs.Ythmkdoaaciamlaa.W
open Go.Proofs.Ythmkdoaaciamlaa.Ev Go.RowKit
theorem glob0 : ∀ g, E0.glob.get g = none := fun _ => rfl
theorem works_runs : saysTrue ((ev E0 (fun _ => none) 400).f 11 [] s0) = true := by decide +kernel
noncomputable def kfTrue : KF := specKF (fun _ : Unit => []) (fun _ => En.ret (.bool true))
theorem kfTrue_run (S : St) : kfTrue.run [] S = some (.ret (.bool true), S) := specKF_run (enc := fun _ : Unit => []) (out := fun _ => En.ret (.bool true)) (fun _ _ _ => rfl) () S
theorem kn11 : KnWell Try.prog E0 11 kfTrue := by
 refine ⟨specKF_loc, fun w0 ρ s w args cargs e t hR hv hg => ?_⟩
 unfold kfTrue specKF at hg
 simp only at hg
 by_cases hx : ∃ x : Unit, ([] : List V) = args
 · rw [dif_pos hx] at hg
   simp only [oS, pM] at hg
   obtain ⟨rfl, rfl⟩ := hg
   obtain ⟨_, rfl⟩ := hx
   obtain ⟨l⟩ := cargs
   cases hv
   exact (closed_walk E0_ok knOk_nil glob0 works_runs w).mono fun ce w' ⟨h1, h2⟩ => ⟨ρ, .bool true, h1, Rho.le_refl ρ, .bool true, hR.grown h2⟩
 · rw [dif_neg hx] at hg; cases hg
noncomputable def K1 := knAdd (knAdd (fun _ => none) 70 kfDeep) 57 kfDeep
theorem ok1 : KnOk Try.prog E0 K1 := (knOk_nil.add (kn70 knOk_nil)).add (kn57 (knOk_nil.add (kn70 knOk_nil)))
noncomputable def K2 := knAdd (knAdd K1 58 (kfNode gDeep)) 34 (kfNode gDeep)
theorem ok2 : KnOk Try.prog E0 K2 := (ok1.add (kn58 ok1 rfl)).add (kn34 (ok1.add (kn58 ok1 rfl)) rfl)
noncomputable def K3 := knAdd K2 35 (kfNode gTooDeep)
theorem ok3 : KnOk Try.prog E0 K3 := ok2.add (kn35 ok2 rfl)
noncomputable def K4 := knAdd K3 38 (kfNode gSize)
theorem ok4 : KnOk Try.prog E0 K4 := ok3.add (kn38 ok3 rfl)
noncomputable def K5 := knAdd K4 17 (kfNode gSizeT)
theorem ok5 : KnOk Try.prog E0 K5 := ok4.add (kn17 ok4 rfl rfl)
noncomputable def K6 := knAdd K5 45 (kfNode gSizeT)
theorem ok6 : KnOk Try.prog E0 K6 := ok5.add (kn45 ok5 rfl)
noncomputable def K7 := knAdd K6 68 (kfText gName)
theorem ok7 : KnOk Try.prog E0 K7 := ok6.add (kn68 ok6)
noncomputable def K8 := knAdd K7 44 (kfNode gMay)
theorem ok8 : KnOk Try.prog E0 K8 := ok7.add (kn44 ok7 rfl)
noncomputable def K9 := knAdd K8 63 kfIndexByte
theorem ok9 : KnOk Try.prog E0 K9 := ok8.add (kn63 ok8 rfl)
noncomputable def K10 := knAdd K9 78 kfIndexRune
theorem ok10 : KnOk Try.prog E0 K10 := ok9.add (kn78 ok9 rfl rfl)
noncomputable def K11 := knAdd K10 74 kfAny
theorem ok11 : KnOk Try.prog E0 K11 := ok10.add (kn74 ok10 rfl rfl rfl rfl rfl)
noncomputable def K12 := knAdd K11 66 (kfText gName)
theorem ok12 : KnOk Try.prog E0 K12 := ok11.add (kn66 ok11 rfl)
noncomputable def K13 := knAdd K12 36 (kfNode gMay)
theorem ok13 : KnOk Try.prog E0 K13 := ok12.add (kn36 ok12 rfl rfl rfl rfl rfl rfl rfl rfl rfl rfl rfl)
noncomputable def K14 := knAdd K13 15 (kfNode gCheck)
theorem ok14 : KnOk Try.prog E0 K14 := ok13.add (kn15 ok13 rfl rfl rfl)
noncomputable def K15 := knAdd K14 21 (kfNode gCheck)
theorem ok15 : KnOk Try.prog E0 K15 := ok14.add (kn21 ok14 rfl rfl rfl)
noncomputable def K16 := knAdd K15 46 kf46
theorem ok16 : KnOk Try.prog E0 K16 := ok15.add (kn46 ok15 rfl)
noncomputable def K17 := knAdd K16 23 kfPutText
theorem ok17 : KnOk Try.prog E0 K17 := ok16.add (kn23 ok16 rfl rfl)
noncomputable def K18 := knAdd K17 40 kf46
theorem ok18 : KnOk Try.prog E0 K18 := ok17.add (kn40 ok17)
noncomputable def K19 := knAdd K18 19 kfPutText
theorem ok19 : KnOk Try.prog E0 K19 := ok18.add (kn19 ok18 rfl)
noncomputable def K20 := knAdd K19 22 kfLay
theorem ok20 : KnOk Try.prog E0 K20 := ok19.add (kn22 ok19 rfl rfl)
noncomputable def K21 := knAdd K20 10 (kfNode gEncode)
theorem ok21 : KnOk Try.prog E0 K21 := ok20.add (kn10 ok20 rfl rfl rfl)
noncomputable def K22 := knAdd K21 9 (kfNode gEncode)
theorem ok22 : KnOk Try.prog E0 K22 := ok21.add (kn9 ok21 rfl rfl rfl rfl rfl rfl rfl)
noncomputable def K23 := knAdd K22 8 kfShort
theorem ok23 : KnOk Try.prog E0 K23 := ok22.add (kn8 ok22)
noncomputable def K24 := knAdd K23 11 kfTrue
theorem ok24 : KnOk Try.prog E0 K24 := ok23.add kn11
theorem relF (W : World) : Rel E0 (base0 W) (frz W) s0 W :=
 ⟨⟨rfl, rfl, rfl, Nat.le_refl _, fun _ _ => rfl⟩, fun _ _ => rfl, Nat.le_refl _, fun b o h => by simp [s0, Tr.get_nil] at h, fun b b' o o' cb sh sz sh' sz' h => by simp [s0, Tr.get_nil] at h, fun g b h => (by rw [glob0] at h; cases h), fun k o h => h, fun b o cb sh sz h => (by simp [s0, Tr.get_nil] at h), fun k o h _ => trivial⟩
end Go.Proofs.Ythmkdoaaciamlaa.W
namespace Go.Proofs.Ythmkdoaaciamlaa.W
open Go.Proofs.Ythmkdoaaciamlaa.Ev
structure RSt where
 left : List UInt8
 lost : Bool
noncomputable def rdO (q : RSt) : O := bxO 62 [sv q.left, .bool q.lost]
structure RdAt (s : St) (b : Nat) (q : RSt) : Prop where
 on : s.on = false
 bx : Bx s b 62 [sv q.left, .bool q.lost]
theorem set_two1 (x y v : V) : (Tr.ofListFrom .nil [x, y] 0).set v 1 = Tr.ofListFrom .nil [x, v] 0 := by kernel_rfl
section
variable {s : St}
theorem bx_st1 (ho : s.on = false) {b e : Nat} {x y v : V} (h : Bx s b e [x, y]) (h1 : v.size = 1) (h2 : v.cells = one v) (h3 : isTuple v = false) : stP 1 (.ptr b 1) v s = some (.tuple [], s.put b (bxO e [x, v])) := by
 show vu (bif Nat.beq v.size 1 && !isTuple v then stK s b 1 1 v.cells else none) = _
 rw [h1, h2, h3]
 have hst : stK s b 1 1 (one v) = some (s.put b (bxO e [x, v])) := by
  unfold stK
  rw [h]
  simp only [List.length_cons, List.length_nil, show Nat.ble (1 + 1) (2 * 1) = true from rfl, blt_true.2 (show 2 * 1 < big by unfold big; decide), Bool.and_self, Bool.not_false, cond_true]
  unfold elemTo
  rw [show Nat.beq 1 (0 + 1 + 1) = false from rfl]
  have hv0 : (one v).get 0 = some v := rfl
  simp only [Bool.false_and, cond_false, cellsTo, Tr.setC_eq, hv0, oB, Nat.add_zero, show 1 / (0 + 1 + 1) = 0 from rfl, show 1 % (0 + 1 + 1) = 1 from rfl]
  rw [Tr.get_ofList]
  simp only [List.getElem?_cons_zero, oB, set_two1, set_one, note_off ho]
  rfl
 rw [hst]; rfl
theorem bx_put (b e : Nat) (l : List V) : Bx (s.put b (bxO e l)) b e l := by
 show (s.put b (bxO e l)).heap.get b = some (bxO e l)
 rw [put_get, if_pos rfl]
theorem big2 : 2 < big := by unfold big; decide
variable {b : Nat} {q : RSt}
theorem RdAt.o0 (h : RdAt s b q) : ld1 (.ptr b 0) (onS s) = some (sv q.left, rd s b 0 1) := Bx.ld1On h.on h.bx 0 (by show 0 < 2; decide) big2
theorem RdAt.ol (h : RdAt s b q) : ld1 (.ptr b 1) (onS s) = some (.bool q.lost, rd s b 1 1) := Bx.ld1On h.on h.bx 1 (by show 1 < 2; decide) big2
theorem RdAt.grew {W : Nat → Prop} {u : St} (h : RdAt s b q) (hb : b < s.next) (hw : ¬ W b) (g : Grew W s u) : RdAt u b q := ⟨g.on.trans h.on, h.bx.grew hb hw g⟩
theorem RdAt.put (h : s.on = false) (b : Nat) (q : RSt) : RdAt (s.put b (rdO q)) b q := ⟨h, bx_put b 62 _⟩
theorem RdAt.st1 (h : RdAt s b q) (u : Bool) : stP 1 (.ptr b 1) (.bool u) s = some (.tuple [], s.put b (rdO ⟨q.left, u⟩)) := bx_st1 h.on h.bx rfl rfl rfl
theorem relog_onS (h : s.on = false) (ls : List (List LE)) : relog s (onS s) ls = s := by
 unfold relog
 rw [h]
 cases s
 simp only at h
 subst h
 rfl
end
end Go.Proofs.Ythmkdoaaciamlaa.W
namespace Go.Proofs.Ythmkdoaaciamlaa.W
open Go.Proofs.Ythmkdoaaciamlaa.Ev
end Go.Proofs.Ythmkdoaaciamlaa.W
namespace Go.Proofs.Ythmkdoaaciamlaa.W
open Go.Proofs.Ythmkdoaaciamlaa.Ev
noncomputable def c5 (nm : List UInt8) (k : Int) (x : Bool) (d : List UInt8) (v : V) : List V := [sv nm, .int .i64 k, .bool x, sv d, v]
section
variable {s : St}
theorem AgAt.relog {s0 w : St} (h0 : s0.on = false) {b e z : Nat} {t : Tr V} (h : AgAt w b e z t) (hon : w.on = false) (hn : w.next = s0.next) (g : Grew (fun x => x = b) s0 w) (l : List LE) (ls : List (List LE)) :
 AgAt (relog s0 (w.lg l) ls) b e z t ∧ (Go.Proofs.Ythmkdoaaciamlaa.Ev.relog s0 (w.lg l) ls).next = s0.next ∧ Grew (fun x => x = b) s0 (Go.Proofs.Ythmkdoaaciamlaa.Ev.relog s0 (w.lg l) ls) := by
 obtain ⟨r1, r2, r3⟩ := relog_lg h0 l ls hon
 obtain ⟨c, h1, h2⟩ := h
 exact ⟨⟨c, by rw [r1]; exact h1, h2⟩, by rw [r2, hn], ⟨by rw [r2, hn]; exact Nat.le_refl _, by rw [r3, h0], fun x hx hne => by rw [r1]; exact g.keep x hx hne⟩⟩
end
end Go.Proofs.Ythmkdoaaciamlaa.W
namespace Go.Proofs.Ythmkdoaaciamlaa.W
open Go.Proofs.Ythmkdoaaciamlaa.Ev
end Go.Proofs.Ythmkdoaaciamlaa.W
namespace Go.Proofs.Ythmkdoaaciamlaa.W
open Go.Proofs.Ythmkdoaaciamlaa.Ev
section
variable (b : Nat)
end
end Go.Proofs.Ythmkdoaaciamlaa.W
namespace Go.Proofs.Ythmkdoaaciamlaa.W
open Go.Proofs.Ythmkdoaaciamlaa.Ev
end Go.Proofs.Ythmkdoaaciamlaa.W
namespace Go.Proofs.Ythmkdoaaciamlaa.W
open Go.Proofs.Ythmkdoaaciamlaa.Ev
end Go.Proofs.Ythmkdoaaciamlaa.W
namespace Go.Proofs.Ythmkdoaaciamlaa.W
open Go.Proofs.Ythmkdoaaciamlaa.Ev
inductive Lf where
 | pos (off : Nat)
 | empty
 | nil
def Lf.left (full : List UInt8) : Lf → List UInt8
 | .pos off => full.drop off
 | _ => []
noncomputable def Lf.v (r : Nat) (full : List UInt8) : Lf → V
 | .pos off => .oslice r off (full.length - off) 1
 | .empty => .eslice
 | .nil => .nilslice
def Lf.ok (full : List UInt8) : Lf → Prop
 | .pos off => off ≤ full.length
 | _ => True
structure WSt where
 at_ : Lf
 lost : Bool
noncomputable def wO (r : Nat) (full : List UInt8) (w : WSt) : O := bxO 74 [w.at_.v r full, .bool w.lost]
structure RowFor (s : St) (b r : Nat) (full : List UInt8) : Prop where
 row : RowAt s r 5 1 (full.map byteC)
 ne : r ≠ b
 rlt : r < s.next
def Lf.isPos : Lf → Prop
 | .pos _ => True
 | _ => False
structure WAt (s : St) (b r : Nat) (full : List UInt8) (w : WSt) : Prop where
 on : s.on = false
 bx : Bx s b 74 [w.at_.v r full, .bool w.lost]
 ok : w.at_.ok full
 fit : full.length ≤ 100000
 src : w.at_.isPos → RowFor s b r full
section
variable {s : St} {b r : Nat} {full : List UInt8} {w : WSt}
theorem WAt.grew {W : Nat → Prop} {u : St} (h : WAt s b r full w) (hb : b < s.next) (hw : ¬ W b) (hr : w.at_.isPos → r < s.next → r ≠ b → ¬ W r) (g : Grew W s u) : WAt u b r full w :=
 ⟨g.on.trans h.on, h.bx.grew hb hw g, h.ok, h.fit, fun hp => ⟨(h.src hp).row.grew (h.src hp).rlt (hr hp (h.src hp).rlt (h.src hp).ne) g, (h.src hp).ne, Nat.lt_of_lt_of_le (h.src hp).rlt g.next⟩⟩
theorem WAt.put (h : WAt s b r full w) (u : WSt) (hu : u.at_.ok full) (hp : u.at_.isPos → w.at_.isPos) : WAt (s.put b (wO r full u)) b r full u :=
 ⟨h.on, bx_put b 74 _, hu, h.fit, fun hu => ⟨(h.src (hp hu)).row.grew (h.src (hp hu)).rlt (h.src (hp hu)).ne (grew_put b _), (h.src (hp hu)).ne, (h.src (hp hu)).rlt⟩⟩
theorem WAt.st1 (h : WAt s b r full w) (u : Bool) : stP 1 (.ptr b 1) (.bool u) s = some (.tuple [], s.put b (wO r full ⟨w.at_, u⟩)) := bx_st1 h.on h.bx rfl rfl rfl
end
end Go.Proofs.Ythmkdoaaciamlaa.W
namespace Go.Proofs.Ythmkdoaaciamlaa.W
open Go.Proofs.Ythmkdoaaciamlaa.Ev
def WSt.left (full : List UInt8) (w : WSt) : List UInt8 := w.at_.left full
end Go.Proofs.Ythmkdoaaciamlaa.W
namespace Go.Proofs.Ythmkdoaaciamlaa.W
open Go.Proofs.Ythmkdoaaciamlaa.Ev
section
variable {s : St}
end
end Go.Proofs.Ythmkdoaaciamlaa.W
namespace Go.Proofs.Ythmkdoaaciamlaa.W
open Go.Proofs.Ythmkdoaaciamlaa.Ev
section
variable {s : St}
end
end Go.Proofs.Ythmkdoaaciamlaa.W
namespace Go.Proofs.Ythmkdoaaciamlaa.W
open Go.Proofs.Ythmkdoaaciamlaa.Ev
structure Frame (S : St) (c b n : Nat) : Prop where
 cb : c ≠ b
 bn : b < n
 cn : c < n
 nS : n < S.next
section
variable {S : St}
end
end Go.Proofs.Ythmkdoaaciamlaa.W
namespace Go.Proofs.Ythmkdoaaciamlaa.W
open Go.Proofs.Ythmkdoaaciamlaa.Ev
end Go.Proofs.Ythmkdoaaciamlaa.W
namespace Go.Proofs.Ythmkdoaaciamlaa.W
open Go.Proofs.Ythmkdoaaciamlaa.Ev
end Go.Proofs.Ythmkdoaaciamlaa.W
namespace Go.Proofs.Ythmkdoaaciamlaa.W
open Go.Proofs.Ythmkdoaaciamlaa.Ev
section
variable {s : St}
end
end Go.Proofs.Ythmkdoaaciamlaa.W
namespace Go.Proofs.Ythmkdoaaciamlaa.W
open Go.Proofs.Ythmkdoaaciamlaa.Ev
def RowO (o : O) (full : List UInt8) : Prop := ∃ cc, o = .cells 5 1 (full.map byteC).length false cc ∧ ∀ (i : Nat) t, (full.map byteC)[i]? = some t → cc.get i = some t
theorem RowO.same {o : O} {f g : List UInt8} (h : RowO o f) (k : RowO o g) : f = g := by
 obtain ⟨c1, e1, h1⟩ := h
 obtain ⟨c2, e2, h2⟩ := k
 rw [e1] at e2
 simp only [O.cells.injEq, true_and] at e2
 obtain ⟨hl, rfl⟩ := e2
 rw [List.length_map, List.length_map] at hl
 refine List.ext_getElem hl fun i hi hj => ?_
 have a1 := h1 i (byteC f[i]) (by rw [List.getElem?_map, List.getElem?_eq_getElem hi]; rfl)
 have a2 := h2 i (byteC g[i]) (by rw [List.getElem?_map, List.getElem?_eq_getElem hj]; rfl)
 rw [a1] at a2
 simp only [oS] at a2
 have h0 : (byteC f[i]).get 0 = (byteC g[i]).get 0 := by rw [a2]
 have h0' : some (V.int .u8 (.ofNat f[i].toNat)) = some (V.int .u8 (.ofNat g[i].toNat)) := h0
 simp only [oS, V.int.injEq, true_and] at h0'
 exact UInt8.toNat_inj.1 (Int.ofNat.inj h0')
end Go.Proofs.Ythmkdoaaciamlaa.W
namespace Go.Proofs.Ythmkdoaaciamlaa.W
open Go.Proofs.Ythmkdoaaciamlaa.Ev
end Go.Proofs.Ythmkdoaaciamlaa.W
namespace Go.Proofs.Ythmkdoaaciamlaa.W
open Go.Proofs.Ythmkdoaaciamlaa.Ev
end Go.Proofs.Ythmkdoaaciamlaa.W
namespace Go.Proofs.Ythmkdoaaciamlaa.W
open Go.Proofs.Ythmkdoaaciamlaa.Ev
theorem digsA_zero (acc : List UInt8) : digsA 0 acc = acc := by rw [digsA, dif_pos rfl]
theorem digsA_pos {m : Nat} (h : m ≠ 0) (acc : List UInt8) : digsA m acc = digsA (m / 128) (UInt8.ofNat (m % 128 + 128) :: acc) := by rw [digsA, dif_neg h]
theorem digsA_acc : ∀ (m : Nat) (acc : List UInt8), digsA m acc = digsA m [] ++ acc := fun m => by
 induction m using Nat.strongRecOn with
 | ind m ih =>
  intro acc
  by_cases h : m = 0
  · subst h; rw [digsA_zero, digsA_zero]; rfl
  · rw [digsA_pos h, digsA_pos h [], ih (m / 128) (by omega) (_ :: acc), ih (m / 128) (by omega) [_], List.append_assoc]; rfl
theorem digs_eq (n : Nat) : digs n = digsA (n / 128) [] ++ [UInt8.ofNat (n % 128)] := by
 unfold digs
 rw [digsA_acc]
end Go.Proofs.Ythmkdoaaciamlaa.W
namespace Go.Proofs.Ythmkdoaaciamlaa.W
open Go.Proofs.Ythmkdoaaciamlaa.Ev
end Go.Proofs.Ythmkdoaaciamlaa.W
namespace Go.Proofs.Ythmkdoaaciamlaa.W
open Go.Proofs.Ythmkdoaaciamlaa.Ev
theorem digs_pos (n : Nat) : 1 ≤ (digs n).length := by rw [digs_eq, List.length_append, List.length_singleton]; omega
theorem putText_acc (s t : List UInt8) : putText s t = s ++ putText [] t := by
 unfold putText
 simp only [List.nil_append, List.append_assoc]
mutual
theorem layN_acc : ∀ (x : Nd) (s : List UInt8), layN s x = s ++ layN [] x
 | .mk n k e d l, s => by
  rw [layN, layN]
  split
  · rw [putText_acc, putText_acc ([] ++ _ ++ _)]
    simp only [List.nil_append, List.append_assoc]
  · split
    · rw [putText_acc, putText_acc ([] ++ _)]
      simp only [List.nil_append, List.append_assoc]
    · rw [layL_acc l, layL_acc l ([] ++ _ ++ _)]
      simp only [List.nil_append, List.append_assoc]
theorem layL_acc : ∀ (l : List Nd) (s : List UInt8), layL s l = s ++ layL [] l
 | [], s => by rw [layL, layL, List.append_nil]
 | x :: l, s => by
  rw [layL, layL, layL_acc l, layL_acc l (layN (putText [] x.name) x), layN_acc x, layN_acc x (putText [] x.name), putText_acc]
  simp only [List.append_assoc]
end
theorem layN_nil (x : Nd) : layN [] x = if x.kind = 1 then digs x.kind.toNat ++ digs (if x.exec then 1 else 0) ++ putText [] x.data else if x.kind = 3 then digs x.kind.toNat ++ putText [] x.data else digs x.kind.toNat ++ digs x.kids.length ++ layL [] x.kids := by
 rw [layN_eq]
 split
 · rw [putText_acc]; simp only [List.nil_append]
 · split
   · rw [putText_acc]; simp only [List.nil_append]
   · rw [layL_acc]; simp only [List.nil_append]
theorem layL_cons (x : Nd) (l : List Nd) : layL [] (x :: l) = putText [] x.name ++ (layN [] x ++ layL [] l) := by
 rw [layL, layL_acc, layN_acc]
 simp only [List.append_assoc]
end Go.Proofs.Ythmkdoaaciamlaa.W
namespace Go.Proofs.Ythmkdoaaciamlaa.W
open Go.Proofs.Ythmkdoaaciamlaa.Ev
theorem mayN_dir {x : Nd} (h : mayN x = true) (hk : x.kind = 2) : mayL none x.kids = true ∧ x.exec = false ∧ x.data = [] := by
 rw [mayN_eq, if_neg (by omega), if_neg (by omega), if_pos hk] at h
 simp only [Bool.and_eq_true, Bool.not_eq_true', beq_iff_eq] at h
 exact ⟨h.1, h.2.1, h.2.2⟩
theorem cntL_mem {l : List Nd} {y : Nd} (h : y ∈ l) : cntN y ≤ cntL l := by
 induction l with
 | nil => cases h
 | cons x l ih =>
  rw [cntL]
  rcases List.mem_cons.1 h with rfl | h
  · omega
  · have := ih h; omega
end Go.Proofs.Ythmkdoaaciamlaa.W
namespace Go.Proofs.Ythmkdoaaciamlaa.W
open Go.Proofs.Ythmkdoaaciamlaa.Ev
end Go.Proofs.Ythmkdoaaciamlaa.W
namespace Go.Proofs.Ythmkdoaaciamlaa.W
open Go.Proofs.Ythmkdoaaciamlaa.Ev
structure Taken (x : Nd) (s : List UInt8) : Prop where
 name : x.name = []
 may : mayN x = true
 deep : deepN 14 x ≤ 12
 cnt : cntN x ≤ 2000
 bytes : s = putText [] magicN ++ layN [] x
 fit : s.length ≤ 60000
theorem check_parts {x : Nd} (h : checkN x = 0) : x.name = [] ∧ deepN 14 x ≤ 12 := by
 unfold checkN at h
 cases ht : tooDeepN x with
 | true => rw [ht, if_pos rfl] at h; omega
 | false =>
  rw [ht, if_neg (by simp)] at h
  cases hn : (x.name == [] && mayN x) with
  | false => rw [hn, if_neg (by simp)] at h; omega
  | true =>
   rw [Bool.and_eq_true, beq_iff_eq] at hn
   unfold tooDeepN at ht
   exact ⟨hn.1, by simpa using ht⟩
theorem taken {x : Nd} {s : List UInt8} (ok : x.ok) (h0 : (encodeN x).2 = 0) (hs : (encodeN x).1 = s) : Taken x s := by
 unfold encodeN at h0 hs
 by_cases hc : checkN x = 0
 · rw [if_pos hc] at h0 hs
   obtain ⟨may, cnt⟩ := check_ok ok hc
   obtain ⟨nm, dp⟩ := check_parts hc
   by_cases hf : (layN (putText [] magicN) x).length ≤ 60000
   · rw [if_pos hf] at hs
     simp only at hs
     exact ⟨nm, may, dp, cnt, by rw [← hs, layN_acc], by rw [← hs]; exact hf⟩
   · rw [if_neg hf] at h0
     simp at h0
 · rw [if_neg hc] at h0
   exact absurd h0 hc
end Go.Proofs.Ythmkdoaaciamlaa.W
namespace Go.Proofs.Ythmkdoaaciamlaa.W
open Go.Proofs.Ythmkdoaaciamlaa.Ev
end Go.Proofs.Ythmkdoaaciamlaa.W
namespace Go.Proofs.Ythmkdoaaciamlaa.W
open Go.Proofs.Ythmkdoaaciamlaa.Ev
end Go.Proofs.Ythmkdoaaciamlaa.W
namespace Go.Proofs.Ythmkdoaaciamlaa.W
open Go.Proofs.Ythmkdoaaciamlaa.Ev
end Go.Proofs.Ythmkdoaaciamlaa.W
namespace Go.Proofs.Ythmkdoaaciamlaa.W
open Go.Proofs.Ythmkdoaaciamlaa.Ev
end Go.Proofs.Ythmkdoaaciamlaa.W
namespace Go.Proofs.Ythmkdoaaciamlaa.W
open Go.Proofs.Ythmkdoaaciamlaa.Ev
end Go.Proofs.Ythmkdoaaciamlaa.W
namespace Go.Proofs.Ythmkdoaaciamlaa.W
open Go.Proofs.Ythmkdoaaciamlaa.Ev
section
variable {s : St}
theorem AgAt.st_one (ho : s.on = false) {b e : Nat} {t : Tr V} (h : AgAt s b e 1 t) (v : V) (hs : v.size = 1) (hc : v.cells = one v) (hv : isTuple v = false) : ∃ w, stP 1 (.ptr b 0) v s = some (.tuple [], w) ∧ AgAt w b e 1 (one v) ∧ Grew (fun x => x = b) s w ∧ w.next = s.next := by
 obtain ⟨w, h1, h2, h3, h4⟩ := h.stA ho big1 (one v)
 refine ⟨w, ?_, h2, h3, h4⟩
 have e1 : stP 1 (.ptr b 0) (.agg 1 (one v)) s = vu (stK s b 0 1 (one v)) := rfl
 have e2 : stP 1 (.ptr b 0) v s = vu (bif Nat.beq v.size 1 && !isTuple v then stK s b 0 1 v.cells else none) := rfl
 rw [e2, hs, hc, hv, ← h1, e1]
 rfl
end
section
variable {self : EV} {a : Ac} {p0 p1 : Nat} {S : St}
end
end Go.Proofs.Ythmkdoaaciamlaa.W
namespace Go.Proofs.Ythmkdoaaciamlaa.W
open Go.Proofs.Ythmkdoaaciamlaa.Ev
def DecFit (s : List UInt8) : Prop := s.length ≤ 3001 ∨ ∃ x : Nd, x.ok ∧ (encodeN x).2 = 0 ∧ (encodeN x).1 = s
theorem DecFit.long {s : List UInt8} (h : DecFit s) : s.length ≤ 100000 := by
 rcases h with h | ⟨x, ok, h0, h1⟩
 · omega
 · have := (taken ok h0 h1).fit
   omega
end Go.Proofs.Ythmkdoaaciamlaa.W
namespace Go.Proofs.Ythmkdoaaciamlaa.W
open Go.Proofs.Ythmkdoaaciamlaa.Ev
end Go.Proofs.Ythmkdoaaciamlaa.W
namespace Go.Proofs.Ythmkdoaaciamlaa.W
open Go.Proofs.Ythmkdoaaciamlaa.Ev
theorem foldmax_ge {α : Type} (f : α → Nat) : ∀ (l : List α) (d : Nat), d ≤ l.foldl (fun d y => max d (1 + f y)) d ∧ ∀ y ∈ l, 1 + f y ≤ l.foldl (fun d y => max d (1 + f y)) d
 | [], d => ⟨Nat.le_refl _, fun _ h => (by cases h)⟩
 | x :: l, d => by
  obtain ⟨h1, h2⟩ := foldmax_ge f l (max d (1 + f x))
  refine ⟨Nat.le_trans (Nat.le_max_left _ _) h1, fun y hy => ?_⟩
  rcases List.mem_cons.1 hy with rfl | hy
  · exact Nat.le_trans (Nat.le_max_right _ _) h1
  · exact h2 y hy
theorem deep_kid {m : Nat} {x y : Nd} (h2 : x.kind = 2) (hy : y ∈ x.kids) (h : deepN (m + 1) x < m + 1) : deepN m y < deepN (m + 1) x := by
 rw [deepN] at h ⊢
 by_cases hm : m = 0
 · rw [if_pos (.inr hm)] at h; omega
 · rw [if_neg (by omega)] at h ⊢
   have := (foldmax_ge (fun y => deepN m y) x.kids 1).2 y hy
   have this := this
   omega
end Go.Proofs.Ythmkdoaaciamlaa.W
namespace Go.Proofs.Ythmkdoaaciamlaa.W
open Go.Proofs.Ythmkdoaaciamlaa.Ev Go.RowKit
end Go.Proofs.Ythmkdoaaciamlaa.W
namespace Go.Proofs.Ythmkdoaaciamlaa.W
open Go.Proofs.Ythmkdoaaciamlaa.Ev Go.RowKit
theorem enc_none {a : Nd} (h : (encodeN a).2 ≠ 0) : (encodeN a).1 = [] := by
 unfold encodeN at h ⊢
 by_cases hc : checkN a = 0
 · rw [if_pos hc] at h ⊢
   by_cases hf : (layN (putText [] magicN) a).length ≤ 60000
   · rw [if_pos hf] at h; exact absurd rfl h
   · rw [if_neg hf]
 · rw [if_neg hc]
end Go.Proofs.Ythmkdoaaciamlaa.W
namespace Go.Proofs.Ythmkdoaaciamlaa.W
open Go.Proofs.Ythmkdoaaciamlaa.Ev
def pathOf (p : List UInt8) (y : Nd) : List UInt8 := if p = [] then y.name else p ++ [47] ++ y.name
mutual
def pathsN : Nd → List UInt8 → List (List UInt8)
 | .mk _ k _ _ l, p => p :: (if k = 2 then pathsL l p else [])
def pathsL : List Nd → List UInt8 → List (List UInt8)
 | [], _ => []
 | y :: l, p => pathsN y (pathOf p y) ++ pathsL l p
end
theorem pathsN_eq (x : Nd) (p : List UInt8) : pathsN x p = p :: (if x.kind = 2 then pathsL x.kids p else []) := by cases x; rw [pathsN]; rfl
structure Yd (K : FuncId → Option KF) (n0 : Nat) (y : V) (I : (Nat → Prop) → List (List UInt8) → St → Prop) : Prop where
 on : ∀ {O acc S}, I O acc S → S.on = false
 lt : ∀ {O acc S b}, I O acc S → O b → b < S.next
 keep : ∀ {O acc S S'}, I O acc S → Grew O S S' → I (fun b => O b ∨ (S.next ≤ b ∧ b < S'.next)) acc S'
 weak : ∀ {O O' acc S}, I O acc S → (∀ b, O' b → O b) → I O' acc S
 one : OneV y
 call : ∀ {O acc S q x}, I O acc S → x.ok → q.length ≤ 100000 → acc.length < 3000 → ∀ n, n0 ≤ n → ∃ S', callK E0 (ev E0 K n) y [sv q, encN x] S = some (.ret (.bool true), S') ∧ I O (acc ++ [q]) S' ∧ Grew (fun b => ¬ O b) S S'
section
variable {K : FuncId → Option KF} {n0 : Nat} {y : V} {I : (Nat → Prop) → List (List UInt8) → St → Prop}
theorem Yd.keepO (h : Yd K n0 y I) {O acc S S'} (hI : I O acc S) (g : Grew O S S') : I O acc S' := h.weak (h.keep hI g) fun _ hb => .inl hb
def Inner (I : (Nat → Prop) → List (List UInt8) → St → Prop) (l p0 : Nat) (y : V) (O : Nat → Prop) (acc : List (List UInt8)) (S : St) : Prop :=
 ∃ O1, I O1 acc S ∧ (∀ b, O b → O1 b) ∧ O1 l ∧ O1 p0 ∧ ¬ O l ∧ ¬ O p0 ∧ l ≠ p0 ∧ S.heap.get l = some (O67_38 0 none (.ptr p0 0)) ∧ Bx S p0 85 [y]
theorem yd_inner (h : Yd K n0 y I) (l p0 : Nat) : Yd K (n0 + 1) (.yield l) (Inner I l p0 y) where
 on := fun ⟨_, h1, _⟩ => h.on h1
 lt := fun ⟨_, h1, h2, _⟩ hb => h.lt h1 (h2 _ hb)
 one := ⟨rfl, rfl, rfl, rfl⟩
 weak := fun ⟨O1, h1, h2, h3, h4, h5, h6, h7⟩ hw => ⟨O1, h1, fun b hb => h2 b (hw b hb), h3, h4, fun hb => h5 (hw _ hb), fun hb => h6 (hw _ hb), h7⟩
 keep := fun {O acc S S'} ⟨O1, h1, h2, h3, h4, h5, h6, h7, h8, h9⟩ g => by
  have l3 := h.lt h1 h3
  have l4 := h.lt h1 h4
  have g1 : Grew O1 S S' := g.mono fun b _ hb => h2 b hb
  refine ⟨fun b => O1 b ∨ (S.next ≤ b ∧ b < S'.next), h.keep h1 g1, fun b hb => hb.imp (h2 b) id, .inl h3, .inl h4, fun hb => ?_, fun hb => ?_, h7, by rw [g.keep l l3 h5]; exact h8, h9.grew l4 h6 g⟩
  · rcases hb with hb | hb
    · exact h5 hb
    · omega
  · rcases hb with hb | hb
    · exact h6 hb
    · omega
 call := fun {O acc S q x} ⟨O1, h1, h2, h3, h4, h5, h6, h7, h8, h9⟩ okx hq hacc n hn => by
  obtain ⟨k, rfl⟩ : ∃ k, n = k + 1 := ⟨n - 1, by omega⟩
  have ho := h.on h1
  have l3 := h.lt h1 h3
  have l4 := h.lt h1 h4
  obtain ⟨S1, a1, a2, a3, a4⟩ := node_new ho (Tr.ofListFrom .nil [(sv []), (.int .i64 0), (.bool false), (sv []), .nilslice] 0) x
  have g1 : Grew O1 S S1 := a3.mono fun _ _ h => h.elim
  have i1 := h.keepO h1 g1
  have hl1 : S1.heap.get l = some (O67_38 0 none (.ptr p0 0)) := by rw [a3.keep l l3 (fun h => h)]; exact h8
  have g2 : Grew (fun b => b = l) S1 (S1.put l (O67_38 2 none (.ptr p0 0))) := grew_put l _
  have hl2 : (S1.put l (O67_38 2 none (.ptr p0 0))).heap.get l = some (O67_38 2 none (.ptr p0 0)) := by rw [put_get, if_pos rfl]
  have n2 : (S1.put l (O67_38 2 none (.ptr p0 0))).next = S1.next := rfl
  have hmid : midR l (frR 46 [(3, .ptr p0 0), (7, sv q), (8, .ptr S.next 0), (38, sv q), (39, encN x)] l) S1 = fun k => k (S1.put l (O67_38 2 none (.ptr p0 0))) := funext fun k => midR_of a2.on hl1 rfl
  generalize S1.put l (O67_38 2 none (.ptr p0 0)) = S2 at g2 hl2 n2 hmid
  have on2 := g2.on.trans a2.on
  have i2 := h.keepO i1 (g2.mono fun b _ hb => by rw [hb]; exact h3)
  have hp2 : Bx S2 p0 85 [y] := (h9.grew l4 (fun h => h) a3).grew (by have := a3.next; omega) (fun e => h7 e.symm) g2
  have hn2 := a2.grew (by omega) (by omega) g2
  obtain ⟨S3, c1, c2, c3⟩ := h.call i2 okx hq hacc k (by omega)
  have on3 := c3.on.trans on2
  have hl3 : S3.heap.get l = some (O67_38 2 none (.ptr p0 0)) := by rw [c3.keep l (by have := a3.next; omega) (fun h => h h3)]; exact hl2
  have hp3 := hp2.grew (by have := a3.next; omega) (fun h => h h4) c3
  have g4 : Grew (fun b => b = l) S3 (S3.put l (O67_38 0 none (.ptr p0 0))) := grew_put l _
  refine ⟨S3.put l (O67_38 0 none (.ptr p0 0)), ?_, ⟨O1, h.keepO c2 (g4.mono fun b _ hb => by rw [hb]; exact h3), h2, h3, h4, h5, h6, h7, by rw [put_get, if_pos rfl], hp3.grew (by have := c3.next; have := a3.next; omega) (fun e => h7 e.symm) g4⟩, ?_⟩
  · refine round_run (da := DA67_38) (db := DB67_38) ho h8 (annot_isOf YA67_38 _ (by kernel_rfl)) (annot_isOf YB67_38 _ (by kernel_rfl)) (?_ : Y67_38 (ev E0 K k) rounds l (.ptr p0 0) (sv q) (encN x) S = _)
    rw [Y67_38_eq, oB, nwP_fst, a1, oB]
    dsimp only
    rw [hmid]
    dsimp only
    rw [Bx.ld1 on2 hp2 0 (by show 0 < 1; decide) big1, oB]
    dsimp only
    rw [hn2.fA, oB]
    dsimp only
    rw [show ([y] : List V)[0]'(by show 0 < 1; decide) = y from rfl, c1]
    rw [callE_ret, unV_not, oB, ifK_bool, Bool.not_true, cond_false]
    exact endRound_of on3 hl3
  · refine (((a3.mono fun _ _ h => h.elim).trans (g2.mono fun b _ hb => ?_)).trans (c3.mono fun b _ hb => fun hO => hb (h2 b hO))).trans (g4.mono fun b _ hb => ?_)
    · rw [hb]; exact h5
    · rw [hb]; exact h5
end
end Go.Proofs.Ythmkdoaaciamlaa.W
