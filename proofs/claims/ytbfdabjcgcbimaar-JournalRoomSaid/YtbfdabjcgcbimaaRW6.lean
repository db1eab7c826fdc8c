/-
  WHAT THE FUNCTIONS COME TO: each is read by the evaluator, printed, and told as a function of data, part 6 of 6 (no condition).
-/
import Derived.Test.YtbfdabjcgcbimaaRW5
import Derived.WalkKit
import Derived.ProofKit
import Derived.OpenShut
import Derived.Carry
import Derived.ChangeMaps5
namespace Go.Proofs.YtbfdabjcgcbimaaR.W
open Go.Proofs.YtbfdabjcgcbimaaR.Ev Go.RowKit
theorem glob0 : ∀ g, E0.glob.get g = none := fun _ => rfl
theorem kn11 : KnWell Try.prog E0 11 kfTrue := by
 refine ⟨specKF_loc, fun w0 ρ s w args cargs e t hR hv hg => ?_⟩
 unfold kfTrue specKF at hg
 simp only at hg
 by_cases hx : ∃ x : Unit, ([] : List V) = args
 · rw [dif_pos hx] at hg
   simp only [oS, pM] at hg
   obtain ⟨rfl, rfl⟩ := hg
   obtain ⟨_, rfl⟩ := hx
   obtain ⟨l⟩ := cargs
   cases hv
   exact (closed_walk E0_ok knOk_nil glob0 works_runs w).mono fun ce w' ⟨h1, h2⟩ => ⟨ρ, .bool true, h1, Rho.le_refl ρ, .bool true, hR.grown h2⟩
 · rw [dif_neg hx] at hg; cases hg
theorem okAll : KnOk Try.prog E0 KD := (knOk_nil.add kn34).add kn11
def frz (W : World) : Rho := ⟨fun _ => none, fun k => W.heap[k]?⟩
theorem relF (W : World) : Rel E0 (base0 W) (frz W) s0 W :=
 ⟨⟨rfl, rfl, rfl, Nat.le_refl _, fun _ _ => rfl⟩, fun _ _ => rfl, Nat.le_refl _, fun b o h => by simp [s0, Tr.get_nil] at h, fun b b' o o' cb sh sz sh' sz' h => by simp [s0, Tr.get_nil] at h, fun g b h => (by rw [glob0] at h; cases h), fun k o h => h, fun b o cb sh sz h => (by simp [s0, Tr.get_nil] at h), fun k o h _ => trivial⟩
theorem mapM_range_some {α : Type} {f : Nat → Option α} : ∀ (n k : Nat) {r : List α}, ((List.range' k n).mapM f) = some r → r.length = n ∧ ∀ i, i < n → ∃ y, r[i]? = some y ∧ f (k + i) = some y
 | 0, k, r, h => by
  simp at h; subst h
  exact ⟨rfl, fun i hi => by omega⟩
 | n + 1, k, r, h => by
  rw [List.range'_succ, List.mapM_cons] at h
  simp only [Option.bind_eq_bind, oI, Option.pure_def, oS] at h
  obtain ⟨y, hy, r', hr', rfl⟩ := h
  obtain ⟨h1, h2⟩ := mapM_range_some n (k + 1) hr'
  refine ⟨by simp [h1], fun i hi => ?_⟩
  cases i with
  | zero => exact ⟨y, rfl, hy⟩
  | succ i =>
   obtain ⟨z, hz1, hz2⟩ := h2 i (by omega)
   exact ⟨z, by simpa using hz1, by rw [show k + (i + 1) = k + 1 + i by omega]; exact hz2⟩
theorem cells?_at {W : World} {a : Addr} {n : Nat} {cs : List Value} (h : W.cells? 0 a n = some cs) : cs.length = n ∧ ∀ i, i < n → ∃ y, cs[i]? = some y ∧ W.cell? (a.add i) = some y := by
 unfold World.cells? at h
 rw [if_pos (Nat.zero_le _), List.range_eq_range'] at h
 obtain ⟨h1, h2⟩ := mapM_range_some n 0 h
 exact ⟨h1, fun i hi => by
  obtain ⟨y, hy1, hy2⟩ := h2 i hi
  exact ⟨y, hy1, by rw [Nat.zero_add] at hy2; exact hy2⟩⟩
theorem add_eq {a : Addr} (h : a.spot = none) (n : Nat) : a.add n = ⟨a.block, a.off + n, none⟩ := by
 unfold Addr.add
 split
 · rename_i h0
   subst h0
   cases a
   simp only at h
   subst h
   rfl
 · rfl
theorem u28 : Try.prog.underlying 28 = some (.slice 9) := by kernel_rfl
theorem u22 : Try.prog.underlying 22 = some (.slice 28) := by kernel_rfl
theorem u9 : Try.prog.underlying 9 = some .string := by kernel_rfl
theorem c9 : Try.prog.cellsOf 9 = 1 := by kernel_rfl
theorem c28 : Try.prog.cellsOf 28 = 1 := by kernel_rfl
theorem flat_at {β : Type} {z : Nat} (hz : 0 < z) : ∀ (ls : List (List β)), (∀ l ∈ ls, l.length = z) → ∀ (j : Nat) c, ls.flatten[j]? = some c → ∃ l, ls[j / z]? = some l ∧ l[j % z]? = some c
 | [], _, j, c, h => by simp at h
 | l :: ls, hl, j, c, h => by
  rw [List.flatten_cons] at h
  have h0 := hl l (List.mem_cons_self ..)
  by_cases hj : j < z
  · rw [List.getElem?_append_left (by omega)] at h
    exact ⟨l, by rw [Nat.div_eq_of_lt hj]; rfl, by rw [Nat.mod_eq_of_lt hj]; exact h⟩
  · rw [List.getElem?_append_right (by omega), h0] at h
    obtain ⟨l', h1, h2⟩ := flat_at hz ls (fun x hx => hl x (List.mem_cons_of_mem _ hx)) (j - z) c h
    refine ⟨l', ?_, ?_⟩
    · rw [show j = (j - z) + z by omega, Nat.add_div_right _ hz]; exact h1
    · rw [show j = (j - z) + z by omega, Nat.add_mod_right]; exact h2
theorem pick_any {α : Type} {P : Nat → α → Prop} : ∀ (n : Nat), (∀ i, i < n → ∃ b, P i b) → ∃ l : List α, l.length = n ∧ ∀ i b, l[i]? = some b → P i b
 | 0, _ => ⟨[], rfl, fun i b h => by simp at h⟩
 | n + 1, h => by
  obtain ⟨l, h1, h2⟩ := pick_any n fun i hi => h i (by omega)
  obtain ⟨b, hb⟩ := h n (by omega)
  refine ⟨l ++ [b], by simp [h1], fun i c hc => ?_⟩
  by_cases hi : i < n
  · rw [List.getElem?_append_left (by omega)] at hc
    exact h2 i c hc
  · have hi2 : i = n := by
     have := (List.getElem?_eq_some_iff.1 hc).1
     simp [h1] at this
     omega
    subst hi2
    rw [List.getElem?_append_right (by omega)] at hc
    simp [h1] at hc
    subst hc
    exact hb
theorem vrels_map {ρ : Rho} {α : Type} (f : α → V) (g : α → Value) : ∀ l : List α, (∀ a ∈ l, VRel ρ (f a) (g a)) → VRels ρ (l.map f) (l.map g)
 | [], _ => .nil
 | a :: l, h => .cons (h a (List.mem_cons_self ..)) (vrels_map f g l fun b hb => h b (List.mem_cons_of_mem _ hb))
section
variable {H : Type} {enc : TypeId × Value → H} {W : World}
theorem list_of_trod {α : Type} {t e z : Nat} {F : α → V} {Q : α → Prop} (ht : Try.prog.underlying t = some (.slice e)) (hz : Try.prog.cellsOf e = z) (hz0 : 0 < z)
 (el : ∀ fuel cs (x : DataW H × List MemPlace), DataW.trod enc Try.prog W 0 (fun _ => true) true fuel e cs = some x → ∃ (a : α) (cv : Value), VRel (frz W) (F a) cv ∧ isTuple (F a) = false ∧ cv.cells.toList = cs ∧ Q a)
 {fuel : Nat} {cs : List Value} {x : DataW H × List MemPlace} (h : DataW.trod enc Try.prog W 0 (fun _ => true) true fuel t cs = some x) :
 ∃ (cv : Value) (v : V) (l : List α), cs = [cv] ∧ VRel (frz W) v cv ∧ ((l = [] ∧ (v = .nilslice ∨ v = .eslice)) ∨ v = .list z (l.map F)) ∧ (∀ a ∈ l, Q a) ∧ ∃ ad len cap, cv = .slice ad len cap := by
 rcases DataW.trod_slice ht h with ⟨hv, _⟩ | ⟨a, len, cap, elems, rest, m, hm, hv, _, _, hcap, hmax, hel, hat, _⟩
 · exact ⟨_, .nilslice, [], hv, .nilslice, .inl ⟨rfl, .inl rfl⟩, fun _ h => by simp at h, _, _, _, rfl⟩
 · by_cases h0 : len = 0
   · subst h0
     exact ⟨_, .eslice, [], hv, .eslice a cap, .inl ⟨rfl, .inr rfl⟩, fun _ h => by simp at h, _, _, _, rfl⟩
   · have hAt : ∀ i, i < len → ∃ p : α × Value, VRel (frz W) (F p.1) p.2 ∧ isTuple (F p.1) = false ∧ Q p.1 ∧ p.2.cells.toList.length = z ∧ ∀ k, k < z → ∃ y, p.2.cells.toList[k]? = some y ∧ W.cell? ((a.add (i * z)).add k) = some y := fun i hi => by
      have := hat i hi
      rw [hz, List.getElem?_eq_getElem (by omega), oI] at this
      obtain ⟨cells, h1, h2⟩ := this
      obtain ⟨b, cv, b1, b2, b3, b4⟩ := el _ _ _ h2
      obtain ⟨c1, c2⟩ := cells?_at h1
      exact ⟨(b, cv), b1, b2, b4, by rw [b3]; exact c1, by rw [b3]; exact c2⟩
     obtain ⟨p0, _, _, _, _, q0⟩ := hAt 0 (by omega)
     obtain ⟨y0, _, hb0⟩ := q0 0 hz0
     have hspot : a.spot = none ∧ ∃ bg ty fr, W.heap[a.block]? = some (.cells bg ty fr) := by
      rw [Nat.zero_mul, show (a.add 0).add 0 = a from rfl] at hb0
      unfold World.cell? at hb0
      split at hb0
      · rename_i bg ty fr hh
        split at hb0
        · cases hb0
        · rename_i hsp
          exact ⟨by simpa using hsp, bg, ty, fr, hh⟩
      · cases hb0
     obtain ⟨hsp, bg, ty, fr, hheap⟩ := hspot
     obtain ⟨l, l1, l2⟩ := pick_any len hAt
     have hin : ∀ p ∈ l, ∃ i, l[i]? = some p := fun p hp => List.mem_iff_getElem?.1 hp
     refine ⟨_, .list z ((l.map (·.1)).map F), l.map (·.1), hv, ?_, .inr rfl, fun b hb => ?_, _, _, _, rfl⟩
     · rw [List.map_map]
       refine .list (vrels_map _ (·.2) l fun p hp => ?_) (fun v hv => ?_) (by rw [List.length_map]; exact l1) hcap fun _ => ⟨fun cv hcv => ?_, hsp, bg, ty, fr, hheap, fun j c hj => ?_⟩
       · obtain ⟨i, hi⟩ := hin p hp
         exact (l2 i p hi).1
       · rw [List.mem_map] at hv
         obtain ⟨p, hp, rfl⟩ := hv
         obtain ⟨i, hi⟩ := hin p hp
         exact (l2 i p hi).2.1
       · rw [List.mem_map] at hcv
         obtain ⟨p, hp, rfl⟩ := hcv
         obtain ⟨i, hi⟩ := hin p hp
         have := (l2 i p hi).2.2.2.1
         rwa [Array.length_toList] at this
       · rw [List.flatMap_def, List.map_map] at hj
         obtain ⟨cl, h1, h2⟩ := flat_at hz0 _ (fun cl hcl => by
          rw [List.mem_map] at hcl
          obtain ⟨p, hp, rfl⟩ := hcl
          obtain ⟨i, hi⟩ := hin p hp
          exact (l2 i p hi).2.2.2.1) j c hj
         rw [List.getElem?_map, Option.map_eq_some_iff] at h1
         obtain ⟨p, hp, rfl⟩ := h1
         obtain ⟨y, y1, y2⟩ := (l2 _ p hp).2.2.2.2 (j % z) (Nat.mod_lt _ hz0)
         have hc : c = y := by
          have := h2.symm.trans y1
          simpa using this
         subst hc
         rw [add_eq hsp, add_eq rfl] at y2
         unfold World.cell? at y2
         simp only at y2
         rw [hheap] at y2
         have he : a.off + j / z * z + j % z = a.off + j := by
          have := Nat.div_add_mod j z
          rw [Nat.mul_comm] at this
          omega
         rw [he] at y2
         exact y2
     · rw [List.mem_map] at hb
       obtain ⟨p, hp, rfl⟩ := hb
       obtain ⟨i, hi⟩ := hin p hp
       exact (l2 i p hi).2.2.1
theorem texts_of_trod {fuel : Nat} {cs : List Value} {x : DataW H × List MemPlace} (h : DataW.trod enc Try.prog W 0 (fun _ => true) true fuel 28 cs = some x) :
 ∃ (cv : Value) (v : V) (l : List Bs), cs = [cv] ∧ VRel (frz W) v cv ∧ TV v l ∧ ∃ ad len cap, cv = .slice ad len cap := by
 obtain ⟨cv, v, l, h1, h2, h3, _, h4⟩ := list_of_trod (F := sv) (Q := fun _ => True) u28 c9 (by omega) (fun fuel cs x hx => by
  obtain ⟨s, rfl, _, _⟩ := DataW.trod_string u9 hx
  exact ⟨s.data.toList, .string s, .str s, rfl, rfl, trivial⟩) h
 exact ⟨cv, v, l, h1, h2, h3, h4⟩
theorem lists_of_trod {fuel : Nat} {cs : List Value} {x : DataW H × List MemPlace} (h : DataW.trod enc Try.prog W 0 (fun _ => true) true fuel 22 cs = some x) :
 ∃ (cv : Value) (v : V) (l : List RawL), cs = [cv] ∧ VRel (frz W) v cv ∧ LV v l ∧ ∃ ad len cap, cv = .slice ad len cap := by
 obtain ⟨cv, v, l, h1, h2, h3, h4, h5⟩ := list_of_trod (F := RawL.v) (Q := fun r => TV r.v r.l) u22 c28 (by omega) (fun fuel cs x hx => by
  obtain ⟨c1, v1, l1, q1, r1, t1, ad, len, cap, z1⟩ := texts_of_trod hx
  exact ⟨⟨v1, l1⟩, c1, r1, t1.one.tup, by rw [q1, z1]; rfl, t1⟩) h
 exact ⟨cv, v, l, h1, h2, ⟨h3, h4⟩, h5⟩
end
theorem room_calls (W : World) {v0 : V} {cv : Value} {l : List RawL} (hv : VRel (frz W) v0 cv) (h : LV v0 l) : Calls Try.prog 3 #[cv] W fun e w' => e = .returned (.bool true) ∧ Below W.heap.size W w' := by
 obtain ⟨U, hl⟩ := rooml_run h
 refine ((ev_sim E0_ok okAll 61).call (base0 W) _ s0 W 3 [v0] #[cv] _ U (relF W) (.cons hv .nil) hl).mono fun ce w' hce => ?_
 obtain ⟨ρ', cv, rfl, _, hv, hR⟩ := hce
 cases hv
 exact ⟨rfl, below_of_rel hR⟩
end Go.Proofs.YtbfdabjcgcbimaaR.W
