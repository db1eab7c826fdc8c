/-
  WHAT THE FUNCTIONS COME TO: each is read by the evaluator, printed, and told as a function of data, part 9 of 10 (no condition).
-/
import Derived.Test.YtbihlgcdnhoknaaW8
namespace Go.Proofs.Ytbihlgcdnhoknaa.W
open Go.Proofs.Ytbihlgcdnhoknaa.Ev
def sumD (l : List Nod) : Nat := (l.map fun p => p.ino.data.length).sum
theorem qaw (p : Nod) (l) : sumD (p :: l) = p.ino.data.length + sumD l := by
 unfold sumD
 rw [List.map_cons, List.sum_cons]
theorem qax {d : Int} {f : Ino → Ino} (hf : ∀ n, (f n).data = n.data) : ∀ l : List Nod, sumD (updN d f l) = sumD l
 | [] => rfl
 | q :: l => by
  show sumD ((if q.no = d then ({ q with ino := f q.ino } : Nod) else q) :: updN d f l) = _
  rw [qaw, qaw, qax hf l]
  split
  · show (f q.ino).data.length + _ = _
    rw [hf]
  · rfl
theorem updN_notin {d : Int} {f : Ino → Ino} : ∀ {l : List Nod}, d ∉ l.map (·.no) → updN d f l = l
 | [], _ => rfl
 | q :: l, h => by
  simp only [List.map_cons, List.mem_cons, not_or] at h
  show ((if q.no = d then ({ q with ino := f q.ino } : Nod) else q) :: updN d f l) = _
  rw [if_neg (fun e => h.1 e.symm), updN_notin h.2]
theorem sumD_upd {d : Int} (f : Ino → Ino) : ∀ {l : List Nod} {p : Nod}, (l.map (·.no)).Nodup → getN d l = some p → sumD (updN d f l) + p.ino.data.length = sumD l + (f p.ino).data.length
 | [], p, _, h => by cases h
 | q :: l, p, hn, h => by
  rw [List.map_cons, List.nodup_cons] at hn
  unfold getN at h
  show sumD ((if q.no = d then ({ q with ino := f q.ino } : Nod) else q) :: updN d f l) + _ = _
  by_cases hc : d = q.no
  · rw [if_pos hc] at h
    cases h
    rw [if_pos hc.symm, updN_notin (by rw [hc]; exact hn.1), qaw, qaw]
    show (f q.ino).data.length + sumD l + q.ino.data.length = q.ino.data.length + sumD l + (f q.ino).data.length
    omega
  · rw [if_neg hc] at h
    rw [if_neg (fun e => hc e.symm), qaw, qaw]
    have := sumD_upd f hn.2 h
    omega
theorem sumD_del {i : Int} : ∀ {l : List Nod} {p : Nod}, getN i l = some p → sumD l = sumD (delN i l) + p.ino.data.length ∧ l.length = (delN i l).length + 1
 | [], p, h => by cases h
 | q :: l, p, h => by
  unfold getN at h
  unfold delN
  by_cases hc : i = q.no
  · rw [if_pos hc] at h
    cases h
    rw [if_pos hc, qaw]
    exact ⟨by omega, rfl⟩
  · rw [if_neg hc] at h
    rw [if_neg hc, qaw, qaw]
    obtain ⟨h1, h2⟩ := sumD_del h
    exact ⟨by omega, by simp only [List.length_cons]; omega⟩
theorem sumD_add (p : Nod) : ∀ l : List Nod, sumD (l ++ [p]) = sumD l + p.ino.data.length
 | [] => by rw [List.nil_append, qaw]; show p.ino.data.length + 0 = 0 + p.ino.data.length; omega
 | q :: l => by rw [List.cons_append, qaw, qaw, sumD_add p l]; omega
theorem qan (d : Int) (f : Ino → Ino) (l : List Nod) : (updN d f l).length = l.length := by unfold updN; rw [List.length_map]
def Lt (a : List UInt8) : Prop := ∃ c : UInt8, a = [c] ∧ 97 ≤ c.toNat ∧ c.toNat ≤ 100
structure NodeOk (k : Nat) (i : Int) (n : Ino) : Prop where
 l0 : 0 ≤ n.links
 l1 : n.links ≤ 1 + k
 pos : i ≠ 1 → 1 ≤ n.links
 nam : ∀ e ∈ n.ents, Lt e.1
 len : n.ents.length ≤ k
 dat : n.data.length ≤ 19
 ddir : n.kind = 2 → n.data = []
 knd : n.kind = 1 ∨ n.kind = 2 ∨ n.kind = 3
 lnk : n.kind = 3 → n.links = 1
theorem NodeOk.mono {k k' : Nat} {i : Int} {n : Ino} (h : NodeOk k i n) (hk : k ≤ k') : NodeOk k' i n := ⟨h.l0, by have := h.l1; omega, h.pos, h.nam, Nat.le_trans h.len hk, h.dat, h.ddir, h.knd, h.lnk⟩
structure Ok (T : Tab) (k : Nat) : Prop where
 sd : Sd T (2 ^ k - 1)
 nd : ∀ i p, T.get i = some p → NodeOk k i p.ino
 lst : 1 ≤ T.last ∧ T.last ≤ 1 + k
 num : T.ui = T.nodes.length
 byt : T.ub = sumD T.nodes
 cnt : T.nodes.length ≤ 1 + k
 qi : T.ui ≤ T.qi
 qb : T.ub ≤ T.qb
theorem qde (k : Nat) : 2 * (2 ^ k - 1) + 1 = 2 ^ (k + 1) - 1 := by
 have := Nat.one_le_two_pow (n := k)
 rw [Nat.pow_succ]; omega
theorem Ok.mono {T : Tab} {k : Nat} (h : Ok T k) : Ok T (k + 1) :=
 ⟨h.sd.mono (by rw [← qde]; omega), fun i p hp => (h.nd i p hp).mono (by omega), ⟨h.lst.1, by have := h.lst.2; omega⟩, h.num, h.byt, by have := h.cnt; omega, h.qi, h.qb⟩
section
variable {T : Tab} {k : Nat}
theorem qfb {k' : Nat} {d : Int} {f : Ino → Ino} (h : ∀ i p, T.get i = some p → NodeOk k i p.ino) (hk : k ≤ k') (hf : ∀ p, T.get d = some p → NodeOk k' d (f p.ino)) : ∀ i p, (T.upd d f).get i = some p → NodeOk k' i p.ino := fun i p hp => by
 rw [qaj, Option.map_eq_some_iff] at hp
 obtain ⟨x, hx, rfl⟩ := hp
 by_cases hi : i = d
 · rw [if_pos hi]
   subst hi
   exact hf x hx
 · rw [if_neg hi]
   exact (h i x hx).mono hk
theorem sumD_le : ∀ {l : List Nod}, (∀ p ∈ l, p.ino.data.length ≤ 19) → sumD l ≤ 19 * l.length
 | [], _ => by simp [sumD]
 | p :: l, h => by
  rw [qaw, List.length_cons]
  have := h p (List.mem_cons_self ..)
  have := sumD_le fun q hq => h q (List.mem_cons_of_mem _ hq)
  omega
theorem Ok.ub (h : Ok T k) : 0 ≤ T.ub ∧ T.ub ≤ 19 * (1 + k) := by
 have h1 := h.byt
 have h2 := h.cnt
 have h3 : sumD T.nodes ≤ 19 * T.nodes.length := sumD_le fun p hp => (h.nd p.no p (getN_of h.sd.key hp)).dat
 omega
theorem Ok.fits (h : Ok T k) (hk : k ≤ 100) : Fits T := by
 have h1 := h.ub
 have h2 := h.num
 have h3 := h.cnt
 exact ⟨by unfold big62; omega, by unfold big62; omega⟩
theorem len_setKS {a : List UInt8} {v : Int} {kv : List (List UInt8 × Int)} (h : lkS a kv = none) : (setKS a v kv).length = kv.length + 1 := by rw [qb5 a v kv h]; simp
theorem qf6 {a : List UInt8} : ∀ {kv : List (List UInt8 × Int)}, (dropKS a kv).length ≤ kv.length
 | [] => Nat.le_refl _
 | p :: kv => by
  unfold dropKS
  split
  · simp
  · have := qf6 (a := a) (kv := kv)
    simp only [List.length_cons]; omega
theorem qfx {i : Int} {n : Ino} (h : NodeOk k i n) {a : List UInt8} (ha : Lt a) (v : Int) (hl : lkS a n.ents = none) : NodeOk (k + 1) i (setE (setKS a v n.ents) n) :=
 ⟨h.l0, by have := h.l1; show n.links ≤ _; omega, h.pos, fun e he => by
  rcases qd2 (show e ∈ setKS a v n.ents from he) with rfl | he
  · exact ha
  · exact h.nam e he, by
  show (setKS a v n.ents).length ≤ _
  rw [len_setKS hl]
  have := h.len
  omega, h.dat, h.ddir, h.knd, h.lnk⟩
theorem qei {i : Int} {n : Ino} (h : NodeOk k i n) (a : List UInt8) : NodeOk k i (setE (dropKS a n.ents) n) :=
 ⟨h.l0, h.l1, h.pos, fun e he => h.nam e (qbu (show e ∈ dropKS a n.ents from he)), Nat.le_trans (show (dropKS a n.ents).length ≤ _ from qf6) h.len, h.dat, h.ddir, h.knd, h.lnk⟩
theorem Ok.link (h : Ok T k) {d i : Int} {p q : Nod} (hp : T.get d = some p) (hpk : p.ino.kind = 2) (hq : T.get i = some q) (hqk : q.ino.kind = 1) {a : List UInt8} (hL : Lt a) (ha : lkS a p.ino.ents = none) : Ok ((T.upd d (setE (setKS a i p.ino.ents))).upd i (addL 1)) (k + 1) := by
 have hdi : d ≠ i := fun e => by
  subst e
  rw [hp] at hq; cases hq
  omega
 refine ⟨(h.sd.link hp hpk hq (by omega) ha).mono (by rw [← qde]; omega), ?_, ⟨h.lst.1, by have := h.lst.2; show T.last ≤ _; omega⟩, ?_, ?_, ?_, h.qi, h.qb⟩
 · refine qfb (k := k + 1) (qfb h.nd (by omega) fun x hx => ?_) (Nat.le_refl _) fun x hx => ?_
   · rw [hp] at hx; cases hx
     exact qfx (h.nd d p hp) hL i ha
   · rw [qa6 hdi.symm, hq] at hx; cases hx
     have := h.nd i q hq
     exact ⟨by have := this.l0; show 0 ≤ q.ino.links + 1; omega, by have := this.l1; show q.ino.links + 1 ≤ _; omega, fun h1 => by have := this.pos h1; show 1 ≤ q.ino.links + 1; omega, this.nam, Nat.le_trans this.len (by omega), this.dat, this.ddir, this.knd, fun e => by
      have : q.ino.kind = 3 := e
      omega⟩
 · show T.ui = ((updN i _ (updN d _ T.nodes)).length : Int)
   rw [qan, qan]; exact h.num
 · show T.ub = ((sumD (updN i (addL 1) (updN d (setE (setKS a i p.ino.ents)) T.nodes)) : Nat) : Int)
   rw [qax (f := addL 1) (fun _ => rfl), qax (f := setE (setKS a i p.ino.ents)) (fun _ => rfl)]; exact h.byt
 · show (updN i _ (updN d _ T.nodes)).length ≤ _
   rw [qan, qan]
   have := h.cnt
   omega
theorem Ok.write (h : Ok T k) {i : Int} {p : Nod} (hp : T.get i = some p) (hpk : p.ino.kind = 1) {data : List UInt8} (hd : data.length ≤ 19) (hr : T.ub + ((data.length : Int) - (p.ino.data.length : Int)) ≤ T.qb) : Ok ({ T with ub := T.ub + ((data.length : Int) - (p.ino.data.length : Int)) }.upd i fun n => { n with data := data }) (k + 1) := by
 have s1 : Sd { T with ub := T.ub + ((data.length : Int) - (p.ino.data.length : Int)) } (2 ^ k - 1) := h.sd.nums rfl (Int.le_refl _)
 have hp' : ({ T with ub := T.ub + ((data.length : Int) - (p.ino.data.length : Int)) } : Tab).get i = some p := hp
 refine ⟨(s1.turn hp' (f := fun n => { n with data := data }) (fun _ => rfl) (fun _ => rfl) (fun _ => rfl) (fun _ => rfl) (fun _ => rfl)).mono (by rw [← qde]; omega), ?_, ⟨h.lst.1, by have := h.lst.2; show T.last ≤ _; omega⟩, ?_, ?_, ?_, h.qi, hr⟩
 · refine qfb (T := { T with ub := T.ub + ((data.length : Int) - (p.ino.data.length : Int)) }) (k := k) h.nd (by omega) fun x hx => ?_
   rw [hp'] at hx; cases hx
   have := h.nd i p hp
   exact ⟨this.l0, by have := this.l1; show p.ino.links ≤ _; omega, this.pos, this.nam, Nat.le_trans this.len (by omega), hd, fun e => by
    have : p.ino.kind = 2 := e
    omega, this.knd, this.lnk⟩
 · show T.ui = ((updN i (fun n => { n with data := data }) T.nodes).length : Int)
   rw [qan]; exact h.num
 · show T.ub + ((data.length : Int) - (p.ino.data.length : Int)) = ((sumD (updN i (fun n => { n with data := data }) T.nodes) : Nat) : Int)
   have := sumD_upd (fun n => { n with data := data }) h.sd.key hp
   have h2 : sumD (updN i (fun n => { n with data := data }) T.nodes) + p.ino.data.length = sumD T.nodes + data.length := this
   have := h.byt
   omega
 · show (updN i (fun n => { n with data := data }) T.nodes).length ≤ 1 + (k + 1)
   rw [qan]
   have := h.cnt
   omega
theorem Ok.less (h : Ok T k) {d i : Int} {p q : Nod} (hp : T.get d = some p) (hq : T.get i = some q) (hqe : q.ino.ents = []) {a : List UInt8} (ha : lkS a p.ino.ents = some i) (h1 : q.ino.links ≠ 1) : Ok ((T.upd d (setE (dropKS a p.ino.ents))).upd i (addL (-1))) (k + 1) := by
 have hdi : d ≠ i := fun e => by
  subst e
  rw [hp] at hq; cases hq
  rw [hqe] at ha; cases ha
 have hi1 : i ≠ 1 := (h.sd.ent d p hp _ (qef ha)).1
 have hqk : q.ino.kind ≠ 2 := fun e => h1 (h.sd.one i q hq e hi1)
 have hq1 := h.nd i q hq
 have hpos := hq1.pos hi1
 have hk1 : q.ino.kind = 1 := by
  rcases hq1.knd with e | e | e
  · exact e
  · exact absurd e hqk
  · exact absurd (hq1.lnk e) h1
 refine ⟨(h.sd.less hp hq hqk ha).mono (by rw [← qde]; omega), ?_, ⟨h.lst.1, by have := h.lst.2; show T.last ≤ _; omega⟩, ?_, ?_, ?_, h.qi, h.qb⟩
 · refine qfb (k := k + 1) (qfb h.nd (by omega) fun x hx => ?_) (Nat.le_refl _) fun x hx => ?_
   · rw [hp] at hx; cases hx
     exact (qei (h.nd d p hp) a).mono (by omega)
   · rw [qa6 hdi.symm, hq] at hx; cases hx
     exact ⟨by show 0 ≤ q.ino.links + -1; omega, by have := hq1.l1; show q.ino.links + -1 ≤ _; omega, fun _ => by show 1 ≤ q.ino.links + -1; omega, hq1.nam, Nat.le_trans hq1.len (by omega), hq1.dat, hq1.ddir, hq1.knd, fun e => by
      have : q.ino.kind = 3 := e
      omega⟩
 · show T.ui = ((updN i _ (updN d _ T.nodes)).length : Int)
   rw [qan, qan]; exact h.num
 · show T.ub = ((sumD (updN i (addL (-1)) (updN d (setE (dropKS a p.ino.ents)) T.nodes)) : Nat) : Int)
   rw [qax (f := addL (-1)) (fun _ => rfl), qax (f := setE (dropKS a p.ino.ents)) (fun _ => rfl)]; exact h.byt
 · show (updN i _ (updN d _ T.nodes)).length ≤ _
   rw [qan, qan]
   have := h.cnt
   omega
theorem Ok.last (h : Ok T k) {d i : Int} {p q : Nod} (hp : T.get d = some p) (hq : T.get i = some q) (hqe : q.ino.ents = []) {a : List UInt8} (ha : lkS a p.ino.ents = some i) (h1 : q.ino.links = 1) : Ok { ((T.upd d (setE (dropKS a p.ino.ents))).upd i (addL (-1))).del i with ui := T.ui - 1, ub := T.ub - (q.ino.data.length : Int) } (k + 1) := by
 have hdi : d ≠ i := fun e => by
  subst e
  rw [hp] at hq; cases hq
  rw [hqe] at ha; cases ha
 have hs := h.sd.last hp hq hqe h1 ha
 have key2 : (((T.upd d (setE (dropKS a p.ino.ents))).upd i (addL (-1))).nodes.map (·.no)).Nodup := by
  show ((updN i (addL (-1)) (updN d (setE (dropKS a p.ino.ents)) T.nodes)).map (·.no)).Nodup
  rw [qay, qay]; exact h.sd.key
 have hq2 : getN i (updN i (addL (-1)) (updN d (setE (dropKS a p.ino.ents)) T.nodes)) = some { q with ino := addL (-1) q.ino } := qah (T := T.upd d (setE (dropKS a p.ino.ents))) (by rw [qa6 hdi.symm]; exact hq)
 obtain ⟨n1, n2⟩ := sumD_del hq2
 rw [qax (f := addL (-1)) (fun _ => rfl), qax (f := setE (dropKS a p.ino.ents)) (fun _ => rfl)] at n1
 rw [qan, qan] at n2
 have n1' : sumD T.nodes = sumD (delN i (updN i (addL (-1)) (updN d (setE (dropKS a p.ino.ents)) T.nodes))) + q.ino.data.length := n1
 have hs2 : Sd { ((T.upd d (setE (dropKS a p.ino.ents))).upd i (addL (-1))).del i with ui := T.ui - 1, ub := T.ub - (q.ino.data.length : Int) } (2 ^ k - 1) := hs.nums rfl (Int.le_refl _)
 refine ⟨hs2.mono (by rw [← qde]; omega), fun j x hx => ?_, ⟨h.lst.1, by have := h.lst.2; show T.last ≤ _; omega⟩, ?_, ?_, ?_, ?_, ?_⟩
 · have hx' : (((T.upd d (setE (dropKS a p.ino.ents))).upd i (addL (-1))).del i).get j = some x := hx
   have hj : j ≠ i := fun e => by
    subst e
    rw [show (((T.upd d (setE (dropKS a p.ino.ents))).upd j (addL (-1))).del j).get j = none from qc8 key2] at hx'
    cases hx'
   rw [show (((T.upd d (setE (dropKS a p.ino.ents))).upd i (addL (-1))).del i).get j = ((T.upd d (setE (dropKS a p.ino.ents))).upd i (addL (-1))).get j from qby hj _, qa6 hj] at hx'
   exact qfb (k' := k + 1) h.nd (by omega) (fun y hy => by
    rw [hp] at hy; cases hy
    exact (qei (h.nd d p hp) a).mono (by omega)) j x hx'
 · show T.ui - 1 = ((delN i (updN i (addL (-1)) (updN d (setE (dropKS a p.ino.ents)) T.nodes))).length : Int)
   have := h.num
   omega
 · show T.ub - _ = ((sumD (delN i (updN i (addL (-1)) (updN d (setE (dropKS a p.ino.ents)) T.nodes))) : Nat) : Int)
   have := h.byt
   omega
 · show (delN i (updN i (addL (-1)) (updN d (setE (dropKS a p.ino.ents)) T.nodes))).length ≤ _
   have := h.cnt
   omega
 · have := h.qi
   show T.ui - 1 ≤ T.qi
   omega
 · have := h.qb
   show T.ub - _ ≤ T.qb
   omega
theorem Ok.made (h : Ok T k) {p pd : Nod} {d : Int} (hno : p.no = T.last + 1) (hp : T.get d = some pd) (hpk : pd.ino.kind = 2) {a : List UInt8} (hL : Lt a) (ha : lkS a pd.ino.ents = none)
 (h1 : p.ino.links = 1) (h2 : p.ino.ents = []) (h3 : p.ino.kind = 2 → p.ino.map.isSome ∧ p.ino.up = d) (h4 : p.ino.kind ≠ 2 → p.ino.up = 0) (h5 : p.ino.data.length ≤ 19) (h6 : p.ino.kind = 2 → p.ino.data = []) (h7 : p.ino.kind = 1 ∨ p.ino.kind = 2 ∨ p.ino.kind = 3)
 (hqi : T.ui + 1 ≤ T.qi) (hqb : T.ub + p.ino.data.length ≤ T.qb) : Ok (tabMade { T with last := T.last + 1 } p d (setKS a p.no pd.ino.ents) p.ino.data.length) (k + 1) := by
 have hs1 : Sd { T with last := T.last + 1 } (2 ^ k - 1) := h.sd.nums rfl (by show T.last ≤ T.last + 1; omega)
 have hnew : ∀ i q, ({ T with last := T.last + 1 } : Tab).get i = some q → i < p.no := fun i q hq => by
  have := (h.sd.lo i q hq).2
  omega
 have hp' : ({ T with last := T.last + 1 } : Tab).get d = some pd := hp
 have hs := hs1.made (by show T.last + 1 = p.no; omega) hnew hp' hpk ha h1 h2 h3 h4 p.ino.data.length
 refine ⟨hs.mono (by rw [← qde]; omega), fun j x hx => ?_, ⟨by have := h.lst.1; show 1 ≤ T.last + 1; omega, by have := h.lst.2; show T.last + 1 ≤ _; omega⟩, ?_, ?_, ?_, hqi, hqb⟩
 · rw [get_made hnew hp' _ _ j] at hx
   by_cases hj : j = d
   · rw [if_pos hj] at hx; cases hx
     subst hj
     exact qfx (h.nd j pd hp) hL _ ha
   · rw [if_neg hj] at hx
     by_cases hj2 : j = p.no
     · rw [if_pos hj2] at hx; cases hx
       exact ⟨by omega, by omega, fun _ => by omega, fun e he => (by rw [h2] at he; cases he), by rw [h2]; exact Nat.zero_le _, h5, h6, h7, fun _ => h1⟩
     · rw [if_neg hj2] at hx
       exact (h.nd j x hx).mono (by omega)
 · show T.ui + 1 = ((updN d (setE (setKS a p.no pd.ino.ents)) (T.nodes ++ [p])).length : Int)
   rw [qan, List.length_append]
   have := h.num
   simp only [List.length_cons, List.length_nil]
   omega
 · show T.ub + _ = ((sumD (updN d (setE (setKS a p.no pd.ino.ents)) (T.nodes ++ [p])) : Nat) : Int)
   rw [qax (f := setE (setKS a p.no pd.ino.ents)) (fun _ => rfl), sumD_add]
   have := h.byt
   omega
 · show (updN d (setE (setKS a p.no pd.ino.ents)) (T.nodes ++ [p])).length ≤ _
   rw [qan, List.length_append]
   have := h.cnt
   simp only [List.length_cons, List.length_nil]
   omega
theorem Ok.moves (h : Ok T k) {T' : Tab} {f t : Int} {a c : List UInt8} (hm : Moves T f a t c T') (hL : Lt c) : Ok T' (k + 1) := by
 have hs := hm.sd h.sd
 rw [qde] at hs
 cases hm with
 | same _ _ => exact h.mono
 | @go i p pt q h1 h2 h3 h4 h5 h6 h7 h8 =>
  have hnd2 : ∀ j x, ((T.upd f (setE (dropKS a p.ino.ents))).upd t (setE (setKS c i pt.ino.ents))).get j = some x → NodeOk (k + 1) j x.ino := by
   have hnd1 := qfb (k' := k) (f := setE (dropKS a p.ino.ents)) h.nd (Nat.le_refl _) (fun y hy => by
    rw [h2] at hy; cases hy
    exact qei (h.nd f p h2) a)
   refine qfb hnd1 (by omega) fun y hy => ?_
   rw [h4] at hy; cases hy
   exact qfx (hnd1 t pt h4) hL i h6
  have hlen : ∀ {X : Tab}, X.nodes = (updN t (setE (setKS c i pt.ino.ents)) (updN f (setE (dropKS a p.ino.ents)) T.nodes)) ∨ X.nodes = updN i (setU t) (updN t (setE (setKS c i pt.ino.ents)) (updN f (setE (dropKS a p.ino.ents)) T.nodes)) → X.nodes.length = T.nodes.length ∧ sumD X.nodes = sumD T.nodes := fun {X} hX => by
   rcases hX with e | e
   · rw [e, qan, qan, qax (f := setE (setKS c i pt.ino.ents)) (fun _ => rfl), qax (f := setE (dropKS a p.ino.ents)) (fun _ => rfl)]
     exact ⟨rfl, rfl⟩
   · rw [e, qan, qan, qan, qax (f := setU t) (fun _ => rfl), qax (f := setE (setKS c i pt.ino.ents)) (fun _ => rfl), qax (f := setE (dropKS a p.ino.ents)) (fun _ => rfl)]
     exact ⟨rfl, rfl⟩
  unfold moved at hs ⊢
  split
  · rename_i hk
    rw [if_pos hk] at hs
    obtain ⟨e1, e2⟩ := hlen (X := ((T.upd f (setE (dropKS a p.ino.ents))).upd t (setE (setKS c i pt.ino.ents))).upd i (setU t)) (.inr rfl)
    refine ⟨hs, ?_, ⟨h.lst.1, by have := h.lst.2; show T.last ≤ _; omega⟩, ?_, ?_, ?_, h.qi, h.qb⟩
    · refine qfb hnd2 (Nat.le_refl _) fun x hx => ?_
      have := hnd2 i x hx
      exact ⟨this.l0, this.l1, this.pos, this.nam, this.len, this.dat, this.ddir, this.knd, this.lnk⟩
    · rw [e1]; exact h.num
    · rw [e2]; exact h.byt
    · rw [e1]
      have := h.cnt
      omega
  · rename_i hk
    rw [if_neg hk] at hs
    obtain ⟨e1, e2⟩ := hlen (X := (T.upd f (setE (dropKS a p.ino.ents))).upd t (setE (setKS c i pt.ino.ents))) (.inl rfl)
    refine ⟨hs, hnd2, ⟨h.lst.1, by have := h.lst.2; show T.last ≤ _; omega⟩, ?_, ?_, ?_, h.qi, h.qb⟩
    · rw [e1]; exact h.num
    · rw [e2]; exact h.byt
    · rw [e1]
      have := h.cnt
      omega
end
end Go.Proofs.Ytbihlgcdnhoknaa.W
namespace Go.Proofs.Ytbihlgcdnhoknaa.W
open Go.Proofs.Ytbihlgcdnhoknaa.Ev Go.RowKit
set_option maxRecDepth 100000
noncomputable def sm1 (self : EV) (x0 x1 x2 x3 x4 x5 x6 : V) (S : St) : Rs :=
(binV E0 .eql 5 false true x6 (.int .u8 0)).bind fun t40 =>
ifK t40 (
ifK t40 (
callP (self.f 8 [x0, x1, x2, (.int .i64 2), (.int .i64 493), (sv [])] S) fun t45 S45 =>
(extractV t45 0).bind fun t47 =>
(extractV t45 1).bind fun t48 =>
some (.ret t48, S45)) (
(binV E0 .eql 5 false true x6 (.int .u8 2)).bind fun t53 =>
ifK t53 (
callP (self.f 8 [x0, x1, x2, (.int .i64 1), (.int .i64 420), x5] S) fun t59 S59 =>
(extractV t59 0).bind fun t61 =>
(extractV t59 1).bind fun t62 =>
some (.ret t62, S59)) (
(binV E0 .eql 5 false true x6 (.int .u8 3)).bind fun t67 =>
ifK t67 (
callP (self.f 8 [x0, x1, x2, (.int .i64 3), (.int .i64 511), (sv [116, 111])] S) fun t72 S72 =>
(extractV t72 0).bind fun t74 =>
(extractV t72 1).bind fun t75 =>
some (.ret t75, S72)) (
(binV E0 .eql 5 false true x6 (.int .u8 4)).bind fun t80 =>
ifK t80 (
callP (self.f 9 [x0, x1, x2, x3] S) fun t86 S86 =>
some (.ret t86, S86)) (
(binV E0 .eql 5 false true x6 (.int .u8 5)).bind fun t88 =>
ifK t88 (
callP (self.f 14 [x0, x1, x2] S) fun t93 S93 =>
some (.ret t93, S93)) (
(binV E0 .eql 5 false true x6 (.int .u8 6)).bind fun t95 =>
ifK t95 (
callP (self.f 19 [x0, x1, x2, x3, x4] S) fun t102 S102 =>
some (.ret t102, S102)) (
callP (self.f 10 [x0, x3, x5] S) fun t107 S107 =>
some (.ret t107, S107)))))))) (
(binV E0 .eql 5 false true x6 (.int .u8 1)).bind fun t109 =>
ifK t109 (
callP (self.f 8 [x0, x1, x2, (.int .i64 2), (.int .i64 493), (sv [])] S) fun t114 S114 =>
(extractV t114 0).bind fun t116 =>
(extractV t114 1).bind fun t117 =>
some (.ret t117, S114)) (
(binV E0 .eql 5 false true x6 (.int .u8 2)).bind fun t122 =>
ifK t122 (
callP (self.f 8 [x0, x1, x2, (.int .i64 1), (.int .i64 420), x5] S) fun t128 S128 =>
(extractV t128 0).bind fun t130 =>
(extractV t128 1).bind fun t131 =>
some (.ret t131, S128)) (
(binV E0 .eql 5 false true x6 (.int .u8 3)).bind fun t136 =>
ifK t136 (
callP (self.f 8 [x0, x1, x2, (.int .i64 3), (.int .i64 511), (sv [116, 111])] S) fun t141 S141 =>
(extractV t141 0).bind fun t143 =>
(extractV t141 1).bind fun t144 =>
some (.ret t144, S141)) (
(binV E0 .eql 5 false true x6 (.int .u8 4)).bind fun t149 =>
ifK t149 (
callP (self.f 9 [x0, x1, x2, x3] S) fun t155 S155 =>
some (.ret t155, S155)) (
(binV E0 .eql 5 false true x6 (.int .u8 5)).bind fun t157 =>
ifK t157 (
callP (self.f 14 [x0, x1, x2] S) fun t162 S162 =>
some (.ret t162, S162)) (
(binV E0 .eql 5 false true x6 (.int .u8 6)).bind fun t164 =>
ifK t164 (
callP (self.f 19 [x0, x1, x2, x3, x4] S) fun t171 S171 =>
some (.ret t171, S171)) (
callP (self.f 10 [x0, x3, x5] S) fun t176 S176 =>
some (.ret t176, S176))))))))
theorem F16_cut (self : EV) (N : Nat) (x0 x1 : V) (S : St) : F16 self N x0 x1 S =
(boxK 44 x1 S).bind fun p0 =>
(ixA 5 1 false 1 p0.1 (.int .i64 3)).bind fun t2 =>
(ld1 t2 (onS p0.2)).bind fun p3 =>
(binV E0 .rem 5 false true p3.1 (.int .u8 4)).bind fun t4 =>
(binV E0 .add 5 true false (.int .u8 97) t4).bind fun t5 =>
(bsP 5 1 1 (Go.Proofs.Ytbihlgcdnhoknaa.Ev.one (.int .u8 0)) [(0, t5)] (onS p3.2)).bind fun p6 =>
(convertV E0 22 9 p6.1 (onS p6.2)).bind fun p7 =>
(ixA 5 1 false 1 p0.1 (.int .i64 4)).bind fun t8 =>
(ld1 t8 (onS p7.2)).bind fun p9 =>
(binV E0 .rem 5 false true p9.1 (.int .u8 4)).bind fun t10 =>
(binV E0 .add 5 true false (.int .u8 97) t10).bind fun t11 =>
(bsP 5 1 1 (Go.Proofs.Ytbihlgcdnhoknaa.Ev.one (.int .u8 0)) [(0, t11)] (onS p9.2)).bind fun p12 =>
(convertV E0 22 9 p12.1 (onS p12.2)).bind fun p13 =>
endP [(1, [7, 10, 11]), (4, [7, 10, 11]), (5, [7, 10, 11])] p0.2 [[], p3.2.log, [], [], p6.2.log, p7.2.log, [], p9.2.log, [], [], p12.2.log, p13.2.log, [], []] (onS p13.2) fun S16 =>
(ixA 5 1 false 1 p0.1 (.int .i64 1)).bind fun t17 =>
(ld1 t17 (onS S16)).bind fun p18 =>
(binV E0 .rem 5 false true p18.1 (.int .u8 12)).bind fun t19 =>
(cvI .i64 t19 (onS p18.2)).bind fun p20 =>
(binV E0 .add 3 true false (.int .i64 1) p20.1).bind fun t21 =>
(ixA 5 1 false 1 p0.1 (.int .i64 2)).bind fun t22 =>
(ld1 t22 (onS p20.2)).bind fun p23 =>
(binV E0 .rem 5 false true p23.1 (.int .u8 12)).bind fun t24 =>
(cvI .i64 t24 (onS p23.2)).bind fun p25 =>
(binV E0 .add 3 true false (.int .i64 1) p25.1).bind fun t26 =>
endP [(1, [6, 8]), (3, [6, 8])] S16 [[], p18.2.log, [], p20.2.log, [], [], p23.2.log, [], p25.2.log, [], [], []] (onS p25.2) fun S29 =>
(ixA 5 1 false 1 p0.1 (.int .i64 4)).bind fun t30 =>
(ld1 t30 S29).bind fun p31 =>
(binV E0 .rem 5 false true p31.1 (.int .u8 20)).bind fun t32 =>
(cvI .i64 t32 p31.2).bind fun p33 =>
(makeSliceK E0 22 p33.1 p33.1 p33.2).bind fun p34 =>
(convertV E0 22 9 p34.1 p34.2).bind fun p35 =>
(ixA 5 1 false 1 p0.1 (.int .i64 0)).bind fun t37 =>
(ld1 t37 p35.2).bind fun p38 =>
(binV E0 .rem 5 false true p38.1 (.int .u8 8)).bind fun t39 =>
sm1 self x0 t21 p7.1 t26 p13.1 p35.1 t39 p38.2 := F16_eq self N x0 x1 S
theorem rd16 {n : Nat} {args : List V} {s : St} {r : En × St} (e : runF E0 (ev E0 KD n) rounds Try.f16 B16 args s = some r) : (ev E0 KD (n + 1)).f 16 args s = some r := qaa (c := C16) (d := B16) (by kernel_rfl) (by kernel_rfl) (qa2 C16 _ (by kernel_rfl)) rfl e
theorem qh8 {a b : List LE} (h : ∀ e ∈ a, ∀ f ∈ b, e.b ≠ f.b ∨ (e.w = false ∧ f.w = false)) : clash a b = false := by
 have c1 : ∀ (e : LE) (l : List LE), (∀ f ∈ l, e.b ≠ f.b ∨ (e.w = false ∧ f.w = false)) → clash1 e l = false := fun e l => by
  induction l with
  | nil => intro _; rfl
  | cons f l ih =>
   intro hl
   unfold clash1
   have hm : meet e f = false := by
    rcases hl f (List.mem_cons_self ..) with h1 | ⟨h1, h2⟩
    · exact meet_ne h1
    · unfold meet
      rw [h1, h2]
      cases Nat.beq e.b f.b <;> cases Nat.blt e.lo f.hi <;> cases Nat.blt f.lo e.hi <;> rfl
   rw [hm]
   exact ih fun g hg => hl g (List.mem_cons_of_mem _ hg)
 induction a with
 | nil => rfl
 | cons e a ih =>
  unfold clash
  rw [c1 e b (h e (List.mem_cons_self ..))]
  exact ih fun g hg => h g (List.mem_cons_of_mem _ hg)
section
variable {S U : St}
theorem qha (ho : S.on = false) {x ty : Nat} {c : UInt8} (h : RowAt S x ty 1 ([c].map byteC)) (l : List LE) : convertV E0 22 9 (.slice x 0 1 1) (S.lg l) = some (sv [c], S.lg (⟨x, 0, 1, false⟩ :: l)) := by
 obtain ⟨cc, h4, h5⟩ := h.row
 have hc : cc.get 0 = some (byteC c) := h5 0 _ rfl
 unfold convertV
 rw [und22, und9]
 simp only [oB, isUnsafe, Bool.or_self, cond_false, und5, lenV]
 cases hz : zerosAt (S.lg l) x 0 1 with
 | some q =>
  simp only [orElse]
  obtain ⟨v, s'⟩ := q
  obtain ⟨e', m, ro, t, hb, h1, h2, h3, rfl, rfl⟩ := qer hz
  have hb' : S.heap.get x = some (.cells e' 1 m ro (.all t)) := hb
  rw [h4] at hb'
  simp only [oS, O.cells.injEq] at hb'
  obtain ⟨_, _, _, _, rfl⟩ := hb'
  have h7 : some t = some (byteC c) := hc
  simp only [oS] at h7
  rw [h7] at h3
  have h8 : (some (V.int .u8 (.ofNat c.toNat))) = some (V.int .u8 (.ofNat 0)) := h3
  simp only [oS, V.int.injEq, true_and] at h8
  have h9 : c.toNat = 0 := by simpa using h8
  have h10 : c = 0 := UInt8.toNat.inj h9
  subst h10; rfl
 | none =>
  simp only [orElse, firstV]
  have hl : ldN x 1 1 0 (S.lg l) = some ([byteC c], S.lg (⟨x, 0, 1, false⟩ :: l)) := by
   unfold ldN ldK
   rw [show (S.lg l).heap.get x = _ from h4]
   simp only [List.length_map, List.length_cons, List.length_nil, show Nat.ble (0 + 1) (1 * (0 + 1)) = true from rfl, show Nat.blt (1 * (0 + 1)) big = true from blt_true.2 (by unfold big; omega), Bool.and_self, cond_true]
   unfold elemIn
   simp only [show Nat.beq 1 1 = true from rfl, show Nat.beq (0 % 1) 0 = true from rfl, Bool.and_self, cond_true, Nat.zero_div, hc, oB]
   unfold ldN
   rfl
  rw [hl]
  simp only [oB]
  rw [show [byteC c] = [c].map byteC from rfl, qen]
  rfl
theorem rem4 (n : Nat) : binV E0 .rem 5 false true (.int .u8 (n : Int)) (.int .u8 4) = some (.int .u8 ((n % 4 : Nat) : Int)) := by rw [binV_ii, qf2 _ _ _ (by decide)]; rfl
theorem rem8 (n : Nat) : binV E0 .rem 5 false true (.int .u8 (n : Int)) (.int .u8 8) = some (.int .u8 ((n % 8 : Nat) : Int)) := by rw [binV_ii, qf2 _ _ _ (by decide)]; rfl
theorem rem12 (n : Nat) : binV E0 .rem 5 false true (.int .u8 (n : Int)) (.int .u8 12) = some (.int .u8 ((n % 12 : Nat) : Int)) := by rw [binV_ii, qf2 _ _ _ (by decide)]; rfl
theorem rem20 (n : Nat) : binV E0 .rem 5 false true (.int .u8 (n : Int)) (.int .u8 20) = some (.int .u8 ((n % 20 : Nat) : Int)) := by rw [binV_ii, qf2 _ _ _ (by decide)]; rfl
def ltr (c : UInt8) : UInt8 := UInt8.ofNat (97 + c.toNat % 4)
theorem ltr_nat (c : UInt8) : (ltr c).toNat = 97 + c.toNat % 4 := by
 unfold ltr
 rw [UInt8.toNat_ofNat']
 have : c.toNat % 4 < 4 := Nat.mod_lt _ (by omega)
 omega
theorem ltr_lt (c : UInt8) : Lt [ltr c] := ⟨ltr c, rfl, by rw [ltr_nat]; omega, by rw [ltr_nat]; have : c.toNat % 4 < 4 := Nat.mod_lt _ (by omega); omega⟩
theorem add97 (c : UInt8) : binV E0 .add 5 true false (.int .u8 97) (.int .u8 ((c.toNat % 4 : Nat) : Int)) = some (.int .u8 ((ltr c).toNat : Int)) := by
 have : c.toNat % 4 < 4 := Nat.mod_lt _ (by omega)
 rw [binV_ii, intsV_add, wrap_u8s (by omega) (by omega), ltr_nat]; rfl
theorem add1 (n : Nat) (hn : n < 256) : binV E0 .add 3 true false (.int .i64 1) (.int .i64 (n : Int)) = some (.int .i64 ((1 + n : Nat) : Int)) := by
 rw [addI 3 true false _ _ (by unfold big62; omega) (by unfold big62; omega)]; congr 2
theorem ixA5 (x i : Nat) (hi : i < 5) : ixA 5 1 false 1 (.ptr x 0) (.int .i64 (i : Int)) = some (.ptr x i) := by
 show (bif Nat.blt i 5 then some (V.ptr x (0 + i * 1)) else none) = _
 rw [blt_true.2 hi, Nat.zero_add, Nat.mul_one]; rfl
theorem big5 : 5 < big := by unfold big; decide
theorem zero5 : zeroT E0 5 = some (.int .u8 0) := by kernel_rfl
theorem el22 : ∃ k, k < 100 ∧ sliceElem E0 22 = some (5, 1, k) := ⟨1, by decide, by kernel_rfl⟩
def num12 (c : UInt8) : Int := ((1 + c.toNat % 12 : Nat) : Int)
def zer (c : UInt8) : List UInt8 := List.replicate (c.toNat % 20) 0
noncomputable def u8L (l : List UInt8) : V := vAgg (l.map u8V)
theorem small_head (ho : S.on = false) (self : EV) (N b : Nat) (c0 c1 c2 c3 c4 : UInt8) : ∃ U, F16 self N (.ptr b 0) (u8L [c0, c1, c2, c3, c4]) S = sm1 self (.ptr b 0) (.int .i64 (num12 c1)) (sv [ltr c3]) (.int .i64 (num12 c2)) (sv [ltr c4]) (sv (zer c4)) (.int .u8 ((c0.toNat % 8 : Nat) : Int)) U ∧ Grew (fun _ => False) S U := by
 obtain ⟨A, a1, a2, a3, a4⟩ := qh4 ho 44 [u8V c0, u8V c1, u8V c2, u8V c3, u8V c4]
 have onA := a3.on.trans ho
 have lA : ∀ (i : Nat) (c : UInt8), [u8V c0, u8V c1, u8V c2, u8V c3, u8V c4][i]? = some (u8V c) → ld1 (.ptr S.next i) (onS A) = some (u8V c, A.lg [⟨S.next, i, i + 1, false⟩]) := fun i c h => Bx6.ldL onA a2 big5 h
 obtain ⟨B, b1, b2, b3, b4⟩ := bsP_ones onA 5 (Go.Proofs.Ytbihlgcdnhoknaa.Ev.one (.int .u8 0)) [.int .u8 ((ltr c3).toNat : Int)] (fun v hv => by rw [List.mem_singleton] at hv; subst hv; exact qam .u8 _) (by show 1 < big; exact big1)
 have onB := b3.on.trans onA
 have hbB := a2.grew (by omega) (fun h => h) b3
 have lB : ∀ (i : Nat) (c : UInt8), [u8V c0, u8V c1, u8V c2, u8V c3, u8V c4][i]? = some (u8V c) → ld1 (.ptr S.next i) (onS B) = some (u8V c, B.lg [⟨S.next, i, i + 1, false⟩]) := fun i c h => Bx6.ldL onB hbB big5 h
 have rB : RowAt B A.next 5 1 ([ltr c3].map byteC) := b2
 obtain ⟨C, d1, d2, d3, d4⟩ := bsP_ones onB 5 (Go.Proofs.Ytbihlgcdnhoknaa.Ev.one (.int .u8 0)) [.int .u8 ((ltr c4).toNat : Int)] (fun v hv => by rw [List.mem_singleton] at hv; subst hv; exact qam .u8 _) (by show 1 < big; exact big1)
 have onC := d3.on.trans onB
 have rC : RowAt C B.next 5 1 ([ltr c4].map byteC) := d2
 have gAC := b3.trans d3
 have gat := qbl gAC onA
 have onD : (atS C A).on = false := rfl
 have hbD := a2.grew (by omega) (fun h => h) gat
 have hnD : (atS C A).next = C.next := rfl
 generalize hD : atS C A = D at gat onD hbD hnD
 have lD : ∀ (i : Nat) (c : UInt8), [u8V c0, u8V c1, u8V c2, u8V c3, u8V c4][i]? = some (u8V c) → ld1 (.ptr S.next i) (onS D) = some (u8V c, D.lg [⟨S.next, i, i + 1, false⟩]) := fun i c h => Bx6.ldL onD hbD big5 h
 have l0 : ∀ (i : Nat) (c : UInt8), [u8V c0, u8V c1, u8V c2, u8V c3, u8V c4][i]? = some (u8V c) → ld1 (.ptr S.next i) D = some (u8V c, D) := fun i c h => Bx6.ld onD hbD big5 h
 obtain ⟨kb, hkb, hel⟩ := el22
 obtain ⟨E, e1, e2, e3, e4⟩ := makeBytes (E := E0) onD hel zero5 (n := c4.toNat % 20) (by
  have : c4.toNat % 20 < 20 := Nat.mod_lt _ (by omega)
  calc c4.toNat % 20 * (kb + 1 + 1) ≤ 20 * 102 := Nat.mul_le_mul (by omega) (by omega)
   _ < maxCells := by unfold maxCells; decide)
 have onE := e3.on.trans onD
 have hbE := hbD.grew (by omega) (fun h => h) e3
 have lE : ∀ (i : Nat) (c : UInt8), [u8V c0, u8V c1, u8V c2, u8V c3, u8V c4][i]? = some (u8V c) → ld1 (.ptr S.next i) E = some (u8V c, E) := fun i c h => Bx6.ld onE hbE big5 h
 have m12 : ∀ c : UInt8, c.toNat % 12 < 256 := fun c => by have : c.toNat % 12 < 12 := Nat.mod_lt _ (by omega); omega
 have m20 : c4.toNat % 20 < 256 := by have : c4.toNat % 20 < 20 := Nat.mod_lt _ (by omega); omega
 refine ⟨E, ?_, (a3.trans gat).trans e3⟩
 rw [F16_cut, show boxK 44 (u8L [c0, c1, c2, c3, c4]) S = _ from a1, oB]
 dsimp only
 rw [show ixA 5 1 false 1 (.ptr S.next 0) (.int .i64 3) = _ from ixA5 S.next 3 (by decide), oB, lA 3 c3 rfl, oB]
 dsimp only
 rw [show binV E0 .rem 5 false true (u8V c3) (.int .u8 4) = _ from rem4 c3.toNat, oB, add97, oB, qa1]
 rw [show bsP 5 1 1 (Go.Proofs.Ytbihlgcdnhoknaa.Ev.one (.int .u8 0)) [(0, .int .u8 ((ltr c3).toNat : Int))] (onS A) = some (.slice A.next 0 1 1, B.lg [⟨A.next, 0, big, true⟩]) from b1 (some []), oB]
 dsimp only
 rw [qa1, show convertV E0 22 9 (.slice A.next 0 1 1) (onS B) = _ from qha onB rB [], oB]
 dsimp only
 rw [show ixA 5 1 false 1 (.ptr S.next 0) (.int .i64 4) = _ from ixA5 S.next 4 (by decide), oB, qa1, lB 4 c4 rfl, oB]
 dsimp only
 rw [show binV E0 .rem 5 false true (u8V c4) (.int .u8 4) = _ from rem4 c4.toNat, oB, add97, oB, qa1]
 rw [show bsP 5 1 1 (Go.Proofs.Ytbihlgcdnhoknaa.Ev.one (.int .u8 0)) [(0, .int .u8 ((ltr c4).toNat : Int))] (onS B) = some (.slice B.next 0 1 1, C.lg [⟨B.next, 0, big, true⟩]) from d1 (some []), oB]
 dsimp only
 rw [qa1, show convertV E0 22 9 (.slice B.next 0 1 1) (onS C) = _ from qha onC rC [], oB]
 dsimp only
 rw [qa1, qhd (qfe fun p hp j hj => qh8 ?_)]
 rotate_left
 · have h1 : S.next < A.next := by omega
   have h2 : A.next < B.next := by omega
   simp only [List.mem_cons, List.not_mem_nil, or_false] at hp
   rcases hp with rfl | rfl | rfl
   all_goals
    simp only [List.mem_cons, List.not_mem_nil, or_false] at hj
    rcases hj with rfl | rfl | rfl
    all_goals
     intro e he f hf
     have he' := List.mem_singleton.1 he
     have hf' := List.mem_singleton.1 hf
     subst he' hf'
     first
      | exact .inr ⟨rfl, rfl⟩
      | exact .inl (by show S.next ≠ B.next; omega)
      | exact .inl (by show A.next ≠ S.next; omega)
      | exact .inl (by show A.next ≠ B.next; omega)
 rw [qbj onA, hD]
 rw [show ixA 5 1 false 1 (.ptr S.next 0) (.int .i64 1) = _ from ixA5 S.next 1 (by decide), oB, lD 1 c1 rfl, oB]
 dsimp only
 rw [show binV E0 .rem 5 false true (u8V c1) (.int .u8 12) = _ from rem12 c1.toNat, oB, qa1, cvI_int, qcq (by have := m12 c1; omega) (by have := m12 c1; omega), oB]
 dsimp only
 rw [add1 _ (m12 c1), oB]
 rw [show ixA 5 1 false 1 (.ptr S.next 0) (.int .i64 2) = _ from ixA5 S.next 2 (by decide), oB, qbv, lD 2 c2 rfl, oB]
 dsimp only
 rw [show binV E0 .rem 5 false true (u8V c2) (.int .u8 12) = _ from rem12 c2.toNat, oB, qa1, cvI_int, qcq (by have := m12 c2; omega) (by have := m12 c2; omega), oB]
 dsimp only
 rw [add1 _ (m12 c2), oB, qbv, qbb (by rfl), qcj onD]
 rw [oB, l0 4 c4 rfl, oB]
 dsimp only
 rw [show binV E0 .rem 5 false true (u8V c4) (.int .u8 20) = _ from rem20 c4.toNat, oB, cvI_int, qcq (by omega) (by omega), oB]
 dsimp only
 rw [e1, oB]
 dsimp only
 rw [convert_row onE und22 und5 und9 e2 (by simp), oB]
 dsimp only
 rw [show ((List.drop 0 (List.replicate (c4.toNat % 20) (0 : UInt8))).take (c4.toNat % 20)) = zer c4 from by unfold zer; rw [List.drop_zero, List.take_of_length_le (by simp)]]
 rw [show ixA 5 1 false 1 (.ptr S.next 0) (.int .i64 0) = _ from ixA5 S.next 0 (by decide), oB, lE 0 c0 rfl, oB]
 dsimp only
 rw [show binV E0 .rem 5 false true (u8V c0) (.int .u8 8) = _ from rem8 c0.toNat, oB]
 rfl
end
end Go.Proofs.Ytbihlgcdnhoknaa.W
namespace Go.Proofs.Ytbihlgcdnhoknaa.W
open Go.Proofs.Ytbihlgcdnhoknaa.Ev Go.RowKit
set_option maxRecDepth 100000
structure After (S U : St) (b r : Nat) (T T' : Tab) (k : Nat) (e : Int) : Prop where
 tab : TabAt U b r T'
 ok : Ok T' (k + 1)
 gr : Grew (Own b r T) S U
 q : T'.qi = T.qi ∧ T'.qb = T.qb
 err : e ≠ 0 → T' = T
 own : ∀ x, Own b r T' x → Own b r T x ∨ S.next ≤ x
section
variable {S U : St} {b r : Nat} {T : Tab} {k : Nat}
theorem After.none (h : TabAt U b r T) (ok : Ok T k) (g : Grew (Own b r T) S U) {e : Int} : After S U b r T T k e := ⟨h, ok.mono, g, ⟨rfl, rfl⟩, fun _ => rfl, fun _ h => .inl h⟩
theorem lt_len {a : List UInt8} (h : Lt a) : a.length < 9223372036854775808 := by
 obtain ⟨c, rfl, _⟩ := h
 simp
theorem eRoom_zero {T : Tab} {n k : Int} (h : eRoom T n k = 0) : T.ui + n ≤ T.qi ∧ T.ub + k ≤ T.qb := by
 unfold eRoom at h
 split at h
 · assumption
 · cases h
theorem eFile_zero {T : Tab} {i : Int} (h : eFile T i = 0) : ∃ q, T.get i = some q ∧ q.ino.kind = 1 := by
 unfold eFile at h
 cases hg : T.get i with
 | none => rw [hg] at h; cases h
 | some q =>
  rw [hg] at h
  dsimp only at h
  refine ⟨q, rfl, ?_⟩
  by_cases h2 : q.ino.kind = 2
  · rw [if_pos h2] at h; cases h
  · rw [if_neg h2] at h
    by_cases h1 : q.ino.kind = 1
    · exact h1
    · rw [if_neg h1] at h; cases h
theorem Ok.new (ok : Ok T k) : T.get (T.last + 1) = none := by
 cases hg : T.get (T.last + 1) with
 | none => rfl
 | some q =>
  have := (ok.sd.lo _ q hg).2
  omega
theorem own_made {p : Nod} {d : Int} {kv : List (List UInt8 × Int)} {n : Int} {l : Int} {x : Nat} (h : Own b r (tabMade { T with last := l } p d kv n) x) : Own b r T x ∨ x = p.box ∨ p.ino.map = some x := by
 rcases h with h | h | ⟨q, hq, hx⟩
 · exact .inl (.inl h)
 · exact .inl (.inr (.inl h))
 · obtain ⟨q0, hq0, rfl⟩ := updN_mem.1 (show q ∈ updN d (setE kv) (T.nodes ++ [p]) from hq)
   have hx' : x = q0.box ∨ q0.ino.map = some x := by
    by_cases e : q0.no = d
    · rw [if_pos e] at hx; exact hx
    · rw [if_neg e] at hx; exact hx
   rcases List.mem_append.1 hq0 with hq0 | hq0
   · exact .inl (.inr (.inr ⟨q0, hq0, hx'⟩))
   · rw [List.mem_singleton] at hq0
     subst hq0
     exact .inr hx'
theorem qgj (h : TabAt S b r T) (ok : Ok T k) (hk : k ≤ 99) (m : Nat) (d : Int) {a : List UInt8} (ha : Lt a) (kind mode : Int) (data : List UInt8) (hd : data.length ≤ 19) :
 ∃ U T' n e, (ev E0 KD (m + 6)).f 8 [.ptr b 0, .int .i64 d, sv a, .int .i64 kind, .int .i64 mode, sv data] S = some (.ret (.tuple [.int .i64 n, .int .i64 e]), U) ∧ After S U b r T T' k e := by
 have hF := ok.fits (by omega)
 have hl : -big62 < T.last ∧ T.last < big62 := by
  have := ok.lst
  unfold big62; omega
 by_cases he : eMake T d a kind mode data = 0
 · have z := qcb he
   have z1 := z (eDir T d) (by simp)
   have z2 := z (eLike kind mode data) (by simp)
   have z3 := z (eFree T d a) (by simp)
   have z4 := z (eRoom T 1 data.length) (by simp)
   obtain ⟨q, hq, hqk⟩ := qdj z1
   obtain ⟨mq, hm⟩ := qdi ok.sd hq hqk
   obtain ⟨r1, r2⟩ := eRoom_zero z4
   have hfree := qfp z3 hq
   have hlk : likes kind data = true := by
    cases hx : likes kind data with
    | true => rfl
    | false => unfold eLike at z2; rw [hx] at z2; cases z2
   have hkn : kind = 1 ∨ kind = 2 ∨ kind = 3 := by
    unfold likes at hlk
    by_cases h1 : kind = 1
    · exact .inl h1
    · rw [if_neg h1] at hlk
      by_cases h2 : kind = 2
      · exact .inr (.inl h2)
      · rw [if_neg h2] at hlk
        by_cases h3 : kind = 3
        · exact .inr (.inr h3)
        · rw [if_neg h3] at hlk; cases hlk
   by_cases hk2 : kind = 2
   · subst hk2
     have hdata : data = [] := by
      unfold likes at hlk
      rw [if_neg (by decide), if_pos rfl] at hlk
      simpa using hlk
     obtain ⟨U, nb, nm, u1, u2, u3, u4, u5⟩ := make_dir h hF m d a mode data (lt_len ha) (by omega) he hq hm ok.new hl
     refine ⟨U, _, _, _, u1, u2, ?_, u3, ⟨rfl, rfl⟩, fun e => absurd rfl e, fun x hx => ?_⟩
     · exact ok.made (p := ⟨T.last + 1, nb, newIno 2 mode data d (some nm)⟩) rfl hq hqk ha hfree rfl rfl (fun _ => ⟨rfl, rfl⟩) (fun e => absurd rfl e) hd (fun _ => hdata) (.inr (.inl rfl)) r1 r2
     · rcases own_made hx with hx | hx | hx
       · exact .inl hx
       · right; rw [hx]; exact u4
       · right
         have : some nm = some x := hx
         cases this
         exact u5
   · obtain ⟨U, nb, u1, u2, u3, u4⟩ := make_file h hF m d a kind mode data (lt_len ha) (by omega) he hq hm ok.new hl hk2
     refine ⟨U, _, _, _, u1, u2, ?_, u3, ⟨rfl, rfl⟩, fun e => absurd rfl e, fun x hx => ?_⟩
     · exact ok.made (p := ⟨T.last + 1, nb, newIno kind mode data 0 none⟩) rfl hq hqk ha hfree rfl rfl (fun e => absurd e hk2) (fun _ => rfl) hd (fun e => absurd e hk2) hkn r1 r2
     · rcases own_made hx with hx | hx | hx
       · exact .inl hx
       · right; rw [hx]; exact u4
       · cases hx
 · obtain ⟨U, u1, u2, u3⟩ := make_err h hF m d a kind mode data (lt_len ha) (by omega) he
   exact ⟨U, T, _, _, u1, .none u2 ok (u3.mono fun _ _ h => h.elim)⟩
theorem act_link (h : TabAt S b r T) (ok : Ok T k) (hk : k ≤ 99) (m : Nat) (d i : Int) {a : List UInt8} (ha : Lt a) :
 ∃ U T' e, (ev E0 KD (m + 5)).f 9 [.ptr b 0, .int .i64 d, sv a, .int .i64 i] S = some (.ret (.int .i64 e), U) ∧ After S U b r T T' k e := by
 by_cases he : eLink T d a i = 0
 · have z := qcb he
   have z1 := z (eDir T d) (by simp)
   have z2 := z (eFile T i) (by simp)
   have z3 := z (eFree T d a) (by simp)
   obtain ⟨p, hp, hpk⟩ := qdj z1
   obtain ⟨mp, hm⟩ := qdi ok.sd hp hpk
   obtain ⟨q, hq, hqk⟩ := eFile_zero z2
   have hdi : d ≠ i := fun e => by
    subst e
    rw [hp] at hq; cases hq
    omega
   have hn := ok.nd i q hq
   obtain ⟨U, u1, u2, u3⟩ := link_ok h m d i a (lt_len ha) he hp hm hq hdi (by have := hn.l0; have := hn.l1; unfold big62; omega)
   exact ⟨U, _, _, u1, u2, ok.link hp hpk hq hqk ha (qfp z3 hp), u3, ⟨rfl, rfl⟩, fun e => absurd rfl e, fun x hx => .inl (qc5 (i := d) (f := setE (setKS a i p.ino.ents)) (fun _ => rfl) (qc5 (i := i) (f := addL 1) (fun _ => rfl) hx))⟩
 · obtain ⟨U, u1, u2, u3⟩ := link_err h m d i a (lt_len ha) he
   exact ⟨U, T, _, u1, .none u2 ok u3⟩
theorem act_unlink (h : TabAt S b r T) (ok : Ok T k) (hk : k ≤ 99) (m : Nat) (d : Int) (a : List UInt8) :
 ∃ U T' e, (ev E0 KD (m + 5)).f 14 [.ptr b 0, .int .i64 d, sv a] S = some (.ret (.int .i64 e), U) ∧ After S U b r T T' k e := by
 by_cases he : eUnlink T d a = 0
 · have he' := he
   unfold eUnlink at he'
   by_cases hd : eDir T d = 0
   · rw [if_pos hd] at he'
     obtain ⟨p, hp, hpk⟩ := qdj hd
     obtain ⟨mp, hm⟩ := qdi ok.sd hp hpk
     cases hf : T.find d a with
     | none => rw [hf] at he'; cases he'
     | some i =>
      have hl : lkS a p.ino.ents = some i := by
       unfold Tab.find at hf
       rw [hp] at hf; exact hf
      obtain ⟨hi1, q, hq, _⟩ := ok.sd.ent d p hp _ (qef hl)
      rw [hf] at he'
      dsimp only at he'
      rw [hq] at he'
      dsimp only at he'
      have hqe : q.ino.ents = [] := by
       by_cases hx : q.ino.ents = []
       · exact hx
       · rw [if_neg hx] at he'; cases he'
      have hn := ok.nd i q hq
      by_cases h1 : q.ino.links = 1
      · obtain ⟨U, u1, u2, u3⟩ := qil h m d a hd hp hm hl hq hqe h1 (ok.fits (by omega)) (by have := hn.dat; omega)
        refine ⟨U, _, _, u1, u2, ok.last hp hq hqe hl h1, u3, ⟨rfl, rfl⟩, fun e => absurd rfl e, fun x hx => .inl ?_⟩
        exact qc5 (i := d) (f := setE (dropKS a p.ino.ents)) (fun _ => rfl) (qc5 (i := i) (f := addL (-1)) (fun _ => rfl) (own_del (i := i) hx))
      · obtain ⟨U, u1, u2, u3⟩ := unlink_more h m d a hd hp hm hl hq hqe (by have := hn.l0; have := hn.l1; unfold big62; omega) h1
        exact ⟨U, _, _, u1, u2, ok.less hp hq hqe hl h1, u3, ⟨rfl, rfl⟩, fun e => absurd rfl e, fun x hx => .inl (qc5 (i := d) (f := setE (dropKS a p.ino.ents)) (fun _ => rfl) (qc5 (i := i) (f := addL (-1)) (fun _ => rfl) hx))⟩
   · rw [if_neg hd] at he'
     exact absurd he' hd
 · obtain ⟨U, u1, u2, u3⟩ := unlink_err h ok.sd (fun i p hp => by have := (ok.nd i p hp).len; omega) m d a he
   exact ⟨U, T, _, u1, .none u2 ok (u3.mono fun _ _ h => h.elim)⟩
theorem pow_rounds {k : Nat} (hk : k ≤ 63) : 2 ^ k - 1 < rounds := by
 have h1 : 2 ^ k ≤ 2 ^ 63 := Nat.pow_le_pow_right (by decide) hk
 have h2 : rounds = 18446744073709551616 := by unfold rounds; decide
 have h3 : (2 : Nat) ^ 63 = 9223372036854775808 := by decide
 omega
theorem Moves.own {T' : Tab} {f t : Int} {a c : List UInt8} (h : Moves T f a t c T') {x : Nat} (hx : Own b r T' x) : Own b r T x := by
 cases h with
 | same _ _ => exact hx
 | @go i p pt q h1 h2 h3 h4 h5 h6 h7 h8 =>
  unfold moved at hx
  have two : Own b r ((T.upd f (setE (dropKS a p.ino.ents))).upd t (setE (setKS c i pt.ino.ents))) x → Own b r T x := fun hx => qc5 (i := f) (f := setE (dropKS a p.ino.ents)) (fun _ => rfl) (qc5 (i := t) (f := setE (setKS c i pt.ino.ents)) (fun _ => rfl) hx)
  split at hx
  · exact two (qc5 (i := i) (f := setU t) (fun _ => rfl) hx)
  · exact two hx
theorem Moves.q {T' : Tab} {f t : Int} {a c : List UInt8} (h : Moves T f a t c T') : T'.qi = T.qi ∧ T'.qb = T.qb ∧ T'.ui = T.ui ∧ T'.ub = T.ub ∧ T'.last = T.last := by
 cases h with
 | same _ _ => exact ⟨rfl, rfl, rfl, rfl, rfl⟩
 | @go i p pt q h1 h2 h3 h4 h5 h6 h7 h8 =>
  unfold moved
  split <;> exact ⟨rfl, rfl, rfl, rfl, rfl⟩
theorem act_move (h : TabAt S b r T) (ok : Ok T k) (hk : k ≤ 63) (m : Nat) (f t : Int) (a : List UInt8) {c : List UInt8} (hc : Lt c) :
 ∃ U T' e, (ev E0 KD (m + 5)).f 19 [.ptr b 0, .int .i64 f, sv a, .int .i64 t, sv c] S = some (.ret (.int .i64 e), U) ∧ After S U b r T T' k e := by
 obtain ⟨U, u1, u2, T', u3, u4, u5⟩ := move_run h ok.sd (pow_rounds hk) m f t a c (lt_len hc)
 by_cases he : eMv T f a t c = 0
 · have hm := u5 he
   exact ⟨U, T', _, u1, u3, ok.moves hm hc, u2, ⟨hm.q.1, hm.q.2.1⟩, fun e => absurd he e, fun x hx => .inl (hm.own hx)⟩
 · rw [u4 he] at u3
   exact ⟨U, T, _, u1, .none u3 ok u2⟩
theorem act_write (h : TabAt S b r T) (ok : Ok T k) (hk : k ≤ 99) (m : Nat) (i : Int) (data : List UInt8) (hd : data.length ≤ 19) :
 ∃ U T' e, (ev E0 KD (m + 5)).f 10 [.ptr b 0, .int .i64 i, sv data] S = some (.ret (.int .i64 e), U) ∧ After S U b r T T' k e := by
 have hF := ok.fits (by omega)
 by_cases he : eWrite T i data = 0
 · have he' := he
   unfold eWrite at he'
   cases hp : T.get i with
   | none => rw [hp] at he'; cases he'
   | some p =>
    rw [hp] at he'
    have z := qcb he'
    have z1 := z (eFile T i) (by simp)
    have z2 := z (eRoom T 0 ((data.length : Int) - (p.ino.data.length : Int))) (by simp)
    obtain ⟨q, hq, hqk⟩ := eFile_zero z1
    rw [hp] at hq; cases hq
    obtain ⟨r1, r2⟩ := eRoom_zero z2
    have hn := ok.nd i p hp
    obtain ⟨U, u1, u2, u3⟩ := write_ok h hF m i data hp (by omega) (by have := hn.dat; omega) (by have := ok.ub; omega) he
    exact ⟨U, _, _, u1, u2, ok.write hp hqk hd r2, u3, ⟨rfl, rfl⟩, fun e => absurd rfl e, fun x hx => .inl (qc5 (T := T) (i := i) (f := fun n => { n with data := data }) (fun _ => rfl) hx)⟩
 · obtain ⟨U, u1, u2, u3⟩ := write_err h hF m i data (by omega) (fun p hp => by have := (ok.nd i p hp).dat; omega) he
   exact ⟨U, T, _, u1, .none u2 ok (u3.mono fun _ _ h => h.elim)⟩
theorem After.pre {A : St} {T' : Tab} {e : Int} (h : After A U b r T T' k e) (g : Grew (fun _ => False) S A) : After S U b r T T' k e :=
 ⟨h.tab, h.ok, (g.mono fun _ _ h => h.elim).trans h.gr, h.q, h.err, fun x hx => (h.own x hx).imp id fun hx => Nat.le_trans g.next hx⟩
theorem eqU8 (x : Nat) (y : Int) : binV E0 .eql 5 false true (.int .u8 (x : Int)) (.int .u8 y) = some (.bool (decide ((x : Int) = y))) := qey ..
theorem small_run (h : TabAt S b r T) (ok : Ok T k) (hk : k ≤ 63) (m : Nat) (c0 c1 c2 c3 c4 : UInt8) :
 ∃ U T' e, (ev E0 KD (m + 7)).f 16 [.ptr b 0, u8L [c0, c1, c2, c3, c4]] S = some (.ret (.int .i64 e), U) ∧ After S U b r T T' k e := by
 obtain ⟨A, a1, a2⟩ := small_head h.on (ev E0 KD (m + 6)) rounds b c0 c1 c2 c3 c4
 have hA := h.grewF a2
 have fin : ∀ {U T' e}, sm1 (ev E0 KD (m + 6)) (.ptr b 0) (.int .i64 (num12 c1)) (sv [ltr c3]) (.int .i64 (num12 c2)) (sv [ltr c4]) (sv (zer c4)) (.int .u8 ((c0.toNat % 8 : Nat) : Int)) A = some (.ret (.int .i64 e), U) → After A U b r T T' k e →
  ∃ U T' e, (ev E0 KD (m + 7)).f 16 [.ptr b 0, u8L [c0, c1, c2, c3, c4]] S = some (.ret (.int .i64 e), U) ∧ After S U b r T T' k e := fun {U T' e} q1 q2 => ⟨U, T', e, rd16 (a1.trans q1), q2.pre a2⟩
 have hz : (zer c4).length ≤ 19 := by
  have : c4.toNat % 20 < 20 := Nat.mod_lt _ (by omega)
  unfold zer
  rw [List.length_replicate]; omega
 clear a1
 have h8 : c0.toNat % 8 < 8 := Nat.mod_lt _ (by omega)
 generalize c0.toNat % 8 = w at fin h8
 unfold sm1 at fin
 rcases (by omega : w = 0 ∨ w = 1 ∨ w = 2 ∨ w = 3 ∨ w = 4 ∨ w = 5 ∨ w = 6 ∨ w = 7) with rfl | rfl | rfl | rfl | rfl | rfl | rfl | rfl
 · obtain ⟨U, T', n, e, u1, u2⟩ := qgj hA ok (by omega) m (num12 c1) (ltr_lt c3) 2 493 [] (by simp)
   refine fin ?_ u2
   simp only [eqU8, oB, ifK_bool, show decide (((0 : Nat) : Int) = 0) = true from rfl, cond_true]
   rw [u1, callP_ret, qfq, oB, qfr, oB]
 · obtain ⟨U, T', n, e, u1, u2⟩ := qgj hA ok (by omega) m (num12 c1) (ltr_lt c3) 2 493 [] (by simp)
   refine fin ?_ u2
   simp only [eqU8, oB, ifK_bool, show decide (((1 : Nat) : Int) = 0) = false from rfl, show decide (((1 : Nat) : Int) = 1) = true from rfl, cond_true, cond_false]
   rw [u1, callP_ret, qfq, oB, qfr, oB]
 · obtain ⟨U, T', n, e, u1, u2⟩ := qgj hA ok (by omega) m (num12 c1) (ltr_lt c3) 1 420 (zer c4) hz
   refine fin ?_ u2
   simp only [eqU8, oB, ifK_bool, show decide (((2 : Nat) : Int) = 0) = false from rfl, show decide (((2 : Nat) : Int) = 1) = false from rfl, show decide (((2 : Nat) : Int) = 2) = true from rfl, cond_true, cond_false]
   rw [u1, callP_ret, qfq, oB, qfr, oB]
 · obtain ⟨U, T', n, e, u1, u2⟩ := qgj hA ok (by omega) m (num12 c1) (ltr_lt c3) 3 511 [116, 111] (by simp)
   refine fin ?_ u2
   simp only [eqU8, oB, ifK_bool, show decide (((3 : Nat) : Int) = 0) = false from rfl, show decide (((3 : Nat) : Int) = 1) = false from rfl, show decide (((3 : Nat) : Int) = 2) = false from rfl, show decide (((3 : Nat) : Int) = 3) = true from rfl, cond_true, cond_false]
   rw [u1, callP_ret, qfq, oB, qfr, oB]
 · obtain ⟨U, T', e, u1, u2⟩ := act_link hA ok (by omega) (m + 1) (num12 c1) (num12 c2) (ltr_lt c3)
   refine fin ?_ u2
   simp only [eqU8, oB, ifK_bool, show decide (((4 : Nat) : Int) = 0) = false from rfl, show decide (((4 : Nat) : Int) = 1) = false from rfl, show decide (((4 : Nat) : Int) = 2) = false from rfl, show decide (((4 : Nat) : Int) = 3) = false from rfl, show decide (((4 : Nat) : Int) = 4) = true from rfl, cond_true, cond_false]
   rw [show ev E0 KD (m + 6) = ev E0 KD (m + 1 + 5) from rfl, u1, callP_ret]
 · obtain ⟨U, T', e, u1, u2⟩ := act_unlink hA ok (by omega) (m + 1) (num12 c1) [ltr c3]
   refine fin ?_ u2
   simp only [eqU8, oB, ifK_bool, show decide (((5 : Nat) : Int) = 0) = false from rfl, show decide (((5 : Nat) : Int) = 1) = false from rfl, show decide (((5 : Nat) : Int) = 2) = false from rfl, show decide (((5 : Nat) : Int) = 3) = false from rfl, show decide (((5 : Nat) : Int) = 4) = false from rfl, show decide (((5 : Nat) : Int) = 5) = true from rfl, cond_true, cond_false]
   rw [show ev E0 KD (m + 6) = ev E0 KD (m + 1 + 5) from rfl, u1, callP_ret]
 · obtain ⟨U, T', e, u1, u2⟩ := act_move hA ok hk (m + 1) (num12 c1) (num12 c2) [ltr c3] (ltr_lt c4)
   refine fin ?_ u2
   simp only [eqU8, oB, ifK_bool, show decide (((6 : Nat) : Int) = 0) = false from rfl, show decide (((6 : Nat) : Int) = 1) = false from rfl, show decide (((6 : Nat) : Int) = 2) = false from rfl, show decide (((6 : Nat) : Int) = 3) = false from rfl, show decide (((6 : Nat) : Int) = 4) = false from rfl, show decide (((6 : Nat) : Int) = 5) = false from rfl, show decide (((6 : Nat) : Int) = 6) = true from rfl, cond_true, cond_false]
   rw [show ev E0 KD (m + 6) = ev E0 KD (m + 1 + 5) from rfl, u1, callP_ret]
 · obtain ⟨U, T', e, u1, u2⟩ := act_write hA ok (by omega) (m + 1) (num12 c2) (zer c4) hz
   refine fin ?_ u2
   simp only [eqU8, oB, ifK_bool, show decide (((7 : Nat) : Int) = 0) = false from rfl, show decide (((7 : Nat) : Int) = 1) = false from rfl, show decide (((7 : Nat) : Int) = 2) = false from rfl, show decide (((7 : Nat) : Int) = 3) = false from rfl, show decide (((7 : Nat) : Int) = 4) = false from rfl, show decide (((7 : Nat) : Int) = 5) = false from rfl, show decide (((7 : Nat) : Int) = 6) = false from rfl, cond_false]
   rw [show ev E0 KD (m + 6) = ev E0 KD (m + 1 + 5) from rfl, u1, callP_ret]
theorem new_ok (qi qb : Int) (h1 : 1 ≤ qi) (h2 : 0 ≤ qb) (nb nm : Nat) : Ok (newTab qi qb nb nm) 0 := by
 have hg : ∀ i p, (newTab qi qb nb nm).get i = some p → i = 1 ∧ p = ⟨1, nb, rootIno nm⟩ := fun i p hp => by
  have hp' : (if i = 1 then some (⟨1, nb, rootIno nm⟩ : Nod) else none) = some p := hp
  by_cases hi : i = 1
  · rw [if_pos hi] at hp'
    exact ⟨hi, (Option.some.inj hp').symm⟩
  · rw [if_neg hi] at hp'; cases hp'
 refine ⟨⟨by show ([1] : List Int).Nodup; decide, ⟨_, rfl, rfl, rfl⟩, fun i p hp => ?_, fun i p hp _ => ?_, fun i p hp hk => ?_, fun i p hp e he => ?_, fun i p hp => ?_, fun i p hp h1 => ?_, fun i p hp _ h1 => ?_, fun i p hp _ => ?_⟩, fun i p hp => ?_, ⟨by show (1 : Int) ≤ 1; omega, by show (1 : Int) ≤ 1 + 0; omega⟩, rfl, rfl, by show 1 ≤ 1 + 0; omega, h1, h2⟩
 all_goals obtain ⟨rfl, rfl⟩ := hg i p hp
 · show (1 : Int) ≤ 1 ∧ (1 : Int) ≤ 1; omega
 · rfl
 · exact absurd rfl hk
 · cases he
 · exact List.nodup_nil
 · exact absurd rfl h1
 · exact absurd rfl h1
 · exact ⟨0, Nat.le_refl _, .root⟩
 · exact ⟨by show (0 : Int) ≤ 1; omega, by show (1 : Int) ≤ 1 + 0; omega, fun h => absurd rfl h, fun e he => (by cases he), Nat.le_refl _, Nat.zero_le _, fun _ => rfl, .inr (.inl rfl), fun h => (by cases h)⟩
end
end Go.Proofs.Ytbihlgcdnhoknaa.W
