/-
  WHAT THE FUNCTIONS COME TO: each is read by the evaluator, printed, and told as a function of data, part 7 of 7 (no condition).
-/
import Derived.Test.YtbihlgcdnhoknaaW6
import Derived.WalkKit
import Derived.ProofKit
import Derived.OpenShut
import Derived.Carry
import Derived.ChangeMaps5
namespace Go.Proofs.Ytbihlgcdnhoknaa.W
open Go.Proofs.Ytbihlgcdnhoknaa.Ev
def oddB (c : UInt8) : Bool := (c.toNat - 97) % 2 == 1
def dn (o : Bool) : Int := if o then 2 else 1
def nam (cs : List UInt8) : List (List UInt8) := cs.map fun c => [c]
theorem nam_length (cs : List UInt8) : (nam cs).length = cs.length := by unfold nam; rw [List.length_map]
theorem lkS_drop {a b : List UInt8} (h : b ≠ a) : ∀ kv, lkS b (dropKS a kv) = lkS b kv
 | [] => rfl
 | p :: kv => by
  unfold dropKS
  by_cases hc : a = p.1
  · rw [if_pos hc]
    show _ = (if b = p.1 then some p.2 else lkS b kv)
    rw [if_neg (by rw [← hc]; exact h)]
  · rw [if_neg hc]
    show (if b = p.1 then some p.2 else lkS b (dropKS a kv)) = (if b = p.1 then some p.2 else lkS b kv)
    rw [lkS_drop h kv]
theorem lkS_set_other {a b : List UInt8} {v : Int} (h : b ≠ a) : ∀ kv, lkS b (setKS a v kv) = lkS b kv
 | [] => by show (if b = a then some v else none) = none; rw [if_neg h]
 | p :: kv => by
  unfold setKS
  by_cases hc : a = p.1
  · rw [if_pos hc]
    show (if b = a then some v else lkS b kv) = (if b = p.1 then some p.2 else lkS b kv)
    rw [if_neg h, if_neg (by rw [← hc]; exact h)]
  · rw [if_neg hc]
    show (if b = p.1 then some p.2 else lkS b (setKS a v kv)) = (if b = p.1 then some p.2 else lkS b kv)
    rw [lkS_set_other h kv]
theorem lkS_set_same (a : List UInt8) (v : Int) : ∀ kv, lkS a (setKS a v kv) = some v
 | [] => by show (if a = a then some v else none) = _; rw [if_pos rfl]
 | p :: kv => by
  unfold setKS
  by_cases hc : a = p.1
  · rw [if_pos hc]
    show (if a = a then some v else lkS a kv) = _
    rw [if_pos rfl]
  · rw [if_neg hc]
    show (if a = p.1 then some p.2 else lkS a (setKS a v kv)) = _
    rw [if_neg hc, lkS_set_same a v kv]
structure Inv (T : Tab) (cs : List UInt8) (data : List UInt8) : Prop where
 num : T.qi = 10 ∧ T.qb = 300 ∧ T.ui = 3 ∧ T.ub = data.length ∧ T.last = 3
 dir : ∀ o : Bool, ∃ p m, T.get (dn o) = some p ∧ p.ino.kind = 2 ∧ p.ino.map = some m ∧ ∀ c ∈ cs, oddB c = o → lkS [c] p.ino.ents = some 3
 file : ∃ f, T.get 3 = some f ∧ f.ino.kind = 1 ∧ f.ino.data = data ∧ f.ino.links = cs.length ∧ f.ino.ents = []
structure Fin_ (T : Tab) : Prop where
 ui : T.ui = 2
 ub : T.ub = 0
 none : T.get 3 = none
theorem dn_ne3 (o : Bool) : dn o ≠ 3 ∧ (3 : Int) ≠ dn o := by cases o <;> decide
theorem dn_inj {o o' : Bool} (h : o ≠ o') : dn o ≠ dn o' := by cases o <;> cases o' <;> first | exact absurd rfl h | decide
section
variable {S U : St} {b r : Nat} {T : Tab}
theorem Own_step {T' : Tab} (h : ∀ p' ∈ T'.nodes, ∃ p ∈ T.nodes, p'.box = p.box ∧ p'.ino.map = p.ino.map) {x : Nat} (hx : Own b r T' x) : Own b r T x := by
 rcases hx with e | e | ⟨p', hp', e⟩
 · exact .inl e
 · exact .inr (.inl e)
 · obtain ⟨p, hp, h1, h2⟩ := h p' hp'
   exact .inr (.inr ⟨p, hp, by rw [← h1, ← h2]; exact e⟩)
theorem own_upd {i : Int} {f : Ino → Ino} (hf : ∀ n, (f n).map = n.map) {x : Nat} (hx : Own b r (T.upd i f) x) : Own b r T x :=
 Own_step (fun p' hp' => by
  obtain ⟨p, hp, rfl⟩ := updN_mem.1 hp'
  refine ⟨p, hp, ?_⟩
  split
  · exact ⟨rfl, hf _⟩
  · exact ⟨rfl, rfl⟩) hx
theorem own_del {i : Int} {x : Nat} (hx : Own b r (T.del i) x) : Own b r T x := Own_step (fun p' hp' => ⟨p', (delN_sub i T.nodes).subset hp', rfl, rfl⟩) hx
theorem upd_inv {cs : List UInt8} {data : List UInt8} (hI : Inv T cs data) {j : Nat} (hj : j < cs.length) (hn : cs.Nodup) {p : Nod} {o : Bool} (ho : oddB cs[j] = o) (hp : T.get (dn o) = some p) (h2 : 2 ≤ cs.length) : Inv ((T.upd (dn o) (setE (dropKS [cs[j]] p.ino.ents))).upd 3 (addL (-1))) (cs.take j ++ cs.drop (j + 1)) data := by
 have hlen : (cs.take j ++ cs.drop (j + 1)).length = cs.length - 1 := by rw [List.length_append, List.length_take, List.length_drop]; omega
 have hsub : ∀ c ∈ cs.take j ++ cs.drop (j + 1), c ∈ cs ∧ c ≠ cs[j] := fun c hc => by
  have hsplit : cs = cs.take j ++ cs[j] :: cs.drop (j + 1) := by rw [← List.drop_eq_getElem_cons hj, List.take_append_drop]
  refine ⟨?_, fun e => ?_⟩
  · rcases List.mem_append.1 hc with h | h
    · exact List.mem_of_mem_take h
    · exact List.mem_of_mem_drop h
  · rw [hsplit] at hn
    have hd := List.nodup_append.1 hn
    rcases List.mem_append.1 hc with h | h
    · exact hd.2.2 c h cs[j] (List.mem_cons_self ..) e
    · rw [e] at h
      exact (List.nodup_cons.1 hd.2.1).1 h
 refine ⟨hI.num, fun o' => ?_, ?_⟩
 · obtain ⟨q, m, g1, g2, g3, g4⟩ := hI.dir o'
   by_cases e : o' = o
   · subst e
     rw [hp] at g1
     simp only [oS] at g1
     subst g1
     refine ⟨_, m, (get_upd_other (dn_ne3 o').1).trans (get_upd_same hp), g2, g3, fun c hc hco => ?_⟩
     show lkS [c] (dropKS [cs[j]] p.ino.ents) = _
     rw [lkS_drop (fun e => (hsub c hc).2 (by simpa using e))]
     exact g4 c (hsub c hc).1 hco
   · exact ⟨q, m, ((get_upd_other (dn_ne3 o').1).trans (get_upd_other (dn_inj e))).trans g1, g2, g3, fun c hc hco => g4 c (hsub c hc).1 hco⟩
 · obtain ⟨f, g1, g2, g3, g4, g5⟩ := hI.file
   refine ⟨_, get_upd_same ((get_upd_other (dn_ne3 o).2).trans g1), g2, g3, ?_, g5⟩
   show f.ino.links + -1 = _
   rw [g4, hlen]; omega
theorem fits_of {T : Tab} {cs data : List UInt8} (hI : Inv T cs data) (hd : data.length ≤ 200) : Fits T := ⟨by rw [hI.num.2.2.1]; unfold big62; omega, by rw [hI.num.2.2.2.1]; unfold big62; omega⟩
theorem gone_run (h : TabAt S b r T) (m : Nat) {cs data : List UInt8} (hI : Inv T cs data) (hd : data.length ≤ 200) {j : Nat} (hj : j < cs.length) (hlc : cs.length ≤ 12) (hn : cs.Nodup) :
 ∃ U T', (ev E0 KD (m + 5)).f 14 [.ptr b 0, .int .i64 (dn (oddB cs[j])), sv [cs[j]]] S = some (.ret (.int .i64 0), U) ∧ TabAt U b r T' ∧ Grew (Own b r T) S U ∧ (2 ≤ cs.length → Inv T' (cs.take j ++ cs.drop (j + 1)) data) ∧ (cs.length = 1 → Fin_ T') ∧ ∀ x, Own b r T' x → Own b r T x := by
 obtain ⟨p, mp, g1, g2, g3, g4⟩ := hI.dir (oddB cs[j])
 obtain ⟨f, f1, f2, f3, f4, f5⟩ := hI.file
 have hlk := g4 cs[j] (List.getElem_mem hj) rfl
 have hdir : eDir T (dn (oddB cs[j])) = 0 := by unfold eDir; rw [g1]; exact if_pos g2
 by_cases h1 : cs.length = 1
 · obtain ⟨U, q1, q2, q3⟩ := unlink_last h m (dn (oddB cs[j])) [cs[j]] hdir g1 g3 hlk f1 f5 (by rw [f4, h1]; rfl) (fits_of hI hd) (by rw [f3]; omega)
   refine ⟨U, _, q1, q2, q3, fun h2 => by omega, fun _ => ⟨by show T.ui - 1 = 2; rw [hI.num.2.2.1]; rfl, by show T.ub - (f.ino.data.length : Int) = 0; rw [hI.num.2.2.2.1, f3]; omega, ?_⟩, fun x hx => own_upd (i := dn (oddB cs[j])) (f := setE (dropKS [cs[j]] p.ino.ents)) (fun _ => rfl) (own_upd (i := 3) (f := addL (-1)) (fun _ => rfl) (own_del (i := 3) (show Own b r (((T.upd (dn (oddB cs[j])) (setE (dropKS [cs[j]] p.ino.ents))).upd 3 (addL (-1))).del 3) x from hx)))⟩
   have hk : (((T.upd (dn (oddB cs[j])) (setE (dropKS [cs[j]] p.ino.ents))).upd 3 (addL (-1))).nodes.map (·.no)).Nodup := by
    show ((updN 3 _ (updN _ _ T.nodes)).map (·.no)).Nodup
    rw [updN_no, updN_no]; exact h.key
   exact getN_del_same hk
 · obtain ⟨U, q1, q2, q3⟩ := unlink_more h m (dn (oddB cs[j])) [cs[j]] hdir g1 g3 hlk f1 f5 (by rw [f4]; unfold big62; omega) (by rw [f4]; omega)
   exact ⟨U, _, q1, q2, q3, fun h2 => upd_inv hI hj hn rfl g1 h2, fun e => absurd e h1, fun x hx => own_upd (i := dn (oddB cs[j])) (f := setE (dropKS [cs[j]] p.ino.ents)) (fun _ => rfl) (own_upd (i := 3) (f := addL (-1)) (fun _ => rfl) hx)⟩
theorem seg_run (h : TabAt S b r T) (m : Nat) {cs data : List UInt8} (hI : Inv T cs data) (hd : data.length ≤ 200) {j : Nat} (hj : j < cs.length) (hlc : cs.length ≤ 12) (hn : cs.Nodup) {x : Nat} {v : V} (hv : NL S x v (nam cs)) (hx : ¬ Own b r T x) :
 ∃ x' v' U T', (∀ K : V → St → Rs,
callP ((ev E0 KD (m + 5)).f 13 [.ptr b 0, .int .i64 (dn (oddB cs[j])), sv [cs[j]]] S) (fun t134 S134 =>
(extractV t134 0).bind fun t136 =>
(extractV t134 1).bind fun t137 =>
(unV .not t137).bind fun t141 =>
(guardV false t141).bind fun g143 => (bif g143 then some t136 else some (.tuple [])).bind fun t143 =>
(guardV false t141).bind fun g144 => (bif g144 then some (.int .i64 3) else some (.tuple [])).bind fun t144 =>
(guardV false t141).bind fun g145 => (bif g145 then binV E0 .neq 3 false false t143 t144 else some (.tuple [])).bind fun t145 =>
(pickV t141 (some (.bool true)) (some t145)).bind fun t146 =>
(guardV false t146).bind fun g148 => (bif g148 then some (.ptr b 0) else some (.tuple [])).bind fun t148 =>
(guardV false t146).bind fun g149 => (bif g149 then some (.int .i64 (dn (oddB cs[j]))) else some (.tuple [])).bind fun t149 =>
(guardV false t146).bind fun g150 => (bif g150 then some v else some (.tuple [])).bind fun t150 =>
(guardV false t146).bind fun g151 => (bif g151 then some (.int .i64 (j : Int)) else some (.tuple [])).bind fun t151 =>
(guardV false t146).bind fun g152 => (bif g152 then ixP 1 t150 t151 else some (.tuple [])).bind fun t152 =>
(guardV false t146).bind fun g153 => (bif g153 then ld1 t152 S134 else some (.tuple [], S134)).bind fun p153 =>
(guardV false t146).bind fun g154 => callP (bif g154 then (ev E0 KD (m + 5)).f 14 [t148, t149, p153.1] p153.2 else some (.ret (.tuple []), p153.2)) fun t154 S154 =>
(guardV false t146).bind fun g155 => (bif g155 then binV E0 .neq 27 false true t154 (.int .i64 0) else some (.tuple [])).bind fun t155 =>
(pickV t146 (some (.bool true)) (some t155)).bind fun t156 =>
ifK t156 (
some (.ret (.bool false), S154)) (
(bsP 9 1 0 (one (sv [])) [] (onS S154)).bind fun p158 =>
(sliceV E0 30 v none (some (.int .i64 (j : Int))) none (onS p158.2)).bind fun p161 =>
(apP 9 1 16 p158.1 p161.1 (onS p161.2)).bind fun p162 =>
(binV E0 .add 3 false true (.int .i64 (j : Int)) (.int .i64 1)).bind fun t165 =>
(sliceV E0 30 v (some t165) none none (onS p162.2)).bind fun p166 =>
(apP 9 1 16 p162.1 p166.1 (onS p166.2)).bind fun p167 =>
endP [(0, [3, 8]), (3, [8]), (4, [8])] S154 [p158.2.log, [], [], p161.2.log, p162.2.log, [], [], [], p166.2.log, p167.2.log, []] (onS p167.2) fun S169 =>
K p167.1 S169)) = K v' U) ∧ NL U x' v' (nam (cs.take j ++ cs.drop (j + 1))) ∧ TabAt U b r T' ∧ ¬ Own b r T' x' ∧ (2 ≤ cs.length → Inv T' (cs.take j ++ cs.drop (j + 1)) data) ∧ (cs.length = 1 → Fin_ T') := by
 obtain ⟨p, mp, g1, g2, g3, g4⟩ := hI.dir (oddB cs[j])
 have hfind : T.find (dn (oddB cs[j])) [cs[j]] = some 3 := by
  unfold Tab.find
  rw [g1]
  exact g4 cs[j] (List.getElem_mem hj) rfl
 obtain ⟨U1, T', u1, u2, u3, u4, u5, u6⟩ := gone_run h m hI hd hj hlc hn
 have hv1 := hv.grew hx u3
 obtain ⟨x', v', U, c1, c2, c3, c4⟩ := cut_run u2.on hv1 (i := j) (by rw [nam_length]; exact hj) (by rw [nam_length]; omega)
 have hnam : (nam cs).take j ++ (nam cs).drop (j + 1) = nam (cs.take j ++ cs.drop (j + 1)) := by unfold nam; rw [List.map_append, List.map_take, List.map_drop]
 rw [hnam] at c2
 have hU := u2.grewF c3
 refine ⟨x', v', U, T', fun K => ?_, c2, hU, fun ho => ?_, u4, u5⟩
 · obtain ⟨i1, i2⟩ := hv.ix h.on (i := j) (by rw [nam_length]; exact hj)
   have hnj : (nam cs)[j]'(by rw [nam_length]; exact hj) = [cs[j]] := by unfold nam; rw [List.getElem_map]
   rw [hnj] at i2
   rw [show (ev E0 KD (m + 5)).f 13 [.ptr b 0, .int .i64 (dn (oddB cs[j])), sv [cs[j]]] S = _ from find_run h (m + 3) (dn (oddB cs[j])) [cs[j]], callP_ret, extr0, oB, extr1, oB, hfind]
   simp only [Option.isSome_some, Option.getD_some, notV, Bool.not_true, gFF, oB, cond_true, pickV_bool, cond_false]
   rw [binV_ii, intsV_neq, show decide ((3 : Int) = 3) = true from rfl, Bool.not_true]
   simp only [gFF, oB, cond_true, i1, i2]
   rw [u1, callP_ret]
   simp only [neq27, beq_self_eq_true, Bool.not_true, oB, pickV_bool, cond_false]
   rw [ifK_bool, cond_false]
   exact c1 K
 · rcases ho with e | e | ⟨p', hp', e | e⟩
   · have := u2.hb; omega
   · have := u2.hr; omega
   · have := u2.hn p' hp'; omega
   · have := u2.hm p' hp' _ e; omega
end
end Go.Proofs.Ytbihlgcdnhoknaa.W
namespace Go.Proofs.Ytbihlgcdnhoknaa.W
open Go.Proofs.Ytbihlgcdnhoknaa.Ev
def u8V (c : UInt8) : V := .int .u8 (c.toNat : Int)
def BytesV (v : V) (l : List UInt8) : Prop := (l = [] ∧ (v = .nilslice ∨ v = .eslice)) ∨ v = .list 1 (l.map u8V)
section
variable {S U : St} {b r : Nat} {T : Tab}
theorem bytes_len {v : V} {l : List UInt8} (h : BytesV v l) : lnS v S = some (.int .i64 (l.length : Int), S) := by
 rcases h with ⟨rfl, rfl | rfl⟩ | rfl
 · rfl
 · rfl
 · show some (V.int .i64 (((l.map u8V).length : Nat) : Int), S) = _
   rw [List.length_map]
theorem bytes_ix {v : V} {l : List UInt8} (h : BytesV v l) {i : Nat} (hi : i < l.length) : ixP 1 v (.int .i64 (i : Int)) = some (.cptr (u8V l[i])) := by
 rcases h with ⟨rfl, _⟩ | rfl
 · simp at hi
 · rw [ixP_list 1 _ .i64 i (by rw [List.length_map]; exact hi) (by decide), List.getElem_map]
theorem wrap_u8s {n : Int} (h0 : 0 ≤ n) (h1 : n < 256) : IntKind.u8.wrap n = n := by
 rw [← wrapF_eq]
 obtain ⟨k, rfl⟩ : ∃ k : Nat, n = k := ⟨n.toNat, by omega⟩
 show (bif Nat.blt k (ikLim .u8) then Int.ofNat k else _) = _
 rw [blt_true.2 (show k < ikLim .u8 by show k < 256; omega)]; rfl
theorem parity {c : UInt8} (hc : 97 ≤ c.toNat ∧ c.toNat ≤ 108) : binV E0 .sub 5 false true (.int .u8 (c.toNat : Int)) (.int .u8 97) = some (.int .u8 ((c.toNat - 97 : Nat) : Int)) ∧ binV E0 .rem 5 false true (.int .u8 ((c.toNat - 97 : Nat) : Int)) (.int .u8 2) = some (.int .u8 (((c.toNat - 97) % 2 : Nat) : Int)) ∧ binV E0 .eql 5 false true (.int .u8 (((c.toNat - 97) % 2 : Nat) : Int)) (.int .u8 1) = some (.bool (oddB c)) := by
 refine ⟨?_, ?_, ?_⟩
 · rw [binV_ii, intsV_sub, wrap_u8s (by omega) (by omega)]
   congr 2; omega
 · rw [binV_ii, intsV_rem _ _ _ (by decide)]
   congr 2
 · rw [binV_ii, intsV_eql]
   unfold oddB
   congr 2
   cases hb : ((c.toNat - 97) % 2 == 1) with
   | true => rw [decide_eq_true_eq]; simp at hb; omega
   | false => rw [decide_eq_false_iff_not]; simp at hb; omega
def letters (cs : List UInt8) : Prop := ∀ c ∈ cs, 97 ≤ c.toNat ∧ c.toNat ≤ 108
theorem agg4 (S : St) (ho : S.on = false) (a c d e : V) : ∃ U, stP 4 (.ptr S.next 0) (vAgg [a, c, d, e]) (nwP 35 4 (Tr.ofListFrom .nil [(.int .i64 0), (.int .i64 0), (sv []), (.int .i64 0)] 0) S).2 = some (.tuple [], U) ∧ Bx U S.next 35 [a, c, d, e] ∧ Grew (fun _ => False) S U ∧ U.next = S.next + 1 := var_new ho 35 4 _ [a, c, d, e] rfl (by decide) big4
theorem L74_end (self : EV) (N f : Nat) (nk : Ac → St → Rs) (ek : Nat → Ac → St → Rs) (v1 v2 v7 v8 v10 v16 : V) {x : Nat} {v : V} (hv : NL S x v (nam [])) : L3_74 self N nk ek (f + 1) v1 v2 v7 v8 v10 v v16 S = ek 2 (fr 192 [(7, v7), (10, v10)]) S := by
 rw [L3_74_eq, hv.len, oB]
 dsimp only
 rw [binV_ii, intsV_gtr, show decide ((0 : Int) < (((nam []).length : Nat) : Int)) = false from rfl, oB, ifK_bool, cond_false]
theorem strNe (c d : Bool) (a e : List UInt8) : binV E0 .neq 9 c d (sv a) (sv e) = some (.bool (!(a == e))) := strEq c d a e
theorem L74_spec (m N : Nat) (nk : Ac → St → Rs) (ek : Nat → Ac → St → Rs) {data order : List UInt8} {v2 : V} (hd : data.length ≤ 200) (h2 : BytesV v2 order) :
 ∀ (n f k : Nat) {S : St} {T : Tab} {cs : List UInt8} {x : Nat} {v : V}, TabAt S b r T → cs.length = n + 1 → n + 1 < f → k + n < 1000 → cs.length ≤ 12 → cs.Nodup → letters cs → Inv T cs data → NL S x v (nam cs) → ¬ Own b r T x →
 ∃ U T', L3_74 (ev E0 KD (m + 5)) N nk ek f (sv data) v2 (.ptr b 0) (.int .i64 2) (.int .i64 3) v (.int .i64 (k : Int)) S = ek 2 (fr 192 [(7, .ptr b 0), (10, .int .i64 3)]) U ∧ TabAt U b r T' ∧ Fin_ T'
 | n, 0, k, S, T, cs, x, v, h, hn, hf, _, _, _, _, _, _, _ => by omega
 | n, f + 1, k, S, T, cs, x, v, h, hn, hf, hk, hlc, hnd, hlet, hI, hv, hx => by
  obtain ⟨fl, f1, f2, f3, f4, f5⟩ := hI.file
  obtain ⟨U1, u1, u2, u3⟩ := node_run h (m + 3) 3 f1
  obtain ⟨U2, w1, w2, w3, w4⟩ := agg4 U1 u2.on (.int .i64 fl.ino.kind) (.int .i64 fl.ino.mode) (sv fl.ino.data) (.int .i64 fl.ino.links)
  have h2' := u2.grewF w3
  have hv2 := (hv.grew (fun h => h) u3).grew (fun h => h) w3
  have hl0 : (nam cs).length = cs.length := nam_length cs
  have next : ∀ (j : Nat) (hj : j < cs.length) {U : St} {T' : Tab} {x' : Nat} {v' : V}, NL U x' v' (nam (cs.take j ++ cs.drop (j + 1))) → TabAt U b r T' → ¬ Own b r T' x' → (2 ≤ cs.length → Inv T' (cs.take j ++ cs.drop (j + 1)) data) → (cs.length = 1 → Fin_ T') →
   ∃ W T2, ((binV E0 .add 3 false true (.int .i64 (k : Int)) (.int .i64 1)).bind fun t171 => L3_74 (ev E0 KD (m + 5)) N nk ek f (sv data) v2 (.ptr b 0) (.int .i64 2) (.int .i64 3) v' t171 U) = ek 2 (fr 192 [(7, .ptr b 0), (10, .int .i64 3)]) W ∧ TabAt W b r T2 ∧ Fin_ T2 := by
   intro j hj U T' x' v' q1 q2 q3 q4 q5
   have hlen : (cs.take j ++ cs.drop (j + 1)).length = n := by rw [List.length_append, List.length_take, List.length_drop]; omega
   rw [binV_ii, intsV_add, wrap_succ (by omega), oB]
   cases n with
   | zero =>
    have he : cs.take j ++ cs.drop (j + 1) = [] := List.eq_nil_of_length_eq_zero hlen
    rw [he] at q1
    refine ⟨U, T', ?_, q2, q5 hn⟩
    rw [show f = f - 1 + 1 by omega]
    exact L74_end _ _ _ _ _ _ _ _ _ _ _ q1
   | succ n =>
    have hsplit : cs = cs.take j ++ cs[j] :: cs.drop (j + 1) := by rw [← List.drop_eq_getElem_cons hj, List.take_append_drop]
    have hsub : (cs.take j ++ cs.drop (j + 1)).Sublist cs := by
     conv => rhs; rw [hsplit]
     exact List.Sublist.append (List.Sublist.refl _) (List.sublist_cons_self ..)
    exact L74_spec m N nk ek hd h2 n f (k + 1) q2 hlen (by omega) (by omega) (by omega) (hnd.sublist hsub) (fun c hc => hlet c (hsub.subset hc)) (q4 (by omega)) q1 q3
  have l3 : ld1 (.ptr U1.next 3) U2 = some (.int .i64 fl.ino.links, U2) := Bx6.ld h2'.on w2 big4 rfl
  have l2 : ld1 (.ptr U1.next 2) U2 = some (sv fl.ino.data, U2) := Bx6.ld h2'.on w2 big4 rfl
  rw [L3_74_eq, hv.len, oB]
  dsimp only
  rw [binV_ii, intsV_gtr, hl0, show decide ((0 : Int) < (cs.length : Int)) = true from decide_eq_true (by omega), oB, ifK_bool, cond_true]
  rw [show (ev E0 KD (m + 5)).f 12 [.ptr b 0, .int .i64 3] S = _ from u1, callP_ret, extr0, oB, extr1, oB, oB, nwP_fst, w1, oB]
  dsimp only
  simp only [notV, Bool.not_true, gFF, oB, cond_true, faPg, Nat.zero_add, l3, hv2.len, hl0, pickV_bool, cond_false]
  rw [binV_ii, intsV_neq, f4, show decide ((cs.length : Int) = (cs.length : Int)) = true from decide_eq_true rfl, Bool.not_true]
  simp only [gFF, oB, cond_true, l2, pickV_bool, cond_false]
  rw [strNe, f3, beq_self_eq_true, Bool.not_true]
  simp only [oB]
  rw [ifK_bool, cond_false, bytes_len h2, oB]
  dsimp only
  rw [binV_ii, intsV_lss, oB, ifK_bool]
  have tail : ∀ (j : Nat) (hj : j < cs.length), ∃ (v' : V) (U : St), (∀ K : V → St → Rs,
callP ((ev E0 KD (m + 5)).f 13 [.ptr b 0, .int .i64 (dn (oddB cs[j])), sv [cs[j]]] U2) (fun t134 S134 =>
(extractV t134 0).bind fun t136 =>
(extractV t134 1).bind fun t137 =>
(unV .not t137).bind fun t141 =>
(guardV false t141).bind fun g143 => (bif g143 then some t136 else some (.tuple [])).bind fun t143 =>
(guardV false t141).bind fun g144 => (bif g144 then some (.int .i64 3) else some (.tuple [])).bind fun t144 =>
(guardV false t141).bind fun g145 => (bif g145 then binV E0 .neq 3 false false t143 t144 else some (.tuple [])).bind fun t145 =>
(pickV t141 (some (.bool true)) (some t145)).bind fun t146 =>
(guardV false t146).bind fun g148 => (bif g148 then some (.ptr b 0) else some (.tuple [])).bind fun t148 =>
(guardV false t146).bind fun g149 => (bif g149 then some (.int .i64 (dn (oddB cs[j]))) else some (.tuple [])).bind fun t149 =>
(guardV false t146).bind fun g150 => (bif g150 then some v else some (.tuple [])).bind fun t150 =>
(guardV false t146).bind fun g151 => (bif g151 then some (.int .i64 (j : Int)) else some (.tuple [])).bind fun t151 =>
(guardV false t146).bind fun g152 => (bif g152 then ixP 1 t150 t151 else some (.tuple [])).bind fun t152 =>
(guardV false t146).bind fun g153 => (bif g153 then ld1 t152 S134 else some (.tuple [], S134)).bind fun p153 =>
(guardV false t146).bind fun g154 => callP (bif g154 then (ev E0 KD (m + 5)).f 14 [t148, t149, p153.1] p153.2 else some (.ret (.tuple []), p153.2)) fun t154 S154 =>
(guardV false t146).bind fun g155 => (bif g155 then binV E0 .neq 27 false true t154 (.int .i64 0) else some (.tuple [])).bind fun t155 =>
(pickV t146 (some (.bool true)) (some t155)).bind fun t156 =>
ifK t156 (
some (.ret (.bool false), S154)) (
(bsP 9 1 0 (one (sv [])) [] (onS S154)).bind fun p158 =>
(sliceV E0 30 v none (some (.int .i64 (j : Int))) none (onS p158.2)).bind fun p161 =>
(apP 9 1 16 p158.1 p161.1 (onS p161.2)).bind fun p162 =>
(binV E0 .add 3 false true (.int .i64 (j : Int)) (.int .i64 1)).bind fun t165 =>
(sliceV E0 30 v (some t165) none none (onS p162.2)).bind fun p166 =>
(apP 9 1 16 p162.1 p166.1 (onS p166.2)).bind fun p167 =>
endP [(0, [3, 8]), (3, [8]), (4, [8])] S154 [p158.2.log, [], [], p161.2.log, p162.2.log, [], [], [], p166.2.log, p167.2.log, []] (onS p167.2) fun S169 =>
K p167.1 S169)) = K v' U) ∧ ∃ W T2, ((binV E0 .add 3 false true (.int .i64 (k : Int)) (.int .i64 1)).bind fun t171 => L3_74 (ev E0 KD (m + 5)) N nk ek f (sv data) v2 (.ptr b 0) (.int .i64 2) (.int .i64 3) v' t171 U) = ek 2 (fr 192 [(7, .ptr b 0), (10, .int .i64 3)]) W ∧ TabAt W b r T2 ∧ Fin_ T2 := fun j hj => by
   obtain ⟨x', v', U, T', s1, s2, s3, s4, s5, s6⟩ := seg_run h2' m hI hd hj hlc hnd hv2 hx
   obtain ⟨W, T2, z1, z2, z3⟩ := next j hj s2 s3 s4 s5 s6
   exact ⟨v', U, s1, W, T2, z1, z2, z3⟩
  rcases Nat.lt_or_ge k order.length with hko | hko
  · have hp : 0 < cs.length := by omega
    rw [show decide ((k : Int) < (order.length : Int)) = true from decide_eq_true (by omega), cond_true, bytes_ix h2 hko, oB, show ld1 (.cptr (u8V order[k])) U2 = some (.int .u8 (order[k].toNat : Int), U2) from rfl, oB]
    dsimp only
    rw [cvI_int, wrap_i64 (by omega) (by have := order[k].toNat_lt; omega), oB]
    dsimp only
    rw [hv2.len, oB]
    dsimp only
    rw [binV_ii, intsV_rem _ _ _ (by rw [hl0]; omega), hl0, show Int.tmod (order[k].toNat : Int) (cs.length : Int) = ((order[k].toNat % cs.length : Nat) : Int) from rfl, oB]
    have hj := Nat.mod_lt order[k].toNat hp
    generalize order[k].toNat % cs.length = j at hj ⊢
    obtain ⟨i1, i2⟩ := hv2.ix h2'.on (i := j) (by rw [hl0]; exact hj)
    have hnj : (nam cs)[j]'(by rw [hl0]; exact hj) = [cs[j]] := by unfold nam; rw [List.getElem_map]
    rw [hnj] at i2
    obtain ⟨p1, p2, p3⟩ := parity (hlet cs[j] (List.getElem_mem hj))
    obtain ⟨v', U, s1, W, T2, z1, z2, z3⟩ := tail j hj
    refine ⟨W, T2, ?_, z2, z3⟩
    rw [i1, oB, i2, oB]
    dsimp only
    rw [show ixS (sv [cs[j]]) (.int .i64 0) = some (.int .u8 (cs[j].toNat : Int)) from ixS_sv [cs[j]] .i64 0 (Nat.zero_lt_one), oB, p1, oB, p2, oB, p3, oB, ifK_bool]
    have hs := s1 fun x s => (binV E0 .add 3 false true (.int .i64 (k : Int)) (.int .i64 1)).bind fun t171 => L3_74 (ev E0 KD (m + 5)) N nk ek f (sv data) v2 (.ptr b 0) (.int .i64 2) (.int .i64 3) x t171 s
    cases ho : oddB cs[j] with
    | true =>
     rw [ho, show dn true = 2 from rfl] at hs
     rw [cond_true, oB, i2, oB]
     exact hs.trans z1
    | false =>
     rw [ho, show dn false = 1 from rfl] at hs
     rw [cond_false, oB, i2, oB]
     exact hs.trans z1
  · rw [show decide ((k : Int) < (order.length : Int)) = false from decide_eq_false (by omega), cond_false]
    have hj : 0 < cs.length := by omega
    obtain ⟨i1, i2⟩ := hv2.ix h2'.on (i := 0) (by rw [hl0]; exact hj)
    have hnj : (nam cs)[0]'(by rw [hl0]; exact hj) = [cs[0]] := by unfold nam; rw [List.getElem_map]
    rw [hnj] at i2
    obtain ⟨p1, p2, p3⟩ := parity (hlet cs[0] (List.getElem_mem hj))
    obtain ⟨v', U, s1, W, T2, z1, z2, z3⟩ := tail 0 hj
    refine ⟨W, T2, ?_, z2, z3⟩
    rw [show (V.int .i64 0) = .int .i64 ((0 : Nat) : Int) from rfl]
    rw [i1, oB, i2, oB]
    dsimp only
    rw [show ixS (sv [cs[0]]) (.int .i64 ((0 : Nat) : Int)) = some (.int .u8 (cs[0].toNat : Int)) from ixS_sv [cs[0]] .i64 0 (Nat.zero_lt_one), oB, p1, oB, p2, oB, p3, oB, ifK_bool]
    have hs := s1 fun x s => (binV E0 .add 3 false true (.int .i64 (k : Int)) (.int .i64 1)).bind fun t171 => L3_74 (ev E0 KD (m + 5)) N nk ek f (sv data) v2 (.ptr b 0) (.int .i64 2) (.int .i64 3) x t171 s
    cases ho : oddB cs[0] with
    | true =>
     rw [ho, show dn true = 2 from rfl] at hs
     rw [cond_true, oB, i2, oB]
     exact hs.trans z1
    | false =>
     rw [ho, show dn false = 1 from rfl] at hs
     rw [cond_false, oB, i2, oB]
     exact hs.trans z1
end
end Go.Proofs.Ytbihlgcdnhoknaa.W
namespace Go.Proofs.Ytbihlgcdnhoknaa.W
open Go.Proofs.Ytbihlgcdnhoknaa.Ev
section
variable {S U : St} {b r : Nat} {T : Tab}
theorem und22 : und E0 22 = some (.slice 5) := by kernel_rfl
theorem und5 : und E0 5 = some (.int .u8) := by kernel_rfl
theorem quota_ne (x y z w : Int) : binV E0 .neq 26 false false (vAgg [.int .i64 x, .int .i64 y]) (vAgg [.int .i64 z, .int .i64 w]) = (bif iEq x z then (bif iEq y w then some true else some false) else some false).bind fun b => some (.bool (!b)) := by kernel_rfl
theorem quota_eq (x y z w : Int) : binV E0 .eql 26 false false (vAgg [.int .i64 x, .int .i64 y]) (vAgg [.int .i64 z, .int .i64 w]) = (bif iEq x z then (bif iEq y w then some true else some false) else some false).bind fun b => some (.bool b) := by kernel_rfl
theorem quota_ne_same (x y : Int) : binV E0 .neq 26 false false (vAgg [.int .i64 x, .int .i64 y]) (vAgg [.int .i64 x, .int .i64 y]) = some (.bool false) := by
 rw [quota_ne, iEq_eq, iEq_eq, beq_self_eq_true, beq_self_eq_true]; rfl
theorem quota_eq_same (x y : Int) : binV E0 .eql 26 false false (vAgg [.int .i64 x, .int .i64 y]) (vAgg [.int .i64 x, .int .i64 y]) = some (.bool true) := by
 rw [quota_eq, iEq_eq, iEq_eq, beq_self_eq_true, beq_self_eq_true]; rfl
theorem build26 (x y : Int) : buildV E0 26 [(0, (.int .i64 x)), (1, (.int .i64 y))] = some (vAgg [.int .i64 x, .int .i64 y]) := by kernel_rfl
theorem build26a (x : Int) : buildV E0 26 [(0, (.int .i64 x))] = some (vAgg [.int .i64 x, .int .i64 0]) := by kernel_rfl
theorem NL.push (ho : S.on = false) {x : Nat} {v : V} {l : List (List UInt8)} (h : NL S x v l) (hl : l.length < 1000) (h0 : 0 < l.length) (a : List UInt8) : ∃ v' U y W, bsP 9 1 1 (one (sv [])) [(0, sv a)] S = some (y, W) ∧ apP 9 1 16 v y W = some (v', U) ∧ NL U (S.next + 1) v' (l ++ [a]) ∧ Grew (fun z => z = x) S U := by
 obtain ⟨W, h1, h2, h3, h4⟩ := bsP_one ho 9 (one (sv [])) (oneV_sv a)
 have on1 := h3.on.trans ho
 have hx := h.row.2
 have hrow := h.row.1.grew hx (fun h => h) h3
 have hlm : (l ++ [a]).length = l.length + 1 := by rw [List.length_append]; rfl
 have hra : rowOf (l ++ [a]) = rowOf l ++ [one (sv a)] := by unfold rowOf; rw [List.map_append]; rfl
 rcases h.inv with rfl | ⟨rfl, _⟩
 · have hld := hrow.ldN on1 l.length 0 (by rw [rowOf_length]; omega)
   rw [Nat.zero_mul, List.drop_zero, List.take_of_length_le (by rw [rowOf_length]; exact Nat.le_refl _)] at hld
   have hl1 := h2.ldN on1 1 0 (by simp)
   rw [Nat.zero_mul, List.drop_zero, List.take_of_length_le (by simp)] at hl1
   refine ⟨.oslice W.next 0 (l.length + 1) 1, newCells W 9 1 (rowOf l ++ [one (sv a)]), _, W, h1, ?_, ?_, ?_⟩
   · unfold apP
     rw [show lenV (.slice S.next 0 1 1) = some 1 from rfl, oB, show lenV (.slice x 0 l.length l.length) = some l.length from rfl, oB, blt_true.2 (show (l.length + 1) * (16 + 1 + 1) < maxCells by unfold maxCells; omega), cond_true]
     unfold appendV
     rw [show firstV 1 1 (.slice S.next 0 1 1) W = _ from hl1, oB]
     simp only
     rw [show Nat.ble (l.length + 1) l.length = false from by rw [ble_false]; omega, cond_false, show firstV 1 l.length (.slice x 0 l.length l.length) W = _ from hld, oB]
   · rw [h4]
     have := rowAt_newCells (e := 9) (z := 1) (l := rowOf (l ++ [a])) on1 (by omega) (by rw [rowOf_length, hlm]; unfold big; omega)
     rw [← hra, ← hlm]
     rw [h4] at this
     exact .oslice this (by show S.next + 1 < W.next + 1; omega) (by omega)
   · exact (h3.mono fun _ _ h => h.elim).trans (grew_nw on1 _ _)
 · obtain ⟨U, k1, k2, k3, k4⟩ := ap1_more (B := 16) on1 h2 hrow (by rw [rowOf_length]; unfold maxCells; omega) (by rw [rowOf_length]; unfold big; omega)
   rw [rowOf_length] at k1
   refine ⟨_, U, _, W, h1, k1, ?_, (h3.mono fun _ _ h => h.elim).trans k3⟩
   rw [h4] at k2 ⊢
   rw [← hra] at k2
   rw [← hlm]
   exact .oslice k2 (by omega) (by omega)
structure Inv1 (T : Tab) (cs : List UInt8) : Prop where
 num : T.qi = 10 ∧ T.qb = 300 ∧ T.ui = 3 ∧ T.ub = 3 ∧ T.last = 3
 dir : ∀ o : Bool, ∃ p m, T.get (dn o) = some p ∧ p.ino.kind = 2 ∧ p.ino.map = some m ∧ (∀ c ∈ cs, oddB c = o → lkS [c] p.ino.ents = some 3) ∧ ∀ c, c ∉ cs → oddB c = o → lkS [c] p.ino.ents = none
 file : ∃ f, T.get 3 = some f ∧ f.ino.kind = 1 ∧ f.ino.data = [111, 108, 100] ∧ f.ino.links = cs.length ∧ f.ino.ents = []
theorem letter_named {c : UInt8} (hc : 97 ≤ c.toNat ∧ c.toNat ≤ 108) : eNamed [c] = 0 := by
 have h1 : c ≠ 47 := fun e => by rw [e] at hc; exact absurd hc.1 (by decide)
 have h2 : c ≠ 0 := fun e => by rw [e] at hc; exact absurd hc.1 (by decide)
 have h3 : c ≠ 46 := fun e => by rw [e] at hc; exact absurd hc.1 (by decide)
 unfold eNamed
 rw [if_neg (by simp : ¬ 56 < [c].length)]
 have hm : mayBe [c] = true := by
  unfold mayBe
  have e1 : ([c] == ([] : List UInt8)) = false := rfl
  have e2 : ([c] == [46]) = false := beq_false_of_ne fun e => h3 (by simpa using e)
  have e3 : ([c] == [46, 46]) = false := beq_false_of_ne fun e => by simp at e
  have e4 : [c].any badByte = false := by
   show (badByte c || false) = false
   unfold badByte
   rw [beq_false_of_ne h1, beq_false_of_ne h2]; rfl
  rw [e1, e2, e3, e4]; rfl
 rw [hm]; rfl
theorem named_run1 (h : TabAt S b r T) (m : Nat) {cs : List UInt8} (hI : Inv1 T cs) {c : UInt8} (hc : 97 ≤ c.toNat ∧ c.toNat ≤ 108) (hnew : c ∉ cs) (hlc : cs.length ≤ 12) :
 ∃ U T', (ev E0 KD (m + 5)).f 9 [.ptr b 0, .int .i64 (dn (oddB c)), sv [c], .int .i64 3] S = some (.ret (.int .i64 0), U) ∧ TabAt U b r T' ∧ Grew (Own b r T) S U ∧ Inv1 T' (cs ++ [c]) ∧ ∀ x, Own b r T' x → Own b r T x := by
 obtain ⟨p, mp, g1, g2, g3, g4, g5⟩ := hI.dir (oddB c)
 obtain ⟨f, f1, f2, f3, f4, f5⟩ := hI.file
 have he : eLink T (dn (oddB c)) [c] 3 = 0 := by
  unfold eLink
  have e1 : eDir T (dn (oddB c)) = 0 := by unfold eDir; rw [g1]; exact if_pos g2
  have e2 : eFile T 3 = 0 := by
   unfold eFile
   rw [f1]
   show (if f.ino.kind = 2 then (7 : Int) else if f.ino.kind = 1 then 0 else 2) = 0
   rw [if_neg (by rw [f2]; decide), if_pos f2]
  have e3 : eFree T (dn (oddB c)) [c] = 0 := by
   unfold eFree Tab.find
   rw [g1]
   show (if (lkS [c] p.ino.ents).isSome then (6 : Int) else 0) = 0
   rw [g5 c hnew rfl]; rfl
  rw [e1, letter_named hc, e2, e3]; rfl
 obtain ⟨U, q1, q2, q3⟩ := link_ok h m (dn (oddB c)) 3 [c] (by simp) he g1 g3 f1 (dn_ne3 _).1 (by rw [f4]; unfold big62; omega)
 refine ⟨U, _, q1, q2, q3, ⟨hI.num, fun o' => ?_, ?_⟩, fun x hx => own_upd (i := dn (oddB c)) (f := setE (setKS [c] 3 p.ino.ents)) (fun _ => rfl) (own_upd (i := 3) (f := addL 1) (fun _ => rfl) hx)⟩
 · obtain ⟨q, mq, k1, k2, k3, k4, k5⟩ := hI.dir o'
   by_cases e : o' = oddB c
   · subst e
     rw [g1] at k1
     simp only [oS] at k1
     subst k1
     refine ⟨_, mp, (get_upd_other (dn_ne3 _).1).trans (get_upd_same g1), g2, g3, fun x hx hxo => ?_, fun x hx hxo => ?_⟩
     · show lkS [x] (setKS [c] 3 p.ino.ents) = _
       by_cases e2 : x = c
       · rw [e2]; exact lkS_set_same _ _ _
       · rw [lkS_set_other (fun e => e2 (by simpa using e))]
         rcases List.mem_append.1 hx with h' | h'
         · exact g4 x h' hxo
         · exact absurd (by simpa using h') e2
     · show lkS [x] (setKS [c] 3 p.ino.ents) = _
       have e2 : x ≠ c := fun e => hx (by rw [e]; exact List.mem_append_right _ (List.mem_singleton.2 rfl))
       rw [lkS_set_other (fun e => e2 (by simpa using e))]
       exact g5 x (fun h' => hx (List.mem_append_left _ h')) hxo
   · refine ⟨q, mq, ((get_upd_other (dn_ne3 o').1).trans (get_upd_other (dn_inj e))).trans k1, k2, k3, fun x hx hxo => ?_, fun x hx hxo => k5 x (fun h' => hx (List.mem_append_left _ h')) hxo⟩
     rcases List.mem_append.1 hx with h' | h'
     · exact k4 x h' hxo
     · exact absurd hxo (by rw [List.mem_singleton.1 h']; exact fun e3 => e e3.symm)
 · refine ⟨_, get_upd_same ((get_upd_other (dn_ne3 _).2).trans f1), f2, f3, ?_, f5⟩
   show f.ino.links + 1 = _
   rw [f4, List.length_append]; rfl
def abc (n : Nat) : List UInt8 := (List.range n).map fun i => UInt8.ofNat (97 + i)
theorem abc_length (n : Nat) : (abc n).length = n := by unfold abc; rw [List.length_map, List.length_range]
theorem abc_succ (n : Nat) : abc (n + 1) = abc n ++ [UInt8.ofNat (97 + n)] := by unfold abc; rw [List.range_succ, List.map_append]; rfl
theorem u8_of {n : Nat} (h : n ≤ 11) : (UInt8.ofNat (97 + n)).toNat = 97 + n := by rw [UInt8.toNat_ofNat']; omega
theorem abc_letters {n : Nat} (h : n ≤ 12) : letters (abc n) := fun c hc => by
 unfold abc at hc
 rw [List.mem_map] at hc
 obtain ⟨i, hi, rfl⟩ := hc
 rw [List.mem_range] at hi
 rw [u8_of (by omega)]; omega
theorem abc_new {n : Nat} (h : n ≤ 11) : UInt8.ofNat (97 + n) ∉ abc n := fun hc => by
 unfold abc at hc
 rw [List.mem_map] at hc
 obtain ⟨i, hi, e⟩ := hc
 rw [List.mem_range] at hi
 have := congrArg UInt8.toNat e
 rw [u8_of (by omega), u8_of h] at this
 omega
theorem abc_nodup : ∀ {n : Nat}, n ≤ 12 → (abc n).Nodup
 | 0, _ => by show ([] : List UInt8).Nodup; exact List.nodup_nil
 | n + 1, h => by
  rw [abc_succ, List.nodup_append]
  refine ⟨abc_nodup (by omega), by simp, fun x hx y hy e => ?_⟩
  rw [List.mem_singleton.1 hy] at e
  exact abc_new (by omega) (e ▸ hx)
theorem odd_of {n : Nat} (h : n ≤ 11) : oddB (UInt8.ofNat (97 + n)) = (n % 2 == 1) := by
 unfold oddB
 rw [u8_of h, show 97 + n - 97 = n by omega]
theorem L320_spec (m N : Nat) (nk : Ac → St → Rs) (ek : Nat → Ac → St → Rs) (n : UInt8) (v1 v2 : V) :
 ∀ (d f i : Nat) {S : St} {T : Tab} {x : Nat} {v : V}, d + i = 1 + n.toNat % 12 → 1 ≤ i → d < f → TabAt S b r T → Inv1 T (abc i) → NL S x v (nam (abc i)) → ¬ Own b r T x →
 ∃ U T' x' v', L3_320 (ev E0 KD (m + 5)) N nk ek f (u8V n) v1 v2 (.ptr b 0) (.int .i64 2) (.int .i64 3) v (.int .i64 (i : Int)) S = ek 0 (fr 192 [(1, v1), (2, v2), (7, .ptr b 0), (8, .int .i64 2), (10, .int .i64 3), (12, v')]) U ∧ TabAt U b r T' ∧ Inv1 T' (abc (1 + n.toNat % 12)) ∧ NL U x' v' (nam (abc (1 + n.toNat % 12))) ∧ ¬ Own b r T' x'
 | d, 0, i, S, T, x, v, hd, hi, hf, _, _, _, _ => by omega
 | 0, f + 1, i, S, T, x, v, hd, hi, hf, h, hI, hv, hx => by
  have hi' : i = 1 + n.toNat % 12 := by omega
  refine ⟨S, T, x, v, ?_, h, hi' ▸ hI, hi' ▸ hv, hx⟩
  rw [L3_320_eq, show binV E0 .rem 5 false true (u8V n) (.int .u8 12) = some (.int .u8 ((n.toNat % 12 : Nat) : Int)) from by unfold u8V; rw [binV_ii, intsV_rem _ _ _ (by decide)]; rfl, oB, cvI_int, wrap_i64 (by omega) (by omega), oB]
  dsimp only
  rw [addI 3 true false _ _ (by unfold big62; omega) (by unfold big62; omega), oB, binV_ii, intsV_lss, decide_eq_false (by omega), oB, ifK_bool, cond_false]
 | d + 1, f + 1, i, S, T, x, v, hd, hi, hf, h, hI, hv, hx => by
  have hin : i < 1 + n.toNat % 12 := by omega
  have hi11 : i ≤ 11 := by omega
  have hc := u8_of hi11
  generalize hcc : UInt8.ofNat (97 + i) = c at hc
  have hlet : 97 ≤ c.toNat ∧ c.toNat ≤ 108 := by omega
  obtain ⟨S1, a1, a2, a3, a4⟩ := bsP_byte (s := S) h.on 5 c
  have h1 := h.grewF a3
  have hv1 := hv.grew (fun h => h) a3
  obtain ⟨U, T', u1, u2, u3, u4, u5⟩ := named_run1 h1 m hI (c := c) hlet (hcc ▸ abc_new hi11) (by rw [abc_length]; omega)
  have hv2 := hv1.grew hx u3
  obtain ⟨v', W, y, W0, w1, w2, w3, w4⟩ := hv2.push u2.on (by rw [nam_length, abc_length]; omega) (by rw [nam_length, abc_length]; omega) [c]
  have hnm : nam (abc i) ++ [[c]] = nam (abc (i + 1)) := by rw [abc_succ, hcc]; unfold nam; rw [List.map_append]; rfl
  rw [hnm] at w3
  have hxo : ¬ Own b r T' x := fun e => hx (u5 x e)
  have hW := u2.grew w4 fun z hz => by
   subst hz
   exact ⟨fun e => hxo (.inl e), fun e => hxo (.inr (.inl e)), fun p hp => ⟨fun e => hxo (.inr (.inr ⟨p, hp, .inl e⟩)), fun e => hxo (.inr (.inr ⟨p, hp, .inr e⟩))⟩⟩
  have hnew : ¬ Own b r T' (U.next + 1) := fun e => by
   rcases e with e | e | ⟨p, hp, e | e⟩
   · have := u2.hb; omega
   · have := u2.hr; omega
   · have := u2.hn p hp; omega
   · have := u2.hm p hp _ e; omega
  have hI' : Inv1 T' (abc (i + 1)) := by rw [abc_succ, hcc]; exact u4
  obtain ⟨Z, T2, x2, v2', z1, z2, z3, z4, z5⟩ := L320_spec m N nk ek n v1 v2 d f (i + 1) (by omega) (by omega) (by omega) hW hI' w3 hnew
  refine ⟨Z, T2, x2, v2', ?_, z2, z3, z4, z5⟩
  rw [L3_320_eq, show binV E0 .rem 5 false true (u8V n) (.int .u8 12) = some (.int .u8 ((n.toNat % 12 : Nat) : Int)) from by unfold u8V; rw [binV_ii, intsV_rem _ _ _ (by decide)]; rfl, oB, cvI_int, wrap_i64 (by omega) (by omega), oB]
  dsimp only
  rw [addI 3 true false _ _ (by unfold big62; omega) (by unfold big62; omega), oB, binV_ii, intsV_lss, decide_eq_true (by omega), oB, ifK_bool, cond_true, cvI_int, wrap_u8 (by omega) (by omega), oB]
  dsimp only
  rw [show binV E0 .add 5 true false (.int .u8 97) (.int .u8 (i : Int)) = some (.int .u8 (c.toNat : Int)) from by rw [binV_ii, intsV_add, wrap_u8 (by omega) (by omega), hc]; rfl, oB, a1, oB]
  dsimp only
  rw [convert_row h1.on und22 und5 und9 a2 (by simp), oB]
  dsimp only
  rw [show ((List.drop 0 [c]).take 1) = [c] from rfl, binV_ii, intsV_rem _ _ _ (by decide), oB, binV_ii, intsV_eql, oB, ifK_bool]
  have hodd : oddB c = (i % 2 == 1) := by rw [← hcc]; exact odd_of hi11
  cases ho : (i % 2 == 1) with
  | true =>
   rw [hodd, ho, show dn true = 2 from rfl] at u1
   have hm : decide (Int.tmod (i : Int) 2 = 1) = true := by
    rw [decide_eq_true_eq]
    have h2 : i % 2 = 1 := by simpa using ho
    show ((i % 2 : Nat) : Int) = 1
    omega
   rw [hm, cond_true, u1, callP_ret, neq27, beq_self_eq_true, Bool.not_true, oB, ifK_bool, cond_false, w1, oB]
   dsimp only
   rw [w2, oB]
   dsimp only
   rw [binV_ii, intsV_add, wrap_succ (by omega), oB]
   exact z1
  | false =>
   rw [hodd, ho, show dn false = 1 from rfl] at u1
   have hm : decide (Int.tmod (i : Int) 2 = 1) = false := by
    rw [decide_eq_false_iff_not]
    have h2 : i % 2 ≠ 1 := by simpa using ho
    show ¬ ((i % 2 : Nat) : Int) = 1
    omega
   rw [hm, cond_false, u1, callP_ret, neq27, beq_self_eq_true, Bool.not_true, oB, ifK_bool, cond_false, w1, oB]
   dsimp only
   rw [w2, oB]
   dsimp only
   rw [binV_ii, intsV_add, wrap_succ (by omega), oB]
   exact z1
end
end Go.Proofs.Ytbihlgcdnhoknaa.W
namespace Go.Proofs.Ytbihlgcdnhoknaa.W
open Go.Proofs.Ytbihlgcdnhoknaa.Ev Go.RowKit
section
variable {S U : St} {b r : Nat} {T : Tab}
theorem take_min (l : List UInt8) (n : Nat) : List.take (min l.length n) l = l.take n := by
 rcases Nat.le_total l.length n with h | h
 · rw [Nat.min_eq_left h, List.take_length, List.take_of_length_le h]
 · rw [Nat.min_eq_right h]
theorem cutN (s : List UInt8) (n : Nat) (S : St) : sliceV E0 9 (sv s) none (some (.int .i64 ((min s.length n : Nat) : Int))) none S = some (sv (s.take n), S) := by
 rw [slice_sv und9 s (bounds_hi .i64 (Nat.min_le_left ..)) (Nat.min_le_left ..), List.drop_zero, Nat.sub_zero, take_min]
theorem works_known (n : Nat) (S : St) : (ev E0 KD (n + 1)).f 15 [] S = some (.ret (.bool true), S) := by
 rw [ev_known (show KD 15 = some kfTrue from rfl)]
 exact kfTrue_run S
theorem R51_spec (h : TabAt S b r T) (hF : Fin_ T) (m N : Nat) (nk : Ac → St → Rs) (ek : Nat → Ac → St → Rs) : ∃ U, R3_51 (ev E0 KD (m + 5)) N nk ek (fr 192 [(7, .ptr b 0), (10, .int .i64 3)]) S = some (.ret (.bool true), U) := by
 obtain ⟨U1, u1, u2, u3⟩ := node_none h (m + 3) 3 hF.none
 obtain ⟨U2, w1, w2, w3, w4⟩ := agg4 U1 u2.on (.int .i64 0) (.int .i64 0) (sv []) (.int .i64 0)
 obtain ⟨U3, z1, z2, z3⟩ := used_run (u2.grewF w3) (m + 4)
 refine ⟨U3, ?_⟩
 rw [R3_51_eq, show (ev E0 KD (m + 5)).f 12 [.ptr b 0, .int .i64 3] S = _ from u1, callP_ret, extr0, oB, extr1, oB, oB, nwP_fst, w1, oB]
 dsimp only
 simp only [notV, Bool.not_false, gTT, oB, cond_true]
 rw [show (ev E0 KD (m + 5)).f 11 [.ptr b 0] U2 = _ from z1, callP_ret, build26a, oB, hF.ui, hF.ub, quota_eq_same, oB]
 simp only [pickV_bool, cond_true, oB, gTT]
 rw [works_known, callP_ret]
theorem R36_spec (h : TabAt S b r T) (m : Nat) (nk : Ac → St → Rs) (ek : Nat → Ac → St → Rs) {n : Nat} (hn : n < 12) (hI : Inv1 T (abc (1 + n))) {data order : List UInt8} (hd : data.length ≤ 200) {v2 : V} (h2 : BytesV v2 order) {x : Nat} {v : V} (hv : NL S x v (nam (abc (1 + n)))) (hx : ¬ Own b r T x) :
 ∃ U, R3_36 (ev E0 KD (m + 5)) rounds nk ek (fr 192 [(1, sv data), (2, v2), (7, .ptr b 0), (8, .int .i64 2), (10, .int .i64 3), (12, v)]) S = some (.ret (.bool true), U) := by
 obtain ⟨n1, n2, n3, n4, n5⟩ := hI.num
 obtain ⟨f, f1, f2, f3, f4, f5⟩ := hI.file
 have hT : Fits T := ⟨by rw [n3]; unfold big62; omega, by rw [n4]; unfold big62; omega⟩
 have hfl : f.ino.data.length = 3 := by rw [f3]; rfl
 have he : eWrite T 3 data = 0 := by
  unfold eWrite
  rw [f1]
  have e1 : eFile T 3 = 0 := by
   unfold eFile
   rw [f1]
   show (if f.ino.kind = 2 then (7 : Int) else if f.ino.kind = 1 then 0 else 2) = 0
   rw [if_neg (by rw [f2]; decide), if_pos f2]
  have e2 : eRoom T 0 ((data.length : Int) - (f.ino.data.length : Int)) = 0 := by
   unfold eRoom
   rw [if_pos ⟨by rw [n3, n1]; decide, by rw [n4, n2, hfl]; omega⟩]
  rw [e1]
  show chain [0, 0, eRoom T 0 ((data.length : Int) - (f.ino.data.length : Int))] = 0
  rw [e2]; rfl
 obtain ⟨U1, u1, u2, u3⟩ := write_ok h hT m 3 data f1 (by omega) (by omega) (by rw [n4]; omega) he
 have hv1 := hv.grew hx u3
 generalize hT2 : ({ T with ub := T.ub + ((data.length : Int) - (f.ino.data.length : Int)) } : Tab).upd 3 (fun n => { n with data := data }) = T2 at u2
 have hub : T2.ub = data.length := by rw [← hT2]; show T.ub + ((data.length : Int) - (f.ino.data.length : Int)) = _; rw [n4, hfl]; omega
 have hui : T2.ui = 3 := by rw [← hT2]; exact n3
 have hI2 : Inv T2 (abc (1 + n)) data := by
  refine ⟨⟨by rw [← hT2]; exact n1, by rw [← hT2]; exact n2, hui, hub, by rw [← hT2]; exact n5⟩, fun o => ?_, ?_⟩
  · obtain ⟨p, mp, g1, g2, g3, g4, _⟩ := hI.dir o
    exact ⟨p, mp, by rw [← hT2]; exact (get_upd_other (dn_ne3 o).1).trans g1, g2, g3, g4⟩
  · refine ⟨{ f with ino := { f.ino with data := data } }, by rw [← hT2]; exact get_upd_same (show ({ T with ub := T.ub + ((data.length : Int) - (f.ino.data.length : Int)) } : Tab).get 3 = some f from f1), f2, rfl, f4, f5⟩
 have hx2 : ¬ Own b r T2 x := fun e => hx (own_upd (T := T) (i := 3) (f := fun n => { n with data := data }) (fun _ => rfl) (by rw [← hT2] at e; exact e))
 obtain ⟨U2, w1, w2, w3⟩ := used_run u2 (m + 4)
 have hv2 := hv1.grew (fun h => h) w3
 obtain ⟨U3, T3, z1, z2, z3⟩ := L74_spec m rounds (R3_51 (ev E0 KD (m + 5)) rounds (fun a s => projK [6] a fun a => nk a s) ek) (exB 2 (R3_51 (ev E0 KD (m + 5)) rounds (fun a s => projK [6] a fun a => nk a s) ek) ek) hd h2 n rounds 0 w2 (by rw [abc_length]; omega) (by unfold rounds; omega) (by omega) (by rw [abc_length]; omega) (abc_nodup (by omega)) (abc_letters (by omega)) hI2 hv2 hx2
 obtain ⟨U4, y1⟩ := R51_spec z2 z3 m rounds (fun a s => projK [6] a fun a => nk a s) ek
 refine ⟨U4, ?_⟩
 rw [R3_36_eq, show (ev E0 KD (m + 5)).f 10 [.ptr b 0, .int .i64 3, sv data] S = _ from u1, callP_ret, neq27, beq_self_eq_true, Bool.not_true, oB]
 simp only [gFF, oB, cond_true]
 rw [show (ev E0 KD (m + 5)).f 11 [.ptr b 0] U1 = _ from w1, callP_ret]
 simp only [lnStr_sv, oB, build26, hui, hub, quota_ne_same, pickV_bool, cond_false]
 rw [ifK_bool, cond_false]
 refine z1.trans ?_
 rw [exB_same]
 exact y1
end
end Go.Proofs.Ytbihlgcdnhoknaa.W
namespace Go.Proofs.Ytbihlgcdnhoknaa.W
open Go.Proofs.Ytbihlgcdnhoknaa.Ev Go.RowKit
section
variable {S U : St} {b r : Nat} {T : Tab}
def tab1 (nb nm nb2 nm2 : Nat) : Tab := tabMade { newTab 10 300 nb nm with last := 2 } ⟨2, nb2, newIno 2 493 [] 1 (some nm2)⟩ 1 (setKS [100] 2 []) 0
def tab2 (nb nm nb2 nm2 nb3 : Nat) : Tab := tabMade { tab1 nb nm nb2 nm2 with last := 3 } ⟨3, nb3, newIno 1 420 [111, 108, 100] 0 none⟩ 1 (setKS [97] 3 (setKS [100] 2 [])) 3
theorem tab1_root (nb nm nb2 nm2 : Nat) : (tab1 nb nm nb2 nm2).get 1 = some ⟨1, nb, setE (setKS [100] 2 []) (rootIno nm)⟩ := rfl
theorem tab2_root (nb nm nb2 nm2 nb3 : Nat) : (tab2 nb nm nb2 nm2 nb3).get 1 = some ⟨1, nb, setE (setKS [97] 3 (setKS [100] 2 [])) (setE (setKS [100] 2 []) (rootIno nm))⟩ := rfl
theorem tab2_dir (nb nm nb2 nm2 nb3 : Nat) : (tab2 nb nm nb2 nm2 nb3).get 2 = some ⟨2, nb2, newIno 2 493 [] 1 (some nm2)⟩ := rfl
theorem tab2_file (nb nm nb2 nm2 nb3 : Nat) : (tab2 nb nm nb2 nm2 nb3).get 3 = some ⟨3, nb3, newIno 1 420 [111, 108, 100] 0 none⟩ := rfl
theorem make1_is (nb nm : Nat) : eMake (newTab 10 300 nb nm) 1 [100] 2 493 [] = 0 := by
 have e1 : eNamed [100] = 0 := letter_named (by decide)
 unfold eMake
 rw [e1]; rfl
theorem make2_is (nb nm nb2 nm2 : Nat) : eMake (tab1 nb nm nb2 nm2) 1 [97] 1 420 [111, 108, 100] = 0 := by
 have e1 : eNamed [97] = 0 := letter_named (by decide)
 unfold eMake
 rw [e1]; rfl
theorem tab2_inv (nb nm nb2 nm2 nb3 : Nat) : Inv1 (tab2 nb nm nb2 nm2 nb3) (abc 1) := by
 have habc : abc 1 = [97] := rfl
 rw [habc]
 refine ⟨⟨rfl, rfl, rfl, rfl, rfl⟩, fun o => ?_, ⟨_, tab2_file nb nm nb2 nm2 nb3, rfl, rfl, rfl, rfl⟩⟩
 cases o with
 | false =>
  refine ⟨_, nm, tab2_root nb nm nb2 nm2 nb3, rfl, rfl, fun c hc _ => ?_, fun c hc ho => ?_⟩
  · rw [List.mem_singleton.1 hc]; rfl
  · show lkS [c] (setKS [97] 3 (setKS [100] 2 [])) = none
    have h1 : c ≠ 97 := fun e => hc (List.mem_singleton.2 e)
    have h2 : c ≠ 100 := fun e => by rw [e] at ho; exact absurd ho (by decide)
    rw [lkS_set_other (fun e => h1 (by simpa using e)), lkS_set_other (fun e => h2 (by simpa using e))]; rfl
 | true =>
  refine ⟨_, nm2, tab2_dir nb nm nb2 nm2 nb3, rfl, rfl, fun c hc ho => ?_, fun c hc ho => rfl⟩
  rw [List.mem_singleton.1 hc] at ho
  exact absurd ho (by decide)
theorem F3_spec (n : UInt8) (data : List UInt8) {order : List UInt8} {v2 : V} (h2 : BytesV v2 order) (ho : S.on = false) : ∃ U, F3 (ev E0 KD 6) rounds (u8V n) (sv data) v2 S = some (.ret (.bool true), U) := by
 obtain ⟨S1, b, r, nb, nm, a1, a2, a3, a4, a5, a6, a7⟩ := new_run ho 5 10 300 (by decide) (by decide)
 have hT1 : Fits (newTab 10 300 nb nm) := ⟨by show -big62 < (1 : Int) ∧ (1 : Int) < big62; decide, by show -big62 < (0 : Int) ∧ (0 : Int) < big62; decide⟩
 obtain ⟨S2, nb2, nm2, b1, b2, b3, b4, b5⟩ := make_dir a2 hT1 0 1 [100] 493 [] (by decide) (by decide) (make1_is nb nm) (q := ⟨1, nb, rootIno nm⟩) (mq := nm) rfl rfl rfl (by show -big62 < (1 : Int) ∧ (1 : Int) < big62; decide)
 replace b1 : (ev E0 KD 6).f 8 [.ptr b 0, .int .i64 1, sv [100], .int .i64 2, .int .i64 493, sv []] S1 = some (.ret (.tuple [.int .i64 2, .int .i64 0]), S2) := b1
 replace b2 : TabAt S2 b r (tab1 nb nm nb2 nm2) := b2
 have hT2 : Fits (tab1 nb nm nb2 nm2) := ⟨by show -big62 < (1 : Int) + 1 ∧ (1 : Int) + 1 < big62; decide, by show -big62 < (0 : Int) + 0 ∧ (0 : Int) + 0 < big62; decide⟩
 obtain ⟨S3, nb3, c1, c2, c3, c4⟩ := make_file b2 hT2 0 1 [97] 1 420 [111, 108, 100] (by decide) (by decide) (make2_is nb nm nb2 nm2) (tab1_root nb nm nb2 nm2) (mq := nm) rfl rfl (by show -big62 < (2 : Int) ∧ (2 : Int) < big62; decide) (by decide)
 replace c1 : (ev E0 KD 6).f 8 [.ptr b 0, .int .i64 1, sv [97], .int .i64 1, .int .i64 420, sv [111, 108, 100]] S2 = some (.ret (.tuple [.int .i64 3, .int .i64 0]), S3) := c1
 replace c2 : TabAt S3 b r (tab2 nb nm nb2 nm2 nb3) := c2
 obtain ⟨S4, d1, d2, d3, d4⟩ := bsP_one c2.on 9 (one (sv [])) (oneV_sv [97])
 have h4 := c2.grewF d3
 have hNL : NL S4 S3.next (.slice S3.next 0 1 1) (nam (abc 1)) := NL.slice (l := [[97]]) d2 (by omega)
 have hx : ¬ Own b r (tab2 nb nm nb2 nm2 nb3) S3.next := fun e => by
  rcases e with e | e | ⟨p, hp, e | e⟩
  · have := c2.hb; omega
  · have := c2.hr; omega
  · have := c2.hn p hp; omega
  · have := c2.hm p hp _ e; omega
 obtain ⟨S5, T', x', v', e1, e2, e3, e4, e5⟩ := L320_spec 1 rounds (R3_36 (ev E0 KD 6) rounds (finN E0 (ev E0 KD 6) Try.f3) noEx) (exB 0 (R3_36 (ev E0 KD 6) rounds (finN E0 (ev E0 KD 6) Try.f3) noEx) noEx) n (sv (data.take 200)) v2 (n.toNat % 12) rounds 1 (by omega) (by omega) (by unfold rounds; omega) h4 (tab2_inv nb nm nb2 nm2 nb3) hNL hx
 obtain ⟨S6, f1⟩ := R36_spec e2 1 (finN E0 (ev E0 KD 6) Try.f3) noEx (n := n.toNat % 12) (Nat.mod_lt _ (by decide)) e3 (data := data.take 200) (by rw [List.length_take]; omega) h2 e4 e5
 refine ⟨S6, ?_⟩
 rw [F3_eq, build26, oB, show (ev E0 KD 6).f 7 [vAgg [.int .i64 10, .int .i64 300]] S = _ from a1, callP_ret, eq23p, oB, ifK_bool, cond_false, lnStr_sv, oB]
 dsimp only
 rw [foldK_min, show min (data.length : Int) 200 = ((min data.length 200 : Nat) : Int) by omega, oB]
 dsimp only
 rw [cutN, oB]
 dsimp only
 rw [b1, callP_ret, extr0, oB, extr1, oB, c1, callP_ret, extr0, oB, extr1, oB, neq27, beq_self_eq_true, Bool.not_true, oB]
 simp only [gFF, oB, cond_true, neq27, beq_self_eq_true, Bool.not_true, pickV_bool, cond_false]
 rw [ifK_bool, cond_false, d1, oB]
 dsimp only
 rw [show (V.int .i64 1) = .int .i64 ((1 : Nat) : Int) from rfl]
 refine e1.trans ?_
 rw [exB_same]
 exact f1
theorem law_run (n : UInt8) (data : List UInt8) {order : List UInt8} {v2 : V} (h2 : BytesV v2 order) (ho : S.on = false) : ∃ U, (ev E0 KD 7).f 3 [u8V n, sv data, v2] S = some (.ret (.bool true), U) := by
 obtain ⟨U, hU⟩ := F3_spec (S := S) n data h2 ho
 exact ⟨U, ev_read (c := C3) (d := B3) (by kernel_rfl) (by kernel_rfl) (annot_isOf C3 _ (by kernel_rfl)) (show KD 3 = none from rfl) hU⟩
theorem links_calls (W : World) (n : UInt8) (data : ByteArray) {v2 : V} {cv : Value} {order : List UInt8} (hv : VRel (frz W) v2 cv) (h : BytesV v2 order) : Calls Try.prog 3 #[.int .u8 (n.toNat : Int), .string data, cv] W fun e w' => e = .returned (.bool true) ∧ Below W.heap.size W w' := by
 obtain ⟨U, hl⟩ := law_run (S := s0) n data.data.toList h rfl
 refine ((ev_sim E0_ok okD 7).call (base0 W) _ s0 W 3 [u8V n, sv data.data.toList, v2] #[.int .u8 (n.toNat : Int), .string data, cv] _ U (relF W) (.cons (.int _ _) (.cons (.str data) (.cons hv .nil))) hl).mono fun ce w' hce => ?_
 obtain ⟨ρ', cv, rfl, _, hv, hR⟩ := hce
 cases hv
 exact ⟨rfl, below_of_rel hR⟩
end
end Go.Proofs.Ytbihlgcdnhoknaa.W
namespace Go.Proofs.Ytbihlgcdnhoknaa.W
open Go.Proofs.Ytbihlgcdnhoknaa.Ev
theorem u22 : Try.prog.underlying 22 = some (.slice 5) := by kernel_rfl
theorem u5 : Try.prog.underlying 5 = some (.int .u8) := by kernel_rfl
theorem c5 : Try.prog.cellsOf 5 = 1 := by kernel_rfl
theorem u8_byte {n : Int} (h : (Lit.int .u8 n).wf = true) : ∃ b : UInt8, n = (b.toNat : Int) := by
 unfold Lit.wf at h
 simp only [Bool.and_eq_true, decide_eq_true_eq] at h
 have e1 : IntKind.u8.min = 0 := by decide
 have e2 : IntKind.u8.max = 255 := by decide
 rw [e1, e2] at h
 refine ⟨UInt8.ofNat n.toNat, ?_⟩
 rw [UInt8.toNat_ofNat']
 omega
theorem mapM_range_some {α : Type} {f : Nat → Option α} : ∀ (n k : Nat) {r : List α}, ((List.range' k n).mapM f) = some r → r.length = n ∧ ∀ i, i < n → ∃ y, r[i]? = some y ∧ f (k + i) = some y
 | 0, k, r, h => by
  simp at h; subst h
  exact ⟨rfl, fun i hi => by omega⟩
 | n + 1, k, r, h => by
  rw [List.range'_succ, List.mapM_cons] at h
  simp only [Option.bind_eq_bind, oI, Option.pure_def, oS] at h
  obtain ⟨y, hy, r', hr', rfl⟩ := h
  obtain ⟨h1, h2⟩ := mapM_range_some n (k + 1) hr'
  refine ⟨by simp [h1], fun i hi => ?_⟩
  cases i with
  | zero => exact ⟨y, rfl, hy⟩
  | succ i =>
   obtain ⟨z, hz1, hz2⟩ := h2 i (by omega)
   exact ⟨z, by simpa using hz1, by rw [show k + (i + 1) = k + 1 + i by omega]; exact hz2⟩
theorem cells?_at {W : World} {a : Addr} {n : Nat} {cs : List Value} (h : W.cells? 0 a n = some cs) : cs.length = n ∧ ∀ i, i < n → ∃ y, cs[i]? = some y ∧ W.cell? (a.add i) = some y := by
 unfold World.cells? at h
 rw [if_pos (Nat.zero_le _), List.range_eq_range'] at h
 obtain ⟨h1, h2⟩ := mapM_range_some n 0 h
 exact ⟨h1, fun i hi => by
  obtain ⟨y, hy1, hy2⟩ := h2 i hi
  exact ⟨y, hy1, by rw [Nat.zero_add] at hy2; exact hy2⟩⟩
theorem add_eq {a : Addr} (h : a.spot = none) (n : Nat) : a.add n = ⟨a.block, a.off + n, none⟩ := by
 unfold Addr.add
 split
 · rename_i h0
   subst h0
   cases a
   simp only at h
   subst h
   rfl
 · rfl
theorem vrels_bytes {ρ : Rho} : ∀ l : List UInt8, VRels ρ (l.map u8V) (l.map fun c => Value.int .u8 (c.toNat : Int))
 | [] => .nil
 | _ :: l => .cons (.int _ _) (vrels_bytes l)
theorem flat_bytes (l : List UInt8) : ((l.map fun c => Value.int .u8 (c.toNat : Int)).flatMap fun cv => cv.cells.toList) = l.map fun c => Value.int .u8 (c.toNat : Int) := by
 induction l with
 | nil => rfl
 | cons c l ih => rw [List.map_cons, List.flatMap_cons, ih]; rfl
theorem pick_bytes {P : Nat → UInt8 → Prop} : ∀ (n : Nat), (∀ i, i < n → ∃ b, P i b) → ∃ l : List UInt8, l.length = n ∧ ∀ i b, l[i]? = some b → P i b
 | 0, _ => ⟨[], rfl, fun i b h => by simp at h⟩
 | n + 1, h => by
  obtain ⟨l, h1, h2⟩ := pick_bytes n fun i hi => h i (by omega)
  obtain ⟨b, hb⟩ := h n (by omega)
  refine ⟨l ++ [b], by simp [h1], fun i c hc => ?_⟩
  by_cases hi : i < n
  · rw [List.getElem?_append_left (by omega)] at hc
    exact h2 i c hc
  · have hi2 : i = n := by
     have := (List.getElem?_eq_some_iff.1 hc).1
     simp [h1] at this
     omega
    subst hi2
    rw [List.getElem?_append_right (by omega)] at hc
    simp [h1] at hc
    subst hc
    exact hb
theorem bytes_of_trod {H : Type} {enc : TypeId × Value → H} {W : World} {fuel : Nat} {cs : List Value} {x : DataW H × List MemPlace} (h : DataW.trod enc Try.prog W 0 (fun _ => true) true fuel 22 cs = some x) : ∃ (cv : Value) (v : V) (l : List UInt8), cs = [cv] ∧ VRel (frz W) v cv ∧ BytesV v l ∧ ∃ ad len cap, cv = .slice ad len cap := by
 rcases DataW.trod_slice u22 h with ⟨hv, _⟩ | ⟨a, len, cap, elems, rest, m, hm, hv, _, _, hcap, hmax, hel, hat, _⟩
 · exact ⟨_, .nilslice, [], hv, .nilslice, .inl ⟨rfl, .inl rfl⟩, _, _, _, rfl⟩
 · by_cases h0 : len = 0
   · subst h0
     exact ⟨_, .eslice, [], hv, .eslice a cap, .inl ⟨rfl, .inr rfl⟩, _, _, _, rfl⟩
   · have hAt : ∀ i, i < len → ∃ b : UInt8, W.cell? (a.add i) = some (.int .u8 (b.toNat : Int)) := fun i hi => by
      have := hat i hi
      rw [c5, List.getElem?_eq_getElem (by omega), oI] at this
      obtain ⟨cells, h1, h2⟩ := this
      obtain ⟨n, hn, _, hw⟩ := DataW.trod_int u5 h2
      obtain ⟨b, rfl⟩ := u8_byte hw
      obtain ⟨_, h3⟩ := cells?_at h1
      obtain ⟨y, hy1, hy2⟩ := h3 0 (by omega)
      rw [hn] at hy1
      simp only [List.getElem?_cons_zero, oS] at hy1
      subst hy1
      rw [Nat.mul_one, show (a.add i).add 0 = a.add i from rfl] at hy2
      exact ⟨b, hy2⟩
     obtain ⟨b0, hb0⟩ := hAt 0 (by omega)
     have hspot : a.spot = none ∧ ∃ bg ty fr, W.heap[a.block]? = some (.cells bg ty fr) := by
      rw [show a.add 0 = a from rfl] at hb0
      unfold World.cell? at hb0
      split at hb0
      · rename_i bg ty fr hh
        split at hb0
        · cases hb0
        · rename_i hsp
          exact ⟨by simpa using hsp, bg, ty, fr, hh⟩
      · cases hb0
     obtain ⟨hsp, bg, ty, fr, hheap⟩ := hspot
     obtain ⟨l, l1, l2⟩ := pick_bytes (P := fun i b => bg[a.off + i]? = some (.int .u8 (b.toNat : Int))) len fun i hi => by
      obtain ⟨b, hb⟩ := hAt i hi
      rw [add_eq hsp] at hb
      unfold World.cell? at hb
      simp only at hb
      rw [hheap] at hb
      exact ⟨b, hb⟩
     refine ⟨_, .list 1 (l.map u8V), l, hv, ?_, .inr rfl, _, _, _, rfl⟩
     refine .list (vrels_bytes l) (fun v hv => ?_) (by rw [List.length_map]; exact l1) hcap fun _ => ⟨fun cv hcv => ?_, hsp, bg, ty, fr, hheap, fun j c hj => ?_⟩
     · rw [List.mem_map] at hv
       obtain ⟨c, _, rfl⟩ := hv
       rfl
     · rw [List.mem_map] at hcv
       obtain ⟨c, _, rfl⟩ := hcv
       rfl
     · rw [flat_bytes, List.getElem?_map, Option.map_eq_some_iff] at hj
       obtain ⟨b, hb, rfl⟩ := hj
       exact l2 j b hb
end Go.Proofs.Ytbihlgcdnhoknaa.W
