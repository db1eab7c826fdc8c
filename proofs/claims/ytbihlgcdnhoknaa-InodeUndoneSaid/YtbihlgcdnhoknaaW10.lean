/-
  WHAT THE FUNCTIONS COME TO: each is read by the evaluator, printed, and told as a function of data, part 10 of 10 (no condition).
-/
import Derived.Test.YtbihlgcdnhoknaaW9
import Derived.Lib.SmallJoins
namespace Go.Proofs.Ytbihlgcdnhoknaa.W
open Go.Proofs.Ytbihlgcdnhoknaa.Ev Go.RowKit
set_option maxRecDepth 100000
abbrev Ents := List (List UInt8 × Int)
def fresh : List UInt8 := [102, 114, 101, 115, 104]
def other : List UInt8 := [111, 116, 104, 101, 114]
theorem qhj : eNamed fresh = 0 := by decide
theorem other_named : eNamed other = 0 := by decide
theorem qda {a : List UInt8} (ha : a.length ≠ 1) : ∀ {kv : Ents}, (∀ e ∈ kv, Lt e.1) → lkS a kv = none
 | [], _ => rfl
 | p :: kv, h => by
  unfold lkS
  rw [if_neg (fun e => by
   obtain ⟨c, hc, _⟩ := h p (List.mem_cons_self ..)
   rw [e, hc] at ha
   exact ha rfl)]
  exact qda ha fun e he => h e (List.mem_cons_of_mem _ he)
theorem qdn {a c : List UInt8} {v : Int} : ∀ {kv : Ents}, lkS a kv = none → lkS a (kv ++ [(c, v)]) = if a = c then some v else none
 | [], _ => rfl
 | p :: kv, h => by
  unfold lkS at h
  by_cases hc : a = p.1
  · rw [if_pos hc] at h; cases h
  · rw [if_neg hc] at h
    rw [List.cons_append]
    unfold lkS
    rw [if_neg hc, qdn h]
theorem qdy {a : List UInt8} {v : Int} : ∀ {kv : Ents}, lkS a kv = none → dropKS a (kv ++ [(a, v)]) = kv
 | [], _ => by show (if a = a then [] else _) = _; rw [if_pos rfl]
 | p :: kv, h => by
  unfold lkS at h
  by_cases hc : a = p.1
  · rw [if_pos hc] at h; cases h
  · rw [if_neg hc] at h
    rw [List.cons_append]
    unfold dropKS
    rw [if_neg hc, qdy h]
def Dir (T : Tab) (d : Int) (E : Ents) : Prop := ∃ p, T.get d = some p ∧ p.ino.kind = 2 ∧ p.ino.ents = E
def Fil (T : Tab) (n : Int) (data : List UInt8) : Prop := ∃ q, T.get n = some q ∧ q.ino.kind = 1 ∧ q.ino.links = 1 ∧ q.ino.ents = [] ∧ q.ino.data = data
theorem Dir.uniq {T : Tab} {d : Int} {E E' : Ents} (h : Dir T d E) (h' : Dir T d E') : E = E' := by
 obtain ⟨p, h1, _, h2⟩ := h
 obtain ⟨p', k1, _, k2⟩ := h'
 rw [h1] at k1; cases k1
 rw [← h2, k2]
section
variable {T : Tab} {B : Nat}
theorem mv_zero (hs : Sd T B) {f t n : Int} {a c : List UInt8} {xf xt : Ents} {data : List UInt8} (hf : Dir T f xf) (ht : Dir T t xt) (hfil : Fil T n data) (hl : lkS a xf = some n) (hc : lkS c xt = none) (hcn : eNamed c = 0) (hac : a ≠ c) : eMv T f a t c = 0 := by
 obtain ⟨p, hp, hpk, rfl⟩ := hf
 obtain ⟨pt, hpt, hptk, rfl⟩ := ht
 obtain ⟨q, hq, hqk, _⟩ := hfil
 have hfind : T.find f a = some n := by unfold Tab.find; rw [hp]; exact hl
 have e1 : eMove T f a t c = 0 := by
  unfold eMove
  rw [eDir_of hp hpk, eDir_of hpt hptk, hcn, show eEntry T f a = 0 from by unfold eEntry; rw [hfind]; rfl]
  rfl
 unfold eMv
 rw [if_pos ⟨e1, fun h => hac h.2⟩, hfind, show (some n).getD 0 = n from rfl]
 unfold eMove2
 obtain ⟨m, _, hup⟩ := hs.chn t pt hpt hptk
 have e2 : eFree T t c = 0 := by
  unfold eFree Tab.find
  rw [hpt, oB, hc]; rfl
 have e3 : eApart T t n = 0 := by
  unfold eApart
  rw [if_pos ⟨m, UpA.of_file hq (by omega) hup⟩]
 rw [e2, e3]; rfl
theorem mv_is (hs : Sd T B) {f t n : Int} {a c : List UInt8} {xf xt : Ents} {data : List UInt8} (hf : Dir T f xf) (ht : Dir T t xt) (hfil : Fil T n data) (hl : lkS a xf = some n) (hac : a ≠ c) {T' : Tab} (hm : Moves T f a t c T') :
 Sd T' (2 * B + 1) ∧ T'.qi = T.qi ∧ T'.qb = T.qb ∧ T'.ui = T.ui ∧ T'.ub = T.ub ∧ T'.last = T.last ∧ Fil T' n data ∧
  Dir T' f (if f = t then setKS c n (dropKS a xf) else dropKS a xf) ∧ Dir T' t (if f = t then setKS c n (dropKS a xf) else setKS c n xt) := by
 refine ⟨hm.sd hs, hm.q.1, hm.q.2.1, hm.q.2.2.1, hm.q.2.2.2.1, hm.q.2.2.2.2, ?_⟩
 cases hm with
 | same _ h => exact absurd h hac
 | @go i p pt q h1 h2 h3 h4 h5 h6 h7 h8 =>
  obtain ⟨p', hp, hpk, rfl⟩ := hf
  rw [h2] at hp; cases hp
  rw [h3] at hl; cases hl
  obtain ⟨q', hq, hqk, hq1, hq2, hq3⟩ := hfil
  rw [h7] at hq; cases hq
  obtain ⟨x, hx, hxk, rfl⟩ := ht
  have hkk : ¬ q.ino.kind = 2 := by omega
  have hif : n ≠ f := fun e => by
   rw [e, h2] at h7; cases h7
   omega
  have hit : n ≠ t := fun e => by
   rw [e, hx] at h7; cases h7
   omega
  have hpt : pt = if t = f then { x with ino := setE (dropKS a p.ino.ents) x.ino } else x := by
   rw [qaj, hx] at h4
   exact (Option.some.inj h4).symm
  unfold moved
  rw [if_neg hkk]
  refine ⟨⟨q, by rw [qa6 hit, qa6 hif]; exact h7, hqk, hq1, hq2, hq3⟩, ?_, ?_⟩
  · by_cases hft : f = t
    · subst hft
      rw [if_pos rfl]
      rw [if_pos rfl] at hpt
      rw [h2] at hx; cases hx
      exact ⟨_, qah h4, by rw [hpt]; exact hpk, by rw [hpt]; rfl⟩
    · rw [if_neg hft]
      exact ⟨_, (qa6 hft).trans (qah h2), hpk, rfl⟩
  · by_cases hft : f = t
    · subst hft
      rw [if_pos rfl]
      rw [if_pos rfl] at hpt
      rw [h2] at hx; cases hx
      exact ⟨_, qah h4, by rw [hpt]; exact hpk, by rw [hpt]; rfl⟩
    · rw [if_neg hft]
      rw [if_neg (fun e => hft e.symm)] at hpt
      exact ⟨_, qah h4, h5, by rw [hpt]; rfl⟩
theorem made_is (ok : Sd T B) {d : Int} {E R : Ents} (hd : Dir T d E) (hr : Dir T 1 R) (hf : lkS fresh E = none) {data : List UInt8} {nb : Nat} {pd : Nod} (hpd : T.get d = some pd) {T1 : Tab} (hT1 : T1 = tabMade { T with last := T.last + 1 } ⟨T.last + 1, nb, newIno 1 420 data 0 none⟩ d (setKS fresh (T.last + 1) pd.ino.ents) data.length) :
 Sd T1 (B + 1) ∧ T1.qi = T.qi ∧ T1.qb = T.qb ∧ T1.ui = T.ui + 1 ∧ T1.ub = T.ub + data.length ∧ T1.last = T.last + 1 ∧ Fil T1 (T.last + 1) data ∧ Dir T1 d (E ++ [(fresh, T.last + 1)]) ∧ Dir T1 1 (if d = 1 then E ++ [(fresh, T.last + 1)] else R) := by
 obtain ⟨p, hp, hpk, rfl⟩ := hd
 rw [hpd] at hp; cases hp
 have s1 : Sd { T with last := T.last + 1 } B := ok.nums rfl (by show T.last ≤ T.last + 1; omega)
 have hnew : ∀ i q, ({ T with last := T.last + 1 } : Tab).get i = some q → i < (⟨T.last + 1, nb, newIno 1 420 data 0 none⟩ : Nod).no := fun i q hq => by
  have := (ok.lo i q hq).2
  show i < T.last + 1
  omega
 have hpd' : ({ T with last := T.last + 1 } : Tab).get d = some pd := hpd
 have hg := fun j => get_made hnew hpd' (setKS fresh (T.last + 1) pd.ino.ents) data.length j
 have hd1 := ok.lo d pd hpd
 subst hT1
 refine ⟨s1.made (p := ⟨T.last + 1, nb, newIno 1 420 data 0 none⟩) rfl hnew hpd' hpk hf rfl rfl (fun e => (by cases e)) (fun _ => rfl) data.length, rfl, rfl, rfl, rfl, rfl, ?_, ?_, ?_⟩
 · refine ⟨⟨T.last + 1, nb, newIno 1 420 data 0 none⟩, ?_, rfl, rfl, rfl, rfl⟩
   rw [hg, if_neg (by omega), if_pos rfl]
 · exact ⟨_, (hg d).trans (if_pos rfl), hpk, qb5 _ _ _ hf⟩
 · by_cases h1 : d = 1
   · rw [if_pos h1]
     subst h1
     exact ⟨_, (hg 1).trans (if_pos rfl), hpk, qb5 _ _ _ hf⟩
   · rw [if_neg h1]
     obtain ⟨pr, hpr, hprk, rfl⟩ := hr
     refine ⟨pr, ?_, hprk, rfl⟩
     have := ok.lo 1 pr hpr
     rw [hg, if_neg (fun e => h1 e.symm), if_neg (by show ¬ (1 : Int) = T.last + 1; omega)]
     exact hpr
theorem gone_is (ok : Sd T B) {d n : Int} {E : Ents} {data : List UInt8} (hd : Dir T d (E ++ [(fresh, n)])) (hf : lkS fresh E = none) {pd q : Nod} (hpd : T.get d = some pd) (hq : T.get n = some q) (hqe : q.ino.ents = []) (hq1 : q.ino.links = 1) (hqd : q.ino.data = data) {T4 : Tab}
 (hT4 : T4 = { ((T.upd d (setE (dropKS fresh pd.ino.ents))).upd n (addL (-1))).del n with ui := T.ui - 1, ub := T.ub - (q.ino.data.length : Int) }) :
 Sd T4 B ∧ T4.qi = T.qi ∧ T4.qb = T.qb ∧ T4.ui = T.ui - 1 ∧ T4.ub = T.ub - data.length ∧ T4.last = T.last ∧ T4.get n = none ∧ Dir T4 d E := by
 obtain ⟨p, hp, hpk, hpe⟩ := hd
 rw [hpd] at hp; cases hp
 have hl : lkS fresh pd.ino.ents = some n := by rw [hpe, qdn hf, if_pos rfl]
 have hs := ok.last hpd hq hqe hq1 hl
 have hdn : d ≠ n := fun e => by
  subst e
  rw [hpd] at hq; cases hq
  rw [hqe] at hl; cases hl
 have key2 : (((T.upd d (setE (dropKS fresh pd.ino.ents))).upd n (addL (-1))).nodes.map (·.no)).Nodup := by
  show ((updN n (addL (-1)) (updN d (setE (dropKS fresh pd.ino.ents)) T.nodes)).map (·.no)).Nodup
  rw [qay, qay]; exact ok.key
 subst hT4
 refine ⟨hs.nums rfl (Int.le_refl _), rfl, rfl, rfl, by rw [hqd], rfl, qc8 key2, ?_⟩
 refine ⟨{ pd with ino := setE (dropKS fresh pd.ino.ents) pd.ino }, ?_, hpk, ?_⟩
 · show getN d (delN n (updN n (addL (-1)) (updN d (setE (dropKS fresh pd.ino.ents)) T.nodes))) = _
   rw [qby hdn]
   show ((T.upd d (setE (dropKS fresh pd.ino.ents))).upd n (addL (-1))).get d = _
   rw [qa6 hdn, qah hpd]
 · show dropKS fresh pd.ino.ents = E
   rw [hpe, qdy hf]
end
end Go.Proofs.Ytbihlgcdnhoknaa.W
namespace Go.Proofs.Ytbihlgcdnhoknaa.W
open Go.Proofs.Ytbihlgcdnhoknaa.Ev Go.RowKit
set_option maxRecDepth 100000
noncomputable def ud4 (self : EV) (v7 x1 n : V) (S246 : St) : Rs :=
callP (self.f 12 [v7, n] S246) fun t250 S250 =>
(extractV t250 0).bind fun t252 =>
(extractV t250 1).bind fun t253 =>
(some (nwP 35 4 (Tr.ofListFrom .nil [(.int .i64 0), (.int .i64 0), (sv []), (.int .i64 0)] 0) S250)).bind fun p254 =>
(stP 4 p254.1 t252 p254.2).bind fun p255 =>
callP (self.f 8 [v7, x1, (sv [102, 114, 101, 115, 104]), (.int .i64 2), (.int .i64 493), (sv [])] p255.2) fun t259 S259 =>
(extractV t259 0).bind fun t261 =>
(extractV t259 1).bind fun t262 =>
(unV .not t253).bind fun t266 =>
(guardV true t266).bind fun g268 => (bif g268 then some t262 else some (.tuple [])).bind fun t268 =>
(guardV true t266).bind fun g269 => (bif g269 then binV E0 .eql 27 false true t268 (.int .i64 0) else some (.tuple [])).bind fun t269 =>
(pickV t266 (some t269) (some (.bool false))).bind fun t270 =>
(guardV true t270).bind fun g272 => (bif g272 then some t261 else some (.tuple [])).bind fun t272 =>
(guardV true t270).bind fun g273 => (bif g273 then some n else some (.tuple [])).bind fun t273 =>
(guardV true t270).bind fun g274 => (bif g274 then binV E0 .gtr 3 false false t272 t273 else some (.tuple [])).bind fun t274 =>
(pickV t270 (some t274) (some (.bool false))).bind fun t275 =>
(guardV true t275).bind fun g277 => callP (bif g277 then self.f 15 [] S259 else some (.ret (.tuple []), S259)) fun t277 S277 =>
(pickV t275 (some t277) (some (.bool false))).bind fun t278 =>
some (.ret t278, S277)
noncomputable def ud3 (self : EV) (v7 x1 n l q : V) (S207 : St) : Rs :=
callP (self.f 13 [v7, x1, (sv [102, 114, 101, 115, 104])] S207) fun t213 S213 =>
(extractV t213 0).bind fun t215 =>
(extractV t213 1).bind fun t216 =>
(unV .not t216).bind fun t220 =>
(guardV false t220).bind fun g222 => (bif g222 then some t215 else some (.tuple [])).bind fun t222 =>
(guardV false t220).bind fun g223 => (bif g223 then some n else some (.tuple [])).bind fun t223 =>
(guardV false t220).bind fun g224 => (bif g224 then binV E0 .neq 3 false false t222 t223 else some (.tuple [])).bind fun t224 =>
(pickV t220 (some (.bool true)) (some t224)).bind fun t225 =>
(guardV false t225).bind fun g227 => (bif g227 then some v7 else some (.tuple [])).bind fun t227 =>
(guardV false t225).bind fun g228 => (bif g228 then some x1 else some (.tuple [])).bind fun t228 =>
(guardV false t225).bind fun g229 => callD (planOf E0 (B4.r.r.r.r.l.r.r.l.r.r.r.r.r.l.r.l).ops) S213 10 [[], [], [], [], [], [], [], [], [], []] (bif g229 then self.f 14 [t227, t228, (sv [102, 114, 101, 115, 104])] (onS S213) else some (.ret (.tuple []), (onS S213))) fun t229 S229 =>
(guardV false t225).bind fun g230 => (bif g230 then binV E0 .neq 27 false true t229 (.int .i64 0) else some (.tuple [])).bind fun t230 =>
(pickV t225 (some (.bool true)) (some t230)).bind fun t231 =>
(guardV false t231).bind fun g233 => (bif g233 then some v7 else some (.tuple [])).bind fun t233 =>
(guardV false t231).bind fun g234 => callD (planOf E0 (B4.r.r.r.r.l.r.r.l.r.r.r.r.r.l.r.l).ops) S213 15 [[], [], [], [], [], [], [], [], [], [], S229.log, [], [], [], []] (bif g234 then self.f 11 [t233] (onS S229) else some (.ret (.tuple []), (onS S229))) fun t234 S234 =>
(guardV false t231).bind fun g235 => (bif g235 then ldA 2 q (onS S234) else some (.tuple [], (onS S234))).bind fun p235 =>
(guardV false t231).bind fun g236 => (bif g236 then binV E0 .neq 26 false false t234 p235.1 else some (.tuple [])).bind fun t236 =>
(pickV t231 (some (.bool true)) (some t236)).bind fun t237 =>
(guardV false t237).bind fun g239 => (bif g239 then some v7 else some (.tuple [])).bind fun t239 =>
(guardV false t237).bind fun g240 => (bif g240 then some x1 else some (.tuple [])).bind fun t240 =>
(guardV false t237).bind fun g241 => callD (planOf E0 (B4.r.r.r.r.l.r.r.l.r.r.r.r.r.l.r.l).ops) S213 22 [[], [], [], [], [], [], [], [], [], [], S229.log, [], [], [], [], S234.log, p235.2.log, [], [], [], [], []] (bif g241 then self.f 18 [t239, t240] (onS p235.2) else some (.ret (.tuple []), (onS p235.2))) fun t241 S241 =>
(guardV false t237).bind fun g242 => (bif g242 then lnS t241 (onS S241) else some (.tuple [], (onS S241))).bind fun p242 =>
(guardV false t237).bind fun g243 => (bif g243 then some l else some (.tuple [])).bind fun t243 =>
(guardV false t237).bind fun g244 => (bif g244 then binV E0 .neq 3 false false p242.1 t243 else some (.tuple [])).bind fun t244 =>
(pickV t237 (some (.bool true)) (some t244)).bind fun t245 =>
endP [(15, [16])] S213 [[], [], [], [], [], [], [], [], [], [], S229.log, [], [], [], [], S234.log, p235.2.log, [], [], [], [], [], S241.log, p242.2.log, [], [], []] (onS p242.2) fun S246 =>
ifK t245 (
some (.ret (.bool false), S246)) (ud4 self v7 x1 n S246)
noncomputable def ud2 (self : EV) (v7 x1 n l q : V) (S198 : St) : Rs :=
callP (self.f 19 [v7, x1, (sv [102, 114, 101, 115, 104]), (.int .i64 1), (sv [111, 116, 104, 101, 114])] S198) fun t202 S202 =>
(binV E0 .neq 27 false true t202 (.int .i64 0)).bind fun t203 =>
(guardV false t203).bind fun g205 => (bif g205 then some v7 else some (.tuple [])).bind fun t205 =>
(guardV false t203).bind fun g206 => (bif g206 then some x1 else some (.tuple [])).bind fun t206 =>
(guardV false t203).bind fun g207 => callP (bif g207 then self.f 19 [t205, (.int .i64 1), (sv [111, 116, 104, 101, 114]), t206, (sv [102, 114, 101, 115, 104])] S202 else some (.ret (.tuple []), S202)) fun t207 S207 =>
(guardV false t203).bind fun g208 => (bif g208 then binV E0 .neq 27 false true t207 (.int .i64 0) else some (.tuple [])).bind fun t208 =>
(pickV t203 (some (.bool true)) (some t208)).bind fun t209 =>
ifK t209 (
some (.ret (.bool false), S207)) (ud3 self v7 x1 n l q S207)
noncomputable def ud1 (self : EV) (v2 v7 x1 : V) (S15 : St) : Rs :=
(lnStr v2 S15).bind fun p151 =>
(foldK minV p151.1 [(.int .i64 200)] p151.2).bind fun p152 =>
(sliceV E0 9 v2 none (some p152.1) none p152.2).bind fun p153 =>
callP (self.f 11 [v7] p153.2) fun t156 S156 =>
callP (self.f 18 [v7, x1] S156) fun t159 S159 =>
(lnS t159 S159).bind fun p160 =>
(some (nwP 26 2 (Tr.ofListFrom .nil [(.int .i64 0), (.int .i64 0)] 0) p160.2)).bind fun p161 =>
(stP 2 p161.1 t156 p161.2).bind fun p162 =>
callP (self.f 8 [v7, x1, (sv [102, 114, 101, 115, 104]), (.int .i64 1), (.int .i64 420), p153.1] p162.2) fun t167 S167 =>
(extractV t167 0).bind fun t169 =>
(extractV t167 1).bind fun t170 =>
(binV E0 .neq 27 false true t170 (.int .i64 0)).bind fun t174 =>
(guardV false t174).bind fun g176 => (bif g176 then some v7 else some (.tuple [])).bind fun t176 =>
(guardV false t174).bind fun g177 => callD (planOf E0 (B4.r.r.r.r.l.r.r.l.r.r.r.l.l).ops) S167 4 [[], [], [], []] (bif g177 then self.f 11 [t176] (onS S167) else some (.ret (.tuple []), (onS S167))) fun t177 S177 =>
(guardV false t174).bind fun g178 => (bif g178 then faP 0 false 1 p161.1 else some (.tuple [])).bind fun t178 =>
(guardV false t174).bind fun g179 => (bif g179 then ld1 t178 (onS S177) else some (.tuple [], (onS S177))).bind fun p179 =>
(guardV false t174).bind fun g180 => (bif g180 then binV E0 .add 3 false true p179.1 (.int .i64 1) else some (.tuple [])).bind fun t180 =>
(guardV false t174).bind fun g181 => (bif g181 then faP 1 false 1 p161.1 else some (.tuple [])).bind fun t181 =>
(guardV false t174).bind fun g182 => (bif g182 then ld1 t181 (onS p179.2) else some (.tuple [], (onS p179.2))).bind fun p182 =>
(guardV false t174).bind fun g183 => (bif g183 then some p153.1 else some (.tuple [])).bind fun t183 =>
(guardV false t174).bind fun g184 => (bif g184 then lnStr t183 (onS p182.2) else some (.tuple [], (onS p182.2))).bind fun p184 =>
(guardV false t174).bind fun g185 => (bif g185 then binV E0 .add 3 false false p182.1 p184.1 else some (.tuple [])).bind fun t185 =>
(guardV false t174).bind fun g186 => (bif g186 then buildV E0 26 [(0, t180), (1, t185)] else some (.tuple [])).bind fun t186 =>
(guardV false t174).bind fun g187 => (bif g187 then binV E0 .neq 26 false false t177 t186 else some (.tuple [])).bind fun t187 =>
(pickV t174 (some (.bool true)) (some t187)).bind fun t188 =>
(guardV false t188).bind fun g190 => (bif g190 then some v7 else some (.tuple [])).bind fun t190 =>
(guardV false t188).bind fun g191 => (bif g191 then some x1 else some (.tuple [])).bind fun t191 =>
(guardV false t188).bind fun g192 => callD (planOf E0 (B4.r.r.r.r.l.r.r.l.r.r.r.l.l).ops) S167 19 [[], [], [], [], S177.log, [], p179.2.log, [], [], p182.2.log, [], p184.2.log, [], [], [], [], [], [], []] (bif g192 then self.f 18 [t190, t191] (onS p184.2) else some (.ret (.tuple []), (onS p184.2))) fun t192 S192 =>
(guardV false t188).bind fun g193 => (bif g193 then lnS t192 (onS S192) else some (.tuple [], (onS S192))).bind fun p193 =>
(guardV false t188).bind fun g194 => (bif g194 then some p160.1 else some (.tuple [])).bind fun t194 =>
(guardV false t188).bind fun g195 => (bif g195 then binV E0 .add 3 false true t194 (.int .i64 1) else some (.tuple [])).bind fun t195 =>
(guardV false t188).bind fun g196 => (bif g196 then binV E0 .neq 3 false false p193.1 t195 else some (.tuple [])).bind fun t196 =>
(pickV t188 (some (.bool true)) (some t196)).bind fun t197 =>
endP [(4, [6, 9, 11]), (6, [9, 11]), (9, [11])] S167 [[], [], [], [], S177.log, [], p179.2.log, [], [], p182.2.log, [], p184.2.log, [], [], [], [], [], [], [], S192.log, p193.2.log, [], [], [], []] (onS p193.2) fun S198 =>
ifK t197 (
some (.ret (.bool false), S198)) (ud2 self v7 x1 t169 p160.1 p161.1 S198)
theorem R4_7_cut (self : EV) (N : Nat) (nk : Ac → St → Rs) (ek : Nat → Ac → St → Rs) ( v1 v2 v7 : V) (S : St) : R4_7 self N nk ek (fr 159 [(1, v1), (2, v2), (7, v7)]) S =
(binV E0 .rem 5 false true v1 (.int .u8 12)).bind fun t9 =>
(cvI .i64 t9 S).bind fun p10 =>
(binV E0 .add 3 true false (.int .i64 1) p10.1).bind fun t11 =>
callP (self.f 17 [v7, t11] p10.2) fun t15 S15 =>
(binV E0 .eql 3 false true t15 (.int .i64 0)).bind fun t16 =>
ifK t16 (
ud1 self v2 v7 (.int .i64 1) S15) (
ud1 self v2 v7 t11 S15) := R4_7_eq self N nk ek v1 v2 v7 S
theorem rd4 {n : Nat} {args : List V} {s : St} {r : En × St} (e : runF E0 (ev E0 KD n) rounds Try.f4 B4 args s = some r) : (ev E0 KD (n + 1)).f 4 args s = some r := qaa (c := C4) (d := B4) (by kernel_rfl) (by kernel_rfl) (qa2 C4 _ (by kernel_rfl)) rfl e
section
variable {F : Fz.Fz}
theorem kfSorted_fz (kfs : List FuncId) (et : TypeId) (args : List V) : Fz.LocP F fun s => (kfSorted kfs et).run args s := by
 unfold kfSorted
 dsimp only
 split
 · refine Fz.Loc.cond ?_ Fz.Loc.none
   refine Fz.Loc.bind (Fz.loc_ld _ _) fun m => ?_
   unfold sortedK
   cases m <;> try exact Fz.Loc.none
   case nilmap => exact Fz.LocP.ret _
   case map r =>
    refine Fz.Loc.bindGet r (fun _ _ _ _ _ _ => rfl) fun hb o => ?_
    cases o <;> try exact Fz.Loc.none
    refine Fz.Loc.opt fun l => ?_
    cases l with
    | nil => exact Fz.LocP.ret _
    | cons x l => exact Fz.LocP.nw (fun k => En.ret (V.oslice k 0 (l.length + 1) 1)) fun _ => _
 · exact Fz.Loc.none
theorem fzD : Fz.KnLoc F KD := (((((Fz.knLoc_nil).add 38 fun _ => kfSorted_fz _ _ _).add 15 fun _ => Fz.specKF_fz _).add 24 fun _ => Fz.specKF_fz _).add 82 fun _ => Fz.specKF_fz _).add 59 fun _ => Fz.specKF_fz _
end
section
variable {S U : St} {b r : Nat} {T : Tab}
noncomputable def icy (S : St) (b e z n : Nat) (c : Tr (Tr V)) : St := S.put b (.cells e z n true c)
theorem icy_same {b e z n : Nat} {c : Tr (Tr V)} (h : S.heap.get b = some (.cells e z n false c)) (hb : b < S.next) : Fz.Same ⟨b, e, z, n, c⟩ (icy S b e z n c) S :=
 ⟨rfl, fun x hx => by show S.heap.get x = (S.put b _).heap.get x; rw [qau, if_neg hx], by show (S.put b _).heap.get b = _; rw [qau, if_pos rfl], h, hb⟩
theorem TabAt.icy (h : TabAt S b r T) {x e z n : Nat} {c : Tr (Tr V)} (hx : ¬ Own b r T x) : TabAt (icy S x e z n c) b r T :=
 h.grew (qal (s := S) x _) fun y hy => by
  subst hy
  exact ⟨fun e => hx (.inl e), fun e => hx (.inr (.inl e)), fun p hp => ⟨fun e => hx (.inr (.inr ⟨p, hp, .inl e⟩)), fun e => hx (.inr (.inr ⟨p, hp, .inr e⟩))⟩⟩
theorem used_on (h : TabAt S b r T) (m : Nat) {x e : Nat} {l : List V} (hx : ¬ Own b r T x) (hb : Bx S x e l) (hlt : x < S.next) : ∃ U L, (ev E0 KD (m + 1)).f 11 [.ptr b 0] (onS S) = some (.ret (vAgg [.int .i64 T.ui, .int .i64 T.ub]), U.lg L) ∧ TabAt U b r T ∧ Grew (fun _ => False) S U ∧ ∀ e ∈ L, e.w = false ∨ e.b ≠ x := by
 obtain ⟨U, h1, h2, h3⟩ := used_run h m
 have hc : S.heap.get x = some (.cells e l.length 1 false (Tr.ofListFrom .nil [Tr.ofListFrom .nil l 0] 0)) := hb
 obtain ⟨U', k1, _, _⟩ := used_run (h.icy (e := e) (z := l.length) (n := 1) (c := Tr.ofListFrom .nil [Tr.ofListFrom .nil l 0] 0) hx) m
 obtain ⟨L, q1, q2⟩ := Fz.ev_log fzD lgD (icy_same hc hlt) k1 h1
 exact ⟨U, L, q1, h2, h3, q2⟩
theorem names_len {d : Int} {E : Ents} (h : Dir T d E) : (T.names d).length = E.length := by
 obtain ⟨p, hp, _, rfl⟩ := h
 unfold Tab.names
 rw [hp]
 show (sortB _).length = _
 rw [(qe6 _).length_eq, List.length_map]
theorem names_at (h : TabAt S b r T) {B : Nat} (hs : Sd T B) (m : Nat) {d : Int} {E : Ents} (hd : Dir T d E) (hE : ∀ e ∈ E, e.1.length ≤ 5) (hl : E.length ≤ 100) :
 ∃ v U, (ev E0 KD (m + 2)).f 18 [.ptr b 0, .int .i64 d] S = some (.ret v, U) ∧ (∀ W, lnS v W = some (.int .i64 (E.length : Int), W)) ∧ Grew (fun _ => False) S U := by
 have hlen := names_len hd
 obtain ⟨p, hp, _, rfl⟩ := hd
 obtain ⟨v, U, h1, h2, h3⟩ := names_run h m d fun p' hp' => by
  rw [hp] at hp'; cases hp'
  exact ⟨hs.nod d p hp, fun e he => by have := hE e he; omega, by omega⟩
 exact ⟨v, U, h1, fun W => by rw [h2.len W, hlen], h3⟩
end
end Go.Proofs.Ytbihlgcdnhoknaa.W
namespace Go.Proofs.Ytbihlgcdnhoknaa.W
open Go.Proofs.Ytbihlgcdnhoknaa.Ev Go.RowKit
set_option maxRecDepth 100000
section
variable {S U : St} {b r : Nat} {T : Tab} {B : Nat}
theorem sd_new (hs : Sd T B) : T.get (T.last + 1) = none := by
 cases hg : T.get (T.last + 1) with
 | none => rfl
 | some q =>
  have := (hs.lo _ q hg).2
  omega
theorem eMake_zero {d : Int} {E : Ents} (hd : Dir T d E) (hE : lkS fresh E = none) {kind mode : Int} {data : List UInt8} (hl : eLike kind mode data = 0) (h1 : T.ui + 1 ≤ T.qi) (h2 : T.ub + data.length ≤ T.qb) : eMake T d fresh kind mode data = 0 := by
 obtain ⟨p, hp, hpk, rfl⟩ := hd
 unfold eMake
 rw [eDir_of hp hpk, qhj, hl]
 have e1 : eFree T d fresh = 0 := by
  unfold eFree Tab.find
  rw [hp, oB, hE]; rfl
 have e2 : eRoom T 1 data.length = 0 := by
  unfold eRoom
  rw [if_pos ⟨h1, h2⟩]
 rw [e1, e2]; rfl
theorem gtrI (t : TypeId) (c d : Bool) (x y : Int) : binV E0 .gtr t c d (.int .i64 x) (.int .i64 y) = some (.bool (decide (y < x))) := by rw [binV_ii, intsV_gtr]
theorem ud4_run (h : TabAt S b r T) (hs : Sd T B) (m : Nat) {d n : Int} {E : Ents} (hd : Dir T d E) (hE : lkS fresh E = none) (hn : T.get n = none) (hnl : n ≤ T.last) (hl : 0 ≤ T.last ∧ T.last ≤ 1000) (hui : 0 ≤ T.ui ∧ T.ui ≤ 1000) (hub : 0 ≤ T.ub ∧ T.ub ≤ 100000) (h1 : T.ui + 1 ≤ T.qi) (h2 : T.ub ≤ T.qb) :
 ∃ U, ud4 (ev E0 KD (m + 6)) (.ptr b 0) (.int .i64 d) (.int .i64 n) S = some (.ret (.bool true), U) := by
 obtain ⟨U1, u1, u2, u3⟩ := node_none h (m + 4) n hn
 obtain ⟨U2, w1, w2, w3, w4⟩ := agg4 U1 u2.on (.int .i64 0) (.int .i64 0) (sv []) (.int .i64 0)
 have t2 := u2.grewF w3
 have hF : Fits T := ⟨by unfold big62; omega, by unfold big62; omega⟩
 have hd' := hd
 obtain ⟨p, hp, hpk, _⟩ := hd'
 obtain ⟨mp, hm⟩ := qdi hs hp hpk
 obtain ⟨U3, nb, nm, z1, _⟩ := make_dir t2 hF m d fresh 493 [] (by decide) (by decide) (eMake_zero hd hE rfl h1 (by show T.ub + 0 ≤ T.qb; omega)) hp hm (sd_new hs) (by unfold big62; omega)
 refine ⟨U3, ?_⟩
 unfold ud4
 rw [show (ev E0 KD (m + 6)).f 12 [.ptr b 0, .int .i64 n] S = _ from u1, callP_ret, qfq, oB, qfr, oB, oB, qek, w1, oB]
 dsimp only
 rw [show (ev E0 KD (m + 6)).f 8 [.ptr b 0, .int .i64 d, sv [102, 114, 101, 115, 104], .int .i64 2, .int .i64 493, sv []] U2 = _ from z1, callP_ret, qfq, oB, qfr, oB]
 have hgt : decide (n < T.last + 1) = true := decide_eq_true (by omega)
 simp only [notV, Bool.not_false, gTT, oB, cond_true, pickV_bool, qey, decide_true, gtrI, hgt]
 rw [works_known, callP_ret]
theorem ud3_run (h : TabAt S b r T) (hs : Sd T B) (m : Nat) {d n : Int} {E : Ents} {data : List UInt8} (hd : Dir T d (E ++ [(fresh, n)])) (hE : ∀ e ∈ E, Lt e.1) (hEl : E.length ≤ 99) (hfil : Fil T n data) (hdata : data.length ≤ 200)
 (hn1 : n = T.last) (hl : 0 ≤ T.last ∧ T.last ≤ 1000) (hui : 1 ≤ T.ui ∧ T.ui ≤ 1000) (hub : (data.length : Int) ≤ T.ub ∧ T.ub ≤ 100000) (h1 : T.ui ≤ T.qi) (h2 : T.ub ≤ T.qb) {q : Nat} (hq : ¬ Own b r T q) (hqlt : q < S.next) (hqb : Bx S q 26 [.int .i64 (T.ui - 1), .int .i64 (T.ub - data.length)]) :
 ∃ U, ud3 (ev E0 KD (m + 6)) (.ptr b 0) (.int .i64 d) (.int .i64 n) (.int .i64 (E.length : Int)) (.ptr q 0) S = some (.ret (.bool true), U) := by
 have hlf : lkS fresh E = none := qda (by decide) hE
 have hF : Fits T := ⟨by unfold big62; omega, by unfold big62; omega⟩
 have hd' := hd
 obtain ⟨pd, hpd, hpdk, hpde⟩ := hd'
 obtain ⟨mp, hm⟩ := qdi hs hpd hpdk
 have hfl : lkS fresh pd.ino.ents = some n := by rw [hpde, qdn hlf, if_pos rfl]
 have hfind : T.find d fresh = some n := by unfold Tab.find; rw [hpd]; exact hfl
 obtain ⟨nq, hnq, hnqk, hnq1, hnqe, hnqd⟩ := hfil
 obtain ⟨U1, a1, a2, a3⟩ := qil h (m + 1) d fresh (eDir_of hpd hpdk) hpd hm hfl hnq hnqe hnq1 hF (by rw [hnqd]; omega)
 obtain ⟨l1, a1'⟩ := Lg.ev_onS lgD a1
 obtain ⟨s4, qi4, qb4, ui4, ub4, last4, none4, dir4⟩ := gone_is hs hd hlf hpd hnq hnqe hnq1 hnqd rfl
 have own4 : ∀ x, Own b r { ((T.upd d (setE (dropKS fresh pd.ino.ents))).upd n (addL (-1))).del n with ui := T.ui - 1, ub := T.ub - (nq.ino.data.length : Int) } x → Own b r T x := fun x hx =>
  qc5 (i := d) (f := setE (dropKS fresh pd.ino.ents)) (fun _ => rfl) (qc5 (i := n) (f := addL (-1)) (fun _ => rfl) (own_del (i := n) hx))
 generalize hT4 : ({ ((T.upd d (setE (dropKS fresh pd.ino.ents))).upd n (addL (-1))).del n with ui := T.ui - 1, ub := T.ub - (nq.ino.data.length : Int) } : Tab) = T4 at a2 s4 qi4 qb4 ui4 ub4 last4 none4 dir4 own4
 have hq4 : ¬ Own b r T4 q := fun e => hq (own4 q e)
 have hqb1 : Bx U1 q 26 [.int .i64 (T.ui - 1), .int .i64 (T.ub - data.length)] := hqb.grew hqlt hq a3
 obtain ⟨U2, L, c1, c2, c3, c4⟩ := used_on a2 (m + 5) hq4 hqb1 (Nat.lt_of_lt_of_le hqlt a3.next)
 have hqb2 := hqb1.grew (Nat.lt_of_lt_of_le hqlt a3.next) (fun h => h) c3
 obtain ⟨v, U3, e1, e2, e3⟩ := names_at c2 s4 (m + 4) dir4 (fun e he => by obtain ⟨c, hc, _⟩ := hE e he; rw [hc]; simp) (by omega)
 obtain ⟨l3, e1'⟩ := Lg.ev_onS lgD e1
 have h5 := (c2.grewF e3).same (U := atS U3 S) rfl rfl rfl
 obtain ⟨U4, z1⟩ := ud4_run h5 s4 m dir4 hlf none4 (by omega) (by omega) (by omega) (by omega) (by omega) (by omega)
 refine ⟨U4, ?_⟩
 unfold ud3
 rw [show ev E0 KD (m + 6) = ev E0 KD (m + 4 + 2) from rfl, show (ev E0 KD (m + 4 + 2)).f 13 [.ptr b 0, .int .i64 d, sv [102, 114, 101, 115, 104]] S = _ from qe0 h (m + 4) d fresh, callP_ret, qfq, oB, qfr, oB, hfind, notV, oB]
 simp only [Option.isSome_some, Bool.not_true, gFF, oB, cond_true, pickV_bool, cond_false, Option.getD_some, neq3, beq_self_eq_true]
 rw [show (ev E0 KD (m + 4 + 2)).f 14 [.ptr b 0, .int .i64 d, sv [102, 114, 101, 115, 104]] (onS S) = _ from a1', qa8]
 simp only [gFF, oB, cond_true, pickV_bool, cond_false, qfw, beq_self_eq_true, Bool.not_true, qa1]
 rw [show (ev E0 KD (m + 4 + 2)).f 11 [.ptr b 0] (onS U1) = _ from c1, qa8]
 simp only [gFF, oB, cond_true, pickV_bool, cond_false, qa1]
 rw [show Go.Proofs.Ytbihlgcdnhoknaa.Ev.ldA 2 (.ptr q 0) (onS U2) = _ from hqb2.ldAOn (n := 2) rfl big2, oB]
 dsimp only
 rw [show T4.ub = T.ub - data.length from ub4, ui4, show (vAgg [V.int .i64 (T.ui - 1), V.int .i64 (T.ub - (data.length : Int))]) = vAgg [V.int .i64 (T.ui - 1), V.int .i64 (T.ub - (data.length : Int))] from rfl, qfh]
 simp only [gFF, oB, cond_true, pickV_bool, cond_false, onS_rd]
 rw [show (ev E0 KD (m + 4 + 2)).f 18 [.ptr b 0, .int .i64 d] (onS U2) = _ from e1', qa8]
 simp only [gFF, oB, cond_true, pickV_bool, cond_false, qa1, e2, neq3, beq_self_eq_true, Bool.not_true, qbv]
 rw [qhd (qfe fun p hp j hj => qh8 ?_), qbj h.on, ifK_bool, cond_false]
 · exact z1
 · simp only [List.mem_cons, List.not_mem_nil, or_false] at hp
   subst hp
   simp only [List.mem_cons, List.not_mem_nil, or_false] at hj
   subst hj
   intro e he f hf
   have hf' := List.mem_singleton.1 hf
   subst hf'
   rcases c4 e he with h | h
   · exact .inr ⟨h, rfl⟩
   · exact .inl h
end
end Go.Proofs.Ytbihlgcdnhoknaa.W
namespace Go.Proofs.Ytbihlgcdnhoknaa.W
open Go.Proofs.Ytbihlgcdnhoknaa.Ev Go.RowKit
set_option maxRecDepth 100000
section
variable {S U : St} {b r : Nat} {T : Tab} {B : Nat}
theorem big_rounds {B : Nat} (h : B ≤ 1099511627776) : 2 * B + 1 < rounds := by
 have h2 : rounds = 18446744073709551616 := by unfold rounds; decide
 omega
theorem ud2_run (h : TabAt S b r T) (hs : Sd T B) (hB : B ≤ 1099511627776) (m : Nat) {d n : Int} {E R : Ents} {data : List UInt8} (hd : Dir T d (E ++ [(fresh, n)])) (hr : Dir T 1 (if d = 1 then E ++ [(fresh, n)] else R)) (hE : ∀ e ∈ E, Lt e.1) (hR : ∀ e ∈ R, Lt e.1) (hEl : E.length ≤ 99) (hfil : Fil T n data) (hdata : data.length ≤ 200)
 (hn1 : n = T.last) (hl : 0 ≤ T.last ∧ T.last ≤ 1000) (hui : 1 ≤ T.ui ∧ T.ui ≤ 1000) (hub : (data.length : Int) ≤ T.ub ∧ T.ub ≤ 100000) (h1 : T.ui ≤ T.qi) (h2 : T.ub ≤ T.qb) {q : Nat} (hq : ¬ Own b r T q) (hqlt : q < S.next) (hqb : Bx S q 26 [.int .i64 (T.ui - 1), .int .i64 (T.ub - data.length)]) :
 ∃ U, ud2 (ev E0 KD (m + 6)) (.ptr b 0) (.int .i64 d) (.int .i64 n) (.int .i64 (E.length : Int)) (.ptr q 0) S = some (.ret (.bool true), U) := by
 have hfE : lkS fresh E = none := qda (by decide) hE
 have hoE : lkS other E = none := qda (by decide) hE
 have hfR : lkS fresh R = none := qda (by decide) hR
 have hoR : lkS other R = none := qda (by decide) hR
 have hfo : fresh ≠ other := by decide
 have hlx : lkS fresh (E ++ [(fresh, n)]) = some n := by rw [qdn hfE, if_pos rfl]
 have hly : lkS other (if d = 1 then E ++ [(fresh, n)] else R) = none := by
  split
  · rw [qdn hoE, if_neg (fun e => hfo e.symm)]
  · exact hoR
 have m1 := mv_zero hs hd hr hfil hlx hly other_named hfo
 obtain ⟨U1, a1, a2, T2, a3, _, a4⟩ := move_run h hs (by have := big_rounds hB; omega) (m + 1) d 1 fresh other (by decide)
 have mm1 := a4 m1
 obtain ⟨s2, qi2, qb2, ui2, ub2, last2, fil2, dd2, d12⟩ := mv_is hs hd hr hfil hlx hfo mm1
 rw [m1] at a1
 rw [qdy hfE] at dd2 d12
 have hq2 : ¬ Own b r T2 q := fun e => hq (mm1.own e)
 have hqb2 : Bx U1 q 26 [.int .i64 (T.ui - 1), .int .i64 (T.ub - data.length)] := hqb.grew hqlt hq a2
 have hz : ∃ z, Dir T2 1 z ∧ lkS other z = some n ∧ (d = 1 → dropKS other z = E) := by
  by_cases h1d : d = 1
  · rw [if_pos h1d, qb5 _ _ _ hoE] at d12
    exact ⟨_, d12, by rw [qdn hoE, if_pos rfl], fun _ => qdy hoE⟩
  · rw [if_neg h1d, if_neg h1d, qb5 _ _ _ hoR] at d12
    exact ⟨_, d12, by rw [qdn hoR, if_pos rfl], fun e => absurd e h1d⟩
 obtain ⟨z, dz, hlz, hdz⟩ := hz
 have hw : ∃ w, Dir T2 d w ∧ lkS fresh w = none ∧ (d ≠ 1 → w = E) := by
  by_cases h1d : d = 1
  · rw [if_pos h1d, qb5 _ _ _ hoE] at dd2
    exact ⟨_, dd2, by rw [qdn hfE, if_neg hfo], fun e => absurd h1d e⟩
  · rw [if_neg h1d] at dd2
    exact ⟨_, dd2, hfE, fun _ => rfl⟩
 obtain ⟨w, dw, hlw, hwE⟩ := hw
 have m2 := mv_zero s2 dz dw fil2 hlz hlw qhj hfo.symm
 obtain ⟨U2, b1, b2, T3, b3, _, b4⟩ := move_run a3 s2 (big_rounds hB) (m + 1) 1 d other fresh (by decide)
 have mm2 := b4 m2
 obtain ⟨s3, qi3, qb3, ui3, ub3, last3, fil3, _, dd3⟩ := mv_is s2 dz dw fil2 hlz hfo.symm mm2
 rw [m2] at b1
 have hd3 : Dir T3 d (E ++ [(fresh, n)]) := by
  by_cases h1d : d = 1
  · rw [if_pos h1d.symm, hdz h1d, qb5 _ _ _ hfE] at dd3
    exact dd3
  · rw [if_neg (fun e => h1d e.symm), hwE h1d, qb5 _ _ _ hfE] at dd3
    exact dd3
 have hq3 : ¬ Own b r T3 q := fun e => hq2 (mm2.own e)
 have hlt1 := Nat.lt_of_lt_of_le hqlt a2.next
 have hqb3 : Bx U2 q 26 [.int .i64 (T3.ui - 1), .int .i64 (T3.ub - data.length)] := by
  rw [ui3, ui2, ub3, ub2]
  exact hqb2.grew hlt1 hq2 b2
 obtain ⟨U3, c1⟩ := ud3_run b3 s3 m hd3 hE hEl fil3 hdata (by rw [last3, last2]; exact hn1) (by rw [last3, last2]; exact hl) (by rw [ui3, ui2]; exact hui) (by rw [ub3, ub2]; exact hub) (by rw [ui3, ui2, qi3, qi2]; exact h1) (by rw [ub3, ub2, qb3, qb2]; exact h2) hq3 (Nat.lt_of_lt_of_le hlt1 b2.next) hqb3
 refine ⟨U3, ?_⟩
 unfold ud2
 rw [show (ev E0 KD (m + 6)).f 19 [.ptr b 0, .int .i64 d, sv [102, 114, 101, 115, 104], .int .i64 1, sv [111, 116, 104, 101, 114]] S = _ from a1, callP_ret, qfw, beq_self_eq_true, Bool.not_true, oB]
 simp only [gFF, oB, cond_true]
 rw [show (ev E0 KD (m + 6)).f 19 [.ptr b 0, .int .i64 1, sv [111, 116, 104, 101, 114], .int .i64 d, sv [102, 114, 101, 115, 104]] U1 = _ from b1, callP_ret]
 simp only [qfw, beq_self_eq_true, Bool.not_true, gFF, oB, cond_true, pickV_bool, cond_false, ifK_bool]
 exact c1
theorem ud1_run (h : TabAt S b r T) {k : Nat} (ok : Ok T k) (hk : k ≤ 30) (hqq : T.qi = 40 ∧ T.qb = 2000) (m : Nat) {d : Int} {E R : Ents} (hd : Dir T d E) (hr : Dir T 1 R) (data0 : List UInt8) :
 ∃ U, ud1 (ev E0 KD (m + 6)) (sv data0) (.ptr b 0) (.int .i64 d) S = some (.ret (.bool true), U) := by
 have hEE : ∀ {j : Int} {X : Ents}, Dir T j X → (∀ e ∈ X, Lt e.1) ∧ X.length ≤ k := fun {j X} hj => by
  obtain ⟨p, hp, _, rfl⟩ := hj
  exact ⟨(ok.nd j p hp).nam, (ok.nd j p hp).len⟩
 obtain ⟨hE, hEl⟩ := hEE hd
 obtain ⟨hR, _⟩ := hEE hr
 have hlf : lkS fresh E = none := qda (by decide) hE
 have h5 : ∀ e ∈ E, e.1.length ≤ 5 := fun e he => by obtain ⟨c, hc, _⟩ := hE e he; rw [hc]; simp
 have hnum := ok.num
 have hcnt := ok.cnt
 have hub := ok.ub
 have hlst := ok.lst
 have hui1 : 0 ≤ T.ui ∧ T.ui ≤ 31 := by omega
 have hB : 2 ^ k - 1 + 1 ≤ 1099511627776 := by
  have : 2 ^ k ≤ 2 ^ 30 := Nat.pow_le_pow_right (by decide) hk
  have h30 : (2 : Nat) ^ 30 = 1073741824 := by decide
  omega
 have hdl : (data0.take 200).length ≤ 200 := by rw [List.length_take]; omega
 generalize hdt : data0.take 200 = data at hdl
 obtain ⟨U1, a1, a2, a3⟩ := used_run h (m + 5)
 obtain ⟨v, U2, b1, b2, b3⟩ := names_at a2 ok.sd (m + 4) hd h5 (by omega)
 have t2 := a2.grewF b3
 obtain ⟨U3, c1, c2, c3, c4⟩ := qin t2.on 26 2 (Tr.ofListFrom .nil [(.int .i64 0), (.int .i64 0)] 0) [.int .i64 T.ui, .int .i64 T.ub] rfl (by decide) big2
 have t3 := t2.grewF c3
 have hq3 : ¬ Own b r T U2.next := fun e => by
  have := own_lt t2 e
  omega
 have hd' := hd
 obtain ⟨pd, hpd, hpdk, hpde⟩ := hd'
 obtain ⟨mp, hm⟩ := qdi ok.sd hpd hpdk
 have hF := ok.fits (by omega)
 obtain ⟨U4, nb, d1, d2, d3, d4⟩ := make_file t3 hF m d fresh 1 420 data (by decide) (by omega) (eMake_zero hd hlf rfl (by omega) (by omega)) hpd hm (sd_new ok.sd) (by unfold big62; omega) (by decide)
 obtain ⟨s1, qi1, qb1, ui1, ub1, last1, fil1, dd1, d11⟩ := made_is ok.sd hd hr hlf hpd rfl (nb := nb) (data := data)
 have own1 : ¬ Own b r (tabMade { T with last := T.last + 1 } ⟨T.last + 1, nb, newIno 1 420 data 0 none⟩ d (setKS fresh (T.last + 1) pd.ino.ents) data.length) U2.next := fun e => by
  rcases own_made e with e | e | e
  · exact hq3 e
  · have : U2.next = nb := e
    omega
  · cases e
 generalize hT1 : tabMade { T with last := T.last + 1 } ⟨T.last + 1, nb, newIno 1 420 data 0 none⟩ d (setKS fresh (T.last + 1) pd.ino.ents) data.length = T1 at d2 s1 qi1 qb1 ui1 ub1 last1 fil1 dd1 d11 own1
 have hqb4 : Bx U4 U2.next 26 [.int .i64 T.ui, .int .i64 T.ub] := c2.grew (by omega) hq3 d3
 have hlt4 : U2.next < U4.next := Nat.lt_of_lt_of_le (show U2.next < U3.next by omega) d3.next
 obtain ⟨U5, L, e1, e2, e3, e4⟩ := used_on d2 (m + 5) own1 hqb4 hlt4
 have hqb5 := hqb4.grew hlt4 (fun h => h) e3
 obtain ⟨v6, U6, f1, f2, f3⟩ := names_at e2 s1 (m + 4) dd1 (fun e he => by
  rcases List.mem_append.1 he with he | he
  · exact h5 e he
  · rw [List.mem_singleton] at he
    subst he
    show fresh.length ≤ 5
    decide) (by simp only [List.length_append, List.length_cons, List.length_nil]; omega)
 obtain ⟨l6, f1'⟩ := Lg.ev_onS lgD f1
 have g46 := e3.trans f3
 have t7 := (e2.grewF f3).same (U := atS U6 U4) rfl rfl rfl
 have hqb7 : Bx (atS U6 U4) U2.next 26 [.int .i64 (T1.ui - 1), .int .i64 (T1.ub - data.length)] := by
  rw [ui1, ub1, show T.ui + 1 - 1 = T.ui by omega, show T.ub + (data.length : Int) - (data.length : Int) = T.ub by omega]
  exact bx_same (hqb4.grew hlt4 (fun h => h) g46) rfl
 obtain ⟨U8, z1⟩ := ud2_run t7 s1 hB m dd1 d11 hE hR (by omega) fil1 hdl last1.symm (by rw [last1]; omega) (by rw [ui1]; omega) (by rw [ub1]; omega) (by rw [ui1, qi1]; omega) (by rw [ub1, qb1]; omega) own1 (Nat.lt_of_lt_of_le hlt4 g46.next) hqb7
 refine ⟨U8, ?_⟩
 unfold ud1
 rw [lnStr_sv, oB]
 dsimp only
 rw [foldK_min, show min (data0.length : Int) 200 = ((min data0.length 200 : Nat) : Int) by omega, oB]
 dsimp only
 rw [cutN, oB]
 dsimp only
 rw [hdt, show (ev E0 KD (m + 6)).f 11 [.ptr b 0] S = _ from a1, callP_ret]
 rw [show (ev E0 KD (m + 6)).f 18 [.ptr b 0, .int .i64 d] U1 = _ from b1, callP_ret, b2, oB]
 dsimp only
 rw [oB, qek, c1, oB]
 dsimp only
 rw [show (ev E0 KD (m + 6)).f 8 [.ptr b 0, .int .i64 d, sv [102, 114, 101, 115, 104], .int .i64 1, .int .i64 420, sv data] U3 = _ from d1, callP_ret, qfq, oB, qfr, oB, qfw, beq_self_eq_true, Bool.not_true, oB]
 simp only [gFF, oB, cond_true]
 rw [show (ev E0 KD (m + 6)).f 11 [.ptr b 0] (onS U4) = _ from e1, qa8]
 simp only [gFF, oB, cond_true, qa1, qbn, Nat.zero_add]
 rw [show ld1 (.ptr U2.next 0) (onS U5) = some (.int .i64 T.ui, U5.lg [⟨U2.next, 0, 1, false⟩]) from Bx6.ldL e2.on hqb5 big2 rfl, oB]
 dsimp only
 rw [addI 3 false true _ _ hF.ui (by unfold big62; omega)]
 simp only [gFF, oB, cond_true, qa1, qbn, Nat.zero_add]
 rw [show ld1 (.ptr U2.next 1) (onS U5) = some (.int .i64 T.ub, U5.lg [⟨U2.next, 1, 2, false⟩]) from Bx6.ldL e2.on hqb5 big2 rfl, oB]
 dsimp only
 simp only [gFF, oB, cond_true, qa1, lnStr_sv]
 rw [addI 3 false false _ _ hF.ub (by unfold big62; omega)]
 simp only [gFF, oB, cond_true, build26]
 rw [ui1, ub1, qfh]
 simp only [gFF, oB, cond_true, pickV_bool, cond_false, qbv]
 rw [show (ev E0 KD (m + 6)).f 18 [.ptr b 0, .int .i64 d] (onS U5) = _ from f1', qa8]
 simp only [gFF, oB, cond_true, qa1, f2]
 rw [addI 3 false true _ _ (by unfold big62; omega) (by unfold big62; omega)]
 simp only [gFF, oB, cond_true, neq3, pickV_bool, cond_false, qbv, List.length_append, List.length_cons, List.length_nil]
 rw [show ((((E.length + (0 + 1) : Nat) : Int)) == (E.length : Int) + 1) = true from by simp, Bool.not_true]
 rw [qhd (qfe fun p hp j hj => qh8 ?_), qbj d2.on, ifK_bool, cond_false]
 · exact z1
 · simp only [List.mem_cons, List.not_mem_nil, or_false] at hp
   rcases hp with rfl | rfl | rfl
   · simp only [List.mem_cons, List.not_mem_nil, or_false] at hj
     intro e he f hf
     have he' := e4 e he
     rcases hj with rfl | rfl | rfl
     · have hf' := List.mem_singleton.1 hf
       subst hf'
       exact he'.symm.imp id fun h => ⟨h, rfl⟩
     · have hf' := List.mem_singleton.1 hf
       subst hf'
       exact he'.symm.imp id fun h => ⟨h, rfl⟩
     · cases hf
   · simp only [List.mem_cons, List.not_mem_nil, or_false] at hj
     intro e he f hf
     have he' := List.mem_singleton.1 he
     subst he'
     rcases hj with rfl | rfl
     · have hf' := List.mem_singleton.1 hf
       subst hf'
       exact .inr ⟨rfl, rfl⟩
     · cases hf
   · simp only [List.mem_cons, List.not_mem_nil, or_false] at hj
     subst hj
     intro e he f hf
     cases hf
end
end Go.Proofs.Ytbihlgcdnhoknaa.W
namespace Go.Proofs.Ytbihlgcdnhoknaa.W
open Go.Proofs.Ytbihlgcdnhoknaa.Ev Go.RowKit
theorem flat_at {β : Type} {z : Nat} (hz : 0 < z) : ∀ (ls : List (List β)), (∀ l ∈ ls, l.length = z) → ∀ (j : Nat) c, ls.flatten[j]? = some c → ∃ l, ls[j / z]? = some l ∧ l[j % z]? = some c
 | [], _, j, c, h => by simp at h
 | l :: ls, hl, j, c, h => by
  rw [List.flatten_cons] at h
  have h0 := hl l (List.mem_cons_self ..)
  by_cases hj : j < z
  · rw [List.getElem?_append_left (by omega)] at h
    exact ⟨l, by rw [Nat.div_eq_of_lt hj]; rfl, by rw [Nat.mod_eq_of_lt hj]; exact h⟩
  · rw [List.getElem?_append_right (by omega), h0] at h
    obtain ⟨l', h1, h2⟩ := flat_at hz ls (fun x hx => hl x (List.mem_cons_of_mem _ hx)) (j - z) c h
    refine ⟨l', ?_, ?_⟩
    · rw [show j = (j - z) + z by omega, Nat.add_div_right _ hz]; exact h1
    · rw [show j = (j - z) + z by omega, Nat.add_mod_right]; exact h2
theorem pick_any {α : Type} {P : Nat → α → Prop} : ∀ (n : Nat), (∀ i, i < n → ∃ b, P i b) → ∃ l : List α, l.length = n ∧ ∀ i b, l[i]? = some b → P i b
 | 0, _ => ⟨[], rfl, fun i b h => by simp at h⟩
 | n + 1, h => by
  obtain ⟨l, h1, h2⟩ := pick_any n fun i hi => h i (by omega)
  obtain ⟨b, hb⟩ := h n (by omega)
  refine ⟨l ++ [b], by simp [h1], fun i c hc => ?_⟩
  by_cases hi : i < n
  · rw [List.getElem?_append_left (by omega)] at hc
    exact h2 i c hc
  · have hi2 : i = n := by
     have := (List.getElem?_eq_some_iff.1 hc).1
     simp [h1] at this
     omega
    subst hi2
    rw [List.getElem?_append_right (by omega)] at hc
    simp [h1] at hc
    subst hc
    exact hb
theorem vrels_map {ρ : Rho} {α : Type} (f : α → V) (g : α → Value) : ∀ l : List α, (∀ a ∈ l, VRel ρ (f a) (g a)) → VRels ρ (l.map f) (l.map g)
 | [], _ => .nil
 | a :: l, h => .cons (h a (List.mem_cons_self ..)) (vrels_map f g l fun b hb => h b (List.mem_cons_of_mem _ hb))
section
variable {H : Type} {enc : TypeId × Value → H} {W : World}
theorem list_of_trod {α : Type} {t e z : Nat} {F : α → V} {Q : α → Prop} (ht : Try.prog.underlying t = some (.slice e)) (hz : Try.prog.cellsOf e = z) (hz0 : 0 < z)
 (el : ∀ fuel cs (x : DataW H × List MemPlace), DataW.trod enc Try.prog W 0 (fun _ => true) true fuel e cs = some x → ∃ (a : α) (cv : Value), VRel (frz W) (F a) cv ∧ isTuple (F a) = false ∧ cv.cells.toList = cs ∧ Q a)
 {fuel : Nat} {cs : List Value} {x : DataW H × List MemPlace} (h : DataW.trod enc Try.prog W 0 (fun _ => true) true fuel t cs = some x) :
 ∃ (cv : Value) (v : V) (l : List α), cs = [cv] ∧ VRel (frz W) v cv ∧ ((l = [] ∧ (v = .nilslice ∨ v = .eslice)) ∨ v = .list z (l.map F)) ∧ (∀ a ∈ l, Q a) ∧ ∃ ad len cap, cv = .slice ad len cap := by
 rcases DataW.trod_slice ht h with ⟨hv, _⟩ | ⟨a, len, cap, elems, rest, m, hm, hv, _, _, hcap, hmax, hel, hat, _⟩
 · exact ⟨_, .nilslice, [], hv, .nilslice, .inl ⟨rfl, .inl rfl⟩, fun _ h => by simp at h, _, _, _, rfl⟩
 · by_cases h0 : len = 0
   · subst h0
     exact ⟨_, .eslice, [], hv, .eslice a cap, .inl ⟨rfl, .inr rfl⟩, fun _ h => by simp at h, _, _, _, rfl⟩
   · have hAt : ∀ i, i < len → ∃ p : α × Value, VRel (frz W) (F p.1) p.2 ∧ isTuple (F p.1) = false ∧ Q p.1 ∧ p.2.cells.toList.length = z ∧ ∀ k, k < z → ∃ y, p.2.cells.toList[k]? = some y ∧ W.cell? ((a.add (i * z)).add k) = some y := fun i hi => by
      have := hat i hi
      rw [hz, List.getElem?_eq_getElem (by omega), oI] at this
      obtain ⟨cells, h1, h2⟩ := this
      obtain ⟨b, cv, b1, b2, b3, b4⟩ := el _ _ _ h2
      obtain ⟨c1, c2⟩ := cells?_at h1
      exact ⟨(b, cv), b1, b2, b4, by rw [b3]; exact c1, by rw [b3]; exact c2⟩
     obtain ⟨p0, _, _, _, _, q0⟩ := hAt 0 (by omega)
     obtain ⟨y0, _, hb0⟩ := q0 0 hz0
     have hspot : a.spot = none ∧ ∃ bg ty fr, W.heap[a.block]? = some (.cells bg ty fr) := by
      rw [Nat.zero_mul, show (a.add 0).add 0 = a from rfl] at hb0
      unfold World.cell? at hb0
      split at hb0
      · rename_i bg ty fr hh
        split at hb0
        · cases hb0
        · rename_i hsp
          exact ⟨by simpa using hsp, bg, ty, fr, hh⟩
      · cases hb0
     obtain ⟨hsp, bg, ty, fr, hheap⟩ := hspot
     obtain ⟨l, l1, l2⟩ := pick_any len hAt
     have hin : ∀ p ∈ l, ∃ i, l[i]? = some p := fun p hp => List.mem_iff_getElem?.1 hp
     refine ⟨_, .list z ((l.map (·.1)).map F), l.map (·.1), hv, ?_, .inr rfl, fun b hb => ?_, _, _, _, rfl⟩
     · rw [List.map_map]
       refine .list (vrels_map _ (·.2) l fun p hp => ?_) (fun v hv => ?_) (by rw [List.length_map]; exact l1) hcap fun _ => ⟨fun cv hcv => ?_, hsp, bg, ty, fr, hheap, fun j c hj => ?_⟩
       · obtain ⟨i, hi⟩ := hin p hp
         exact (l2 i p hi).1
       · rw [List.mem_map] at hv
         obtain ⟨p, hp, rfl⟩ := hv
         obtain ⟨i, hi⟩ := hin p hp
         exact (l2 i p hi).2.1
       · rw [List.mem_map] at hcv
         obtain ⟨p, hp, rfl⟩ := hcv
         obtain ⟨i, hi⟩ := hin p hp
         have := (l2 i p hi).2.2.2.1
         rwa [Array.length_toList] at this
       · rw [List.flatMap_def, List.map_map] at hj
         obtain ⟨cl, h1, h2⟩ := flat_at hz0 _ (fun cl hcl => by
          rw [List.mem_map] at hcl
          obtain ⟨p, hp, rfl⟩ := hcl
          obtain ⟨i, hi⟩ := hin p hp
          exact (l2 i p hi).2.2.2.1) j c hj
         rw [List.getElem?_map, Option.map_eq_some_iff] at h1
         obtain ⟨p, hp, rfl⟩ := h1
         obtain ⟨y, y1, y2⟩ := (l2 _ p hp).2.2.2.2 (j % z) (Nat.mod_lt _ hz0)
         have hc : c = y := by
          have := h2.symm.trans y1
          simpa using this
         subst hc
         rw [add_eq hsp, add_eq rfl] at y2
         unfold World.cell? at y2
         simp only at y2
         rw [hheap] at y2
         have he : a.off + j / z * z + j % z = a.off + j := by
          have := Nat.div_add_mod j z
          rw [Nat.mul_comm] at this
          omega
         rw [he] at y2
         exact y2
     · rw [List.mem_map] at hb
       obtain ⟨p, hp, rfl⟩ := hb
       obtain ⟨i, hi⟩ := hin p hp
       exact (l2 i p hi).2.2.1
theorem u42 : Try.prog.underlying 42 = some (.slice 44) := by kernel_rfl
theorem u44 : Try.prog.underlying 44 = some (.array 5 5) := Try.underlying44
theorem c44 : Try.prog.cellsOf 44 = 5 := by kernel_rfl
abbrev B5 := UInt8 × UInt8 × UInt8 × UInt8 × UInt8
noncomputable def b5V (x : B5) : V := u8L [x.1, x.2.1, x.2.2.1, x.2.2.2.1, x.2.2.2.2]
def ActsV (v : V) (l : List B5) : Prop := (l = [] ∧ (v = .nilslice ∨ v = .eslice)) ∨ v = .list 5 (l.map b5V)
theorem byte_of_trod {fuel : Nat} {cs : List Value} {x : DataW H × List MemPlace} (h : DataW.trod enc Try.prog W 0 (fun _ => true) true fuel 5 cs = some x) : ∃ b : UInt8, cs = [.int .u8 (b.toNat : Int)] := by
 obtain ⟨n, rfl, _, hw⟩ := DataW.trod_int u5 h
 obtain ⟨b, rfl⟩ := u8_byte hw
 exact ⟨b, rfl⟩
theorem b5_of_trod {fuel : Nat} {cs : List Value} {x : DataW H × List MemPlace} (h : DataW.trod enc Try.prog W 0 (fun _ => true) true fuel 44 cs = some x) : ∃ (a : B5) (cv : Value), VRel (frz W) (b5V a) cv ∧ isTuple (b5V a) = false ∧ cv.cells.toList = cs ∧ True := by
 obtain ⟨xs, m, _, _, hl, hn, hi⟩ := DataW.trod_array u44 h
 rw [c44] at hl
 rw [c5] at hi
 match cs, hl with
 | [w0, w1, w2, w3, w4], _ =>
  have g : ∀ (i : Nat) w, i < 5 → (([w0, w1, w2, w3, w4].drop (i * 1)).take 1) = [w] → ∃ b : UInt8, w = .int .u8 (b.toNat : Int) := fun i w h5 hw => by
   have := hi i h5
   rw [hw, List.getElem?_eq_getElem (by omega)] at this
   obtain ⟨b, hb⟩ := byte_of_trod this
   exact ⟨b, by simpa using hb⟩
  obtain ⟨b0, rfl⟩ := g 0 w0 (by omega) rfl
  obtain ⟨b1, rfl⟩ := g 1 w1 (by omega) rfl
  obtain ⟨b2, rfl⟩ := g 2 w2 (by omega) rfl
  obtain ⟨b3, rfl⟩ := g 3 w3 (by omega) rfl
  obtain ⟨b4, rfl⟩ := g 4 w4 (by omega) rfl
  refine ⟨(b0, b1, b2, b3, b4), .agg #[.int .u8 (b0.toNat : Int), .int .u8 (b1.toNat : Int), .int .u8 (b2.toNat : Int), .int .u8 (b3.toNat : Int), .int .u8 (b4.toNat : Int)], ?_, rfl, rfl, trivial⟩
  unfold b5V u8L
  refine .agg rfl (fun i cv hcv => ?_) fun i v hv cv hcv => ?_
  · match i, hcv with
    | 0, h => cases h; rfl
    | 1, h => cases h; rfl
    | 2, h => cases h; rfl
    | 3, h => cases h; rfl
    | 4, h => cases h; rfl
  · rw [Tr.get_ofList] at hv
    match i, hv, hcv with
    | 0, h, h' => cases h; cases h'; exact .int _ _
    | 1, h, h' => cases h; cases h'; exact .int _ _
    | 2, h, h' => cases h; cases h'; exact .int _ _
    | 3, h, h' => cases h; cases h'; exact .int _ _
    | 4, h, h' => cases h; cases h'; exact .int _ _
theorem acts_of_trod {fuel : Nat} {cs : List Value} {x : DataW H × List MemPlace} (h : DataW.trod enc Try.prog W 0 (fun _ => true) true fuel 42 cs = some x) :
 ∃ (cv : Value) (v : V) (l : List B5), cs = [cv] ∧ VRel (frz W) v cv ∧ ActsV v l ∧ ∃ ad len cap, cv = .slice ad len cap := by
 obtain ⟨cv, v, l, h1, h2, h3, _, h4⟩ := list_of_trod (F := b5V) (Q := fun _ => True) u42 c44 (by omega) (fun fuel cs x hx => b5_of_trod hx) h
 exact ⟨cv, v, l, h1, h2, h3, h4⟩
end
section
variable {S U : St} {b r : Nat} {T : Tab}
theorem acts_len {v : V} {l : List B5} (h : ActsV v l) : lnS v S = some (.int .i64 (l.length : Int), S) := by
 rcases h with ⟨rfl, rfl | rfl⟩ | rfl
 · rfl
 · rfl
 · show some (V.int .i64 (((l.map b5V).length : Nat) : Int), S) = _
   rw [List.length_map]
theorem acts_ix {v : V} {l : List B5} (h : ActsV v l) {i : Nat} (hi : i < l.length) : ixP 5 v (.int .i64 (i : Int)) = some (.cptr (b5V l[i])) := by
 rcases h with ⟨rfl, _⟩ | rfl
 · simp at hi
 · rw [ixP_list 5 _ .i64 i (by rw [List.length_map]; exact hi) (by decide), List.getElem_map]
theorem b5_ld (x : B5) : ldA 5 (.cptr (b5V x)) S = some (b5V x, S) := rfl
end
end Go.Proofs.Ytbihlgcdnhoknaa.W
namespace Go.Proofs.Ytbihlgcdnhoknaa.W
open Go.Proofs.Ytbihlgcdnhoknaa.Ev Go.RowKit
set_option maxRecDepth 100000
section
variable {S U : St} {b r : Nat} {T : Tab}
theorem L281_run (m N : Nat) (nk : Ac → St → Rs) (ek : Nat → Ac → St → Rs) {l : List B5} {v0 : V} (hv : ActsV v0 l) (v1 v2 : V) :
 ∀ (j f i : Nat) {S : St} {T : Tab} {k : Nat}, i + j = 30 → j < f → TabAt S b r T → Ok T k → k ≤ i → ∃ U T' k', L4_281 (ev E0 KD (m + 7)) N nk ek f v0 v1 v2 (.ptr b 0) (.int .i64 (i : Int)) S = ek 0 (fr 159 [(1, v1), (2, v2), (7, .ptr b 0)]) U ∧ TabAt U b r T' ∧ Ok T' k' ∧ k' ≤ 30 ∧ T'.qi = T.qi ∧ T'.qb = T.qb
 | j, 0, i, S, T, k, hij, hj, _, _, _ => by omega
 | 0, f + 1, i, S, T, k, hij, hj, h, ok, hk => by
  refine ⟨S, T, k, ?_, h, ok, by omega, rfl, rfl⟩
  rw [qgx, acts_len hv, oB]
  dsimp only
  rw [binV_ii, intsV_lss, oB]
  by_cases hi : (i : Int) < (l.length : Int)
  · rw [decide_eq_true hi]
    simp only [gTT, oB, cond_true]
    rw [binV_ii, intsV_lss, oB, decide_eq_false (show ¬ (i : Int) < 30 by omega), pickV_bool, cond_true, oB, ifK_bool, cond_false]
  · rw [decide_eq_false hi]
    simp only [gTF, oB, cond_false, pickV_bool, ifK_bool]
 | j + 1, f + 1, i, S, T, k, hij, hj, h, ok, hk => by
  by_cases hi : i < l.length
  · obtain ⟨U, T', e, u1, u2⟩ := small_run h ok (by omega) m l[i].1 l[i].2.1 l[i].2.2.1 l[i].2.2.2.1 l[i].2.2.2.2
    obtain ⟨V, T2, k2, w1, w2, w3, w4, w5, w6⟩ := L281_run m N nk ek hv v1 v2 j f (i + 1) (by omega) (by omega) u2.tab u2.ok (by omega)
    refine ⟨V, T2, k2, ?_, w2, w3, w4, w5.trans u2.q.1, w6.trans u2.q.2⟩
    rw [qgx, acts_len hv, oB]
    dsimp only
    rw [binV_ii, intsV_lss, oB, decide_eq_true (show (i : Int) < (l.length : Int) by omega)]
    simp only [gTT, oB, cond_true]
    rw [binV_ii, intsV_lss, oB, decide_eq_true (show (i : Int) < 30 by omega), pickV_bool, cond_true, oB, ifK_bool, cond_true, acts_ix hv hi, oB, b5_ld, oB]
    dsimp only
    rw [show (ev E0 KD (m + 7)).f 16 [.ptr b 0, b5V l[i]] S = _ from u1, callP_ret, addI 3 false true _ _ (by unfold big62; omega) (by unfold big62; omega), oB]
    exact w1
  · refine ⟨S, T, k, ?_, h, ok, by omega, rfl, rfl⟩
    rw [qgx, acts_len hv, oB]
    dsimp only
    rw [binV_ii, intsV_lss, oB, decide_eq_false (show ¬ (i : Int) < (l.length : Int) by omega)]
    simp only [gTF, oB, cond_false, pickV_bool, ifK_bool]
theorem R47_run (h : TabAt S b r T) {k : Nat} (ok : Ok T k) (hk : k ≤ 30) (hqq : T.qi = 40 ∧ T.qb = 2000) (m N : Nat) (nk : Ac → St → Rs) (ek : Nat → Ac → St → Rs) (c : UInt8) (data : List UInt8) :
 ∃ U, R4_7 (ev E0 KD (m + 6)) N nk ek (fr 159 [(1, u8V c), (2, sv data), (7, .ptr b 0)]) S = some (.ret (.bool true), U) := by
 have m12 : c.toNat % 12 < 12 := Nat.mod_lt _ (by omega)
 obtain ⟨pr, hpr, hprk, hpru⟩ := ok.sd.root
 have hroot : Dir T 1 pr.ino.ents := ⟨pr, hpr, hprk, rfl⟩
 have head : ∀ {Q}, (ifK (.bool (decide ((match T.get (num12 c) with | some p => p.ino.up | none => 0) = 0))) (ud1 (ev E0 KD (m + 6)) (sv data) (.ptr b 0) (.int .i64 1) S) (ud1 (ev E0 KD (m + 6)) (sv data) (.ptr b 0) (.int .i64 (num12 c)) S)) = Q → R4_7 (ev E0 KD (m + 6)) N nk ek (fr 159 [(1, u8V c), (2, sv data), (7, .ptr b 0)]) S = Q := fun {Q} hQ => by
  rw [R4_7_cut, show binV E0 .rem 5 false true (u8V c) (.int .u8 12) = _ from rem12 c.toNat, oB, cvI_int, qcq (by omega) (by omega), oB]
  dsimp only
  rw [add1 _ (by omega), oB]
  rw [show (ev E0 KD (m + 6)).f 17 [.ptr b 0, .int .i64 ((1 + c.toNat % 12 : Nat) : Int)] S = _ from up_run h (m + 4) (num12 c), callP_ret, qey, oB]
  exact hQ
 by_cases hu : (match T.get (num12 c) with | some p => p.ino.up | none => 0) = 0
 · obtain ⟨U, hU⟩ := ud1_run h ok hk hqq m hroot hroot data
   refine ⟨U, head ?_⟩
   rw [decide_eq_true hu, ifK_bool, cond_true]
   exact hU
 · cases hg : T.get (num12 c) with
   | none => rw [hg] at hu; exact absurd rfl hu
   | some p =>
    rw [hg] at hu
    have hpk : p.ino.kind = 2 := by
     by_cases hk2 : p.ino.kind = 2
     · exact hk2
     · exact absurd (ok.sd.fil _ p hg hk2).2 hu
    obtain ⟨U, hU⟩ := ud1_run h ok hk hqq m ⟨p, hg, hpk, rfl⟩ hroot data
    refine ⟨U, head ?_⟩
    rw [hg, decide_eq_false hu, ifK_bool, cond_false]
    exact hU
theorem undone_run (ho : S.on = false) {l : List B5} {v0 : V} (hv : ActsV v0 l) (c : UInt8) (data : List UInt8) : ∃ U, (ev E0 KD 8).f 4 [v0, u8V c, sv data] S = some (.ret (.bool true), U) := by
 obtain ⟨S1, b, r, nb, nm, a1, a2, a3, a4, a5, a6, a7⟩ := new_run ho 6 40 2000 (by decide) (by decide)
 obtain ⟨S2, T', k', c1, c2, c3, c4, c5, c6⟩ := L281_run (b := b) (r := r) 0 rounds (R4_7 (ev E0 KD 7) rounds (finN E0 (ev E0 KD 7) Try.f4) noEx) (exB 0 (R4_7 (ev E0 KD 7) rounds (finN E0 (ev E0 KD 7) Try.f4) noEx) noEx) hv (u8V c) (sv data) 30 rounds 0 (by omega) (by unfold rounds; omega) a2 (new_ok 40 2000 (by decide) (by decide) nb nm) (Nat.le_refl _)
 obtain ⟨U, d1⟩ := R47_run c2 c3 c4 ⟨c5, c6⟩ 1 rounds (finN E0 (ev E0 KD 7) Try.f4) noEx c data
 refine ⟨U, rd4 ?_⟩
 show F4 (ev E0 KD 7) rounds v0 (u8V c) (sv data) S = _
 rw [F4_eq, build26, oB, show (ev E0 KD 7).f 7 [vAgg [.int .i64 40, .int .i64 2000]] S = _ from a1, callP_ret, eq23p, oB, ifK_bool, cond_false]
 rw [show (V.int .i64 0) = .int .i64 ((0 : Nat) : Int) from rfl]
 refine c1.trans ?_
 rw [exB_same]
 exact d1
theorem undone_calls (W : World) {l : List B5} {v0 : V} {cv0 : Value} (hv0 : VRel (frz W) v0 cv0) (h : ActsV v0 l) (c : UInt8) (data : ByteArray) : Calls Try.prog 4 #[cv0, .int .u8 (c.toNat : Int), .string data] W fun e w' => e = .returned (.bool true) ∧ Below W.heap.size W w' := by
 obtain ⟨U, hl⟩ := undone_run (S := s0) rfl h c data.data.toList
 refine ((ev_sim E0_ok okD 8).call (base0 W) _ s0 W 4 [v0, u8V c, sv data.data.toList] #[cv0, .int .u8 (c.toNat : Int), .string data] _ U (relF W) (.cons hv0 (.cons (.int _ _) (.cons (.str data) .nil))) hl).mono fun ce w' hce => ?_
 obtain ⟨ρ', cv, rfl, _, hv, hR⟩ := hce
 cases hv
 exact ⟨rfl, qg7 hR⟩
end
end Go.Proofs.Ytbihlgcdnhoknaa.W
