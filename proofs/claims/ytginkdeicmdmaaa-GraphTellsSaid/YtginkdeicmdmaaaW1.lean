/-
  WHAT THE FUNCTIONS COME TO: each is read by the evaluator, printed, and told as a function of data, part 1 of 7 (no condition).
-/
import Derived.Test.YtginkdeicmdmaaaEv4
import Derived.Test.YtginkdeicmdmaaaProg
import Derived.KernelRfl
import Derived.OpenShut
import Derived.ProofKit
import Derived.WalkKit
namespace Go.Proofs.Ytginkdeicmdmaaa.W
open Go.Proofs.Ytginkdeicmdmaaa.Ev
set_option maxRecDepth 100000
noncomputable section
noncomputable def E0 : Env := envOf Try.prog [7, 8, 27, 28, 97] [(48, 2)] []
noncomputable def C12 : Code := Try.f12.body.getD .skip
noncomputable def B12 : D := (annot C12 [[], [], [], [3, 13], [], [], [], [], [], [3, 13, 18, 19, 20], [], [3, 13], [], [], [], [], [], [], [0], [2], []]).1
noncomputable def RL12 : List Nat := cellsOf Try.f12.results.toList
noncomputable def C28 : Code := Try.f28.body.getD .skip
noncomputable def B28 : D := (annot C28 [[], [], [], [3, 9, 10, 11], [], [3], [], [], [], [], [], [0, 3], [2], []]).1
noncomputable def RL28 : List Nat := cellsOf Try.f28.results.toList
noncomputable def R28_3 (self : EV) (N : Nat) (nk : Ac → St → Rs) (ek : Nat → Ac → St → Rs) (a : Ac) (S : St) : Rs := projK [3] a fun a => dr E0 self RL28 N (B28.r.r).r (mkK E0 self Try.f28 nk ek) a S
theorem R28_3_eq (self : EV) (N : Nat) (nk : Ac → St → Rs) (ek : Nat → Ac → St → Rs) ( v3 : V) (S : St) : R28_3 self N nk ek (fr 31 [(3, v3)]) S =
some (.ret v3, S) := by kernel_rfl
noncomputable def L28_9 (self : EV) (N : Nat) (nk : Ac → St → Rs) (ek : Nat → Ac → St → Rs) (n : Nat) ( v3 v9 v10 v11 : V) (S : St) : Rs := loopK [3, 9, 10, 11] (dr E0 self RL28 N (B28.r.r.l.r.l.l)) (mkK E0 self Try.f28 nk ek) n (fr 31 [(3, v3), (9, v9), (10, v10), (11, v11)]) S
theorem L28_9_eq (self : EV) (N : Nat) (nk : Ac → St → Rs) (ek : Nat → Ac → St → Rs) (n : Nat) ( v3 v9 v10 v11 : V) (S : St) : L28_9 self N nk ek (n + 1) v3 v9 v10 v11 S =
(binV E0 .lss 3 false false v11 v10).bind fun t10 =>
ifK t10 (
(ixP 4 v9 v11).bind fun t11 =>
(ldA 4 t11 S).bind fun p12 =>
(some (nwP 28 4 (Tr.ofListFrom .nil [(sv []), .nilslice, (sv []), (sv [])] 0) p12.2)).bind fun p13 =>
(stP 4 p13.1 p12.1 p13.2).bind fun p14 =>
(faP 0 false 1 p13.1).bind fun t16 =>
(ld1 t16 p14.2).bind fun p17 =>
(lookupV E0 48 v3 p17.1 true p17.2).bind fun p18 =>
(extractV p18.1 0).bind fun t20 =>
(extractV p18.1 1).bind fun t21 =>
(unV .not t21).bind fun t25 =>
ifK t25 (
(faP 0 false 1 p13.1).bind fun t27 =>
(ld1 t27 p18.2).bind fun p28 =>
(faP 1 false 1 p13.1).bind fun t29 =>
(ld1 t29 p28.2).bind fun p30 =>
(vu (updateV E0 48 v3 p28.1 p30.1 p30.2)).bind fun p31 =>
(binV E0 .add 3 false true v11 (.int .i64 1)).bind fun t32 =>
L28_9 self N nk ek n v3 v9 v10 t32 p31.2) (
(binV E0 .add 3 false true v11 (.int .i64 1)).bind fun t34 =>
L28_9 self N nk ek n v3 v9 v10 t34 p18.2)) (
ek 0 (fr 31 [(3, v3)]) S) := by kernel_rfl
noncomputable def F28 (self : EV) (N : Nat) (x0 : V) (S : St) : Rs := runF E0 self N Try.f28 B28 [x0] S
theorem F28_eq (self : EV) (N : Nat) (x0 : V) (S : St) : F28 self N x0 S =
(makeMapK E0 48 none S).bind fun p1 =>
(lnS x0 p1.2).bind fun p7 =>
L28_9 self N (R28_3 self N (finN E0 self Try.f28) noEx) (exB 0 (R28_3 self N (finN E0 self Try.f28) noEx) noEx) N p1.1 x0 p7.1 (.int .i64 0) p7.2 := by kernel_rfl
end
end Go.Proofs.Ytginkdeicmdmaaa.W
namespace Go.Proofs.Ytginkdeicmdmaaa.W
open Go.Proofs.Ytginkdeicmdmaaa.Ev Go.RowKit
noncomputable def lookAll (es : List ME) (v : V) : Nat → Nat → St → Option (Bool × St)
 | 0, _, s => some (true, s)
 | k + 1, i, s => (elemPtr 1 i v).bind fun p => match p with
  | .ptr b off => (ld s b off).bind fun q => bif keyOk .string q.1 then (mfind q.1 es 0).bind fun o => match o with
   | some _ => lookAll es v k (i + 1) q.2
   | none => some (false, q.2)
   else none
  | _ => none
noncomputable def rowIn (es : List ME) (v : V) (s : St) : Option (Bool × St) :=
 match v with
 | .str _ _ => none
 | v => (lenV v).bind fun n => bif Nat.blt n 4611686018427387904 then lookAll es v n 0 s else none
noncomputable def closedAll (es : List ME) : List ME → St → Option (Bool × St)
 | [], s => some (true, s)
 | e :: l, s => (rowIn es e.v s).bind fun p => (closedAll es l p.2).bind fun q => some (p.1 && q.1, q.2)
noncomputable def closedK (v : V) (s : St) : Option (En × St) :=
 match v with
 | .map r => (getO s r).bind fun q => match q.1 with
  | .map es clock => bif stampsR 0 es && Nat.ble (lastStamp es 0) clock then (some ((), nw q.2 .dead)).bind fun p => (closedAll es es p.2).bind fun z => some (.ret (.bool z.1), z.2) else none
  | _ => none
 | _ => none
noncomputable def kfClosed : KF := ⟨fun args s => match args with
 | [l] => ((ev E0 (fun _ => none) 5).f 28 [l] s).bind fun p => match p.1 with
  | .ret v => closedK v p.2
  | _ => none
 | _ => none⟩
section
theorem loc_lookAll (es : List ME) (v : V) : ∀ (k i : Nat), LocP fun s => lookAll es v k i s
 | 0, _ => LocP.ret _
 | k + 1, i => by
  unfold lookAll
  refine Loc.opt fun p => ?_
  cases p <;> try exact Loc.none
  refine Loc.bind (loc_ld _ _) fun q => ?_
  dsimp only
  refine Loc.cond (Loc.opt fun o => ?_) Loc.none
  cases o with
  | none => exact LocP.ret _
  | some _ => exact loc_lookAll es v k (i + 1)
theorem loc_rowIn (es : List ME) (v : V) : LocP fun s => rowIn es v s := by
 unfold rowIn
 cases v <;> first | exact Loc.none | (refine Loc.opt fun n => Loc.cond ?_ Loc.none; exact loc_lookAll es _ n 0)
theorem loc_closedAll (es : List ME) : ∀ l, LocP fun s => closedAll es l s
 | [] => LocP.ret _
 | e :: l => by
  unfold closedAll
  refine Loc.bind (loc_rowIn es e.v) fun p => ?_
  dsimp only
  refine Loc.bind (loc_closedAll es l) fun q => ?_
  exact LocP.ret (p && q)
theorem loc_closedK (v : V) : LocP fun s => closedK v s := by
 unfold closedK
 cases v <;> try exact Loc.none
 refine Loc.bind (loc_getO _) fun o => ?_
 cases o <;> try exact Loc.none
 refine Loc.cond (Loc.bind (LocP.nw (fun _ => ()) fun _ => .dead) fun _ => ?_) Loc.none
 dsimp only
 refine Loc.bind (loc_closedAll _ _) fun z => ?_
 exact LocP.ret (En.ret (.bool z))
theorem kfClosed_locp (args : List V) : LocP fun s => kfClosed.run args s := by
 unfold kfClosed
 dsimp only
 split
 · rename_i l
   refine Loc.bind ((loc_ev E0 (knOk_nil (P := Try.prog) (E := E0)).loc 5).1 28 [l]) fun e => ?_
   cases e with
   | ret v => exact loc_closedK v
   | pan v => exact Loc.none
 · exact Loc.none
theorem lg_lookAll (es : List ME) (v : V) : ∀ (k i : Nat), Lg.LocP fun s => lookAll es v k i s
 | 0, _ => Lg.LocP.ret _
 | k + 1, i => by
  unfold lookAll
  refine Lg.Loc.opt fun p => ?_
  cases p <;> try exact Lg.Loc.none
  refine Lg.Loc.bind (Lg.loc_ld _ _) fun q => ?_
  dsimp only
  refine Lg.Loc.cond (Lg.Loc.opt fun o => ?_) Lg.Loc.none
  cases o with
  | none => exact Lg.LocP.ret _
  | some _ => exact lg_lookAll es v k (i + 1)
theorem lg_rowIn (es : List ME) (v : V) : Lg.LocP fun s => rowIn es v s := by
 unfold rowIn
 cases v <;> first | exact Lg.Loc.none | (refine Lg.Loc.opt fun n => Lg.Loc.cond ?_ Lg.Loc.none; exact lg_lookAll es _ n 0)
theorem lg_closedAll (es : List ME) : ∀ l, Lg.LocP fun s => closedAll es l s
 | [] => Lg.LocP.ret _
 | e :: l => by
  unfold closedAll
  refine Lg.Loc.bind (lg_rowIn es e.v) fun p => ?_
  dsimp only
  refine Lg.Loc.bind (lg_closedAll es l) fun q => ?_
  exact Lg.LocP.ret (p && q)
theorem lg_closedK (v : V) : Lg.LocP fun s => closedK v s := by
 unfold closedK
 cases v <;> try exact Lg.Loc.none
 refine Lg.Loc.bind (Lg.loc_getO _) fun o => ?_
 cases o <;> try exact Lg.Loc.none
 refine Lg.Loc.cond (Lg.Loc.bind (Lg.LocP.nw (fun _ => ()) fun _ => .dead) fun _ => ?_) Lg.Loc.none
 dsimp only
 refine Lg.Loc.bind (lg_closedAll _ _) fun z => ?_
 exact Lg.LocP.ret (En.ret (.bool z))
theorem kfClosed_lg (args : List V) : Lg.LocP fun s => kfClosed.run args s := by
 unfold kfClosed
 dsimp only
 split
 · rename_i l
   refine Lg.Loc.bind ((Lg.loc_ev E0 Lg.knLoc_nil 5).1 28 [l]) fun e => ?_
   cases e with
   | ret v => exact lg_closedK v
   | pan v => exact Lg.Loc.none
 · exact Lg.Loc.none
end
theorem lookAll_same {es : List ME} {v : V} : ∀ {k i : Nat} {s t u : St} {b : Bool}, lookAll es v k i s = some (b, u) → Same s t → Same s u ∧ ∃ u', lookAll es v k i t = some (b, u') ∧ Same t u'
 | 0, i, s, t, u, b, h, hs => by
  simp only [lookAll, oS, pM] at h
  obtain ⟨rfl, rfl⟩ := h
  exact ⟨Same.refl _, t, rfl, Same.refl _⟩
 | k + 1, i, s, t, u, b, h, hs => by
  unfold lookAll at h ⊢
  simp only [oI] at h
  obtain ⟨p, hp, h⟩ := h
  rw [hp]
  simp only [oB]
  cases p <;> simp only [reduceCtorEq] at h
  rename_i pb off
  simp only [oI, Prod.exists] at h
  obtain ⟨x, s1, hl, h⟩ := h
  have hs1 : Same s s1 := by obtain ⟨_, _, _, _, _, _, _, _, rfl⟩ := ld_inv hl; exact Same.note ..
  have hl2 : ∃ t1, ld t pb off = some (x, t1) ∧ Same t t1 := by
   unfold ld at hl ⊢
   rw [hs.heap]
   split at hl
   · rename_i e esz n ro c hb
     cases hc : (Nat.blt off (esz * n) && Nat.blt (esz * n) big) with
     | false => rw [hc] at hl; cases hl
     | true =>
      rw [hc] at hl
      simp only [cond_true, oI, oS, pM] at hl
      obtain ⟨t', ht, v', hv, rfl, rfl⟩ := hl
      refine ⟨_, ?_, Same.note t pb off (off + 1) false⟩
      simp only [cond_true, ht, oB, hv]
   · cases hl
  obtain ⟨t1, hl2, ht1⟩ := hl2
  simp only [hl2, oB]
  cases hk : keyOk .string x with
  | false => rw [hk] at h; cases h
  | true =>
  rw [hk] at h
  simp only [cond_true, oI] at h ⊢
  obtain ⟨o, ho, h⟩ := h
  cases o with
  | none =>
   simp only [oS, pM] at h
   obtain ⟨rfl, rfl⟩ := h
   exact ⟨hs1, t1, ⟨none, ho, rfl⟩, ht1⟩
  | some y =>
   have hst : Same s1 t1 := ⟨by rw [ht1.heap, hs.heap, hs1.heap], by rw [ht1.next, hs.next, hs1.next]⟩
   obtain ⟨q1, u', q2, q3⟩ := lookAll_same (k := k) (i := i + 1) h hst
   exact ⟨hs1.trans q1, u', ⟨some y, ho, q2⟩, ht1.trans q3⟩
theorem rowIn_same {es : List ME} {v : V} {s t u : St} {b : Bool} (h : rowIn es v s = some (b, u)) (hs : Same s t) : Same s u ∧ ∃ u', rowIn es v t = some (b, u') ∧ Same t u' := by
 unfold rowIn at h ⊢
 cases v <;> simp only [reduceCtorEq] at h ⊢ <;>
 · simp only [oI] at h ⊢
   obtain ⟨n, hn, h⟩ := h
   cases hc : Nat.blt n 4611686018427387904 with
   | false => rw [hc] at h; cases h
   | true =>
    rw [hc] at h
    rw [cond_true] at h
    obtain ⟨q1, u', q2, q3⟩ := lookAll_same h hs
    exact ⟨q1, u', ⟨n, hn, by rw [hc]; exact q2⟩, q3⟩
noncomputable def fR (es : List ME) (s : St) (e : ME) : Bool := match rowIn es e.v s with | some p => p.1 | none => true
theorem closedAll_rows {es : List ME} {s : St} : ∀ {l : List ME} {t u : St} {b : Bool}, closedAll es l t = some (b, u) → Same s t → Same t u ∧ (∀ e ∈ l, ∃ u', rowIn es e.v s = some (fR es s e, u')) ∧ b = l.all (fR es s)
 | [], t, u, b, h, hs => by
  simp only [closedAll, oS, pM] at h
  obtain ⟨rfl, rfl⟩ := h
  exact ⟨Same.refl _, by simp, rfl⟩
 | e :: l, t, u, b, h, hs => by
  unfold closedAll at h
  simp only [oI, Prod.exists, oS, pM] at h
  obtain ⟨b1, s1, h1, b2, s2, h2, rfl, rfl⟩ := h
  obtain ⟨q1, u', r1, _⟩ := rowIn_same h1 (t := s) ⟨hs.heap.symm, hs.next.symm⟩
  obtain ⟨q2, hf, rfl⟩ := closedAll_rows h2 (hs.trans q1)
  have he : fR es s e = b1 := by unfold fR; rw [r1]
  refine ⟨q1.trans q2, fun x hx => ?_, by rw [List.all_cons, he]⟩
  rcases List.mem_cons.1 hx with rfl | hx
  · exact ⟨u', by rw [he]; exact r1⟩
  · exact hf x hx
end Go.Proofs.Ytginkdeicmdmaaa.W
namespace Go.Proofs.Ytginkdeicmdmaaa.W
open Go.Proofs.Ytginkdeicmdmaaa.Ev Go.RowKit
noncomputable def cl : Code → Code
 | .seq x _ => x
 | c => c
noncomputable def cr : Code → Code
 | .seq _ y => y
 | c => c
noncomputable def cb : Code → Code
 | .block _ x => x
 | .loop x => x
 | c => c
noncomputable def cops : Code → Array Oper
 | .region _ ops _ => ops
 | _ => #[]
noncomputable def cY : Code := cb (cb (cr (cl (cr (cr C12)))))
noncomputable def oR2 : Array Oper := cops (cl (cl (cr (cr C12))))
noncomputable def oR3 : Array Oper := cops (cl cY)
noncomputable def oR4 : Array Oper := cops (cl (cb (cr (cr cY))))
noncomputable def cZ : Code := cr (cb (cr (cr cY)))
noncomputable def cRest : Code := cr (cr (cr C12))
theorem C12_eq : C12 = .seq (cl C12) (.seq (cl (cr C12)) (.seq (.seq (.region 2 oR2 false) (.block 0 (.loop (.seq (.region 3 oR3 false) (.seq (.cond (.tmp 15) .skip (.exit 0)) (.block 1 (.seq (.region 4 oR4 false) cZ))))))) cRest)) := by kernel_rfl
noncomputable def DZ : D := B12.r.r.l.r.l.l.r.r.l.r
theorem DZ_isOf : isOf DZ cZ := by
 have h : DZ = (annot cZ [[], [3, 13, 18, 19, 20], [], [3, 13], [], [], [], [], [], [], [0], [2], []]).1 := by kernel_rfl
 rw [h]
 exact annot_isOf cZ _ (by kernel_rfl)
noncomputable def capR : Ac → St → Rs := fun a s => match a.defers, a.tmps.get 2 with
 | [], some v => some (.ret (.tuple [v]), s)
 | _, _ => none
noncomputable def KZ : Kt := { norm := capN, ret := capR, exit := fun i a s => bif Nat.beq i 1 then capN a s else none, pan := fun _ _ _ => none }
noncomputable def K2 : Kt := { KZ with exit := fun i a s => bif Nat.beq i 2 then KZ.norm a s else KZ.exit i a s }
noncomputable def L17 (self : EV) (N : Nat) (n : Nat) (v3 v13 v18 v19 v20 : V) (S : St) : Rs := loopK [3, 13, 18, 19, 20] (dr E0 self RL12 N (B12.r.r.l.r.l.l.r.r.l.r.r.l.l)) K2 n (fr 33 [(3, v3), (13, v13), (18, v18), (19, v19), (20, v20)]) S
theorem L17_eq (self : EV) (N : Nat) (n : Nat) (v3 v13 v18 v19 v20 : V) (S : St) : L17 self N (n + 1) v3 v13 v18 v19 v20 S =
(binV E0 .lss 3 false false v20 v19).bind fun t18 =>
ifK t18 (
(ixP 1 v18 v20).bind fun t19 =>
(ld1 t19 S).bind fun p20 =>
(lookupV E0 48 v3 p20.1 true p20.2).bind fun p24 =>
(extractV p24.1 0).bind fun _ =>
(extractV p24.1 1).bind fun t27 =>
(unV .not t27).bind fun t31 =>
ifK t31 (
some (.ret (.tuple [.bool false]), p24.2)) (
(binV E0 .add 3 false true v20 (.int .i64 1)).bind fun t33 =>
L17 self N n v3 v13 v18 v19 t33 p24.2)) (
some (.ret (.agg 33 (fr 33 [(3, v3), (13, v13)]).tmps), S)) := by kernel_rfl
theorem round_eq (self : EV) (N : Nat) (m it k v : V) (S : St) : opsK E0 self oR4 oR4.toList.tail (fun a s => dr E0 self RL12 N DZ KZ a s) (fun _ _ _ => none) (fr 33 [(3, m), (13, it), (16, .tuple [k, v])]) S =
 (lnS v S).bind fun p15 => L17 self N N m it v p15.1 (.int .i64 0) p15.2 := by kernel_rfl
theorem und48 : und E0 48 = some (.map 9 26) := by kernel_rfl
theorem und9 : und E0 9 = some .string := by kernel_rfl
theorem zero26 : zeroT E0 26 = some .nilslice := by kernel_rfl
theorem look_any {r : Nat} {es : List ME} {clock : Nat} {S : St} (h : S.heap.get r = some (.map es clock)) {x : V} (hk : keyOk .string x = true) {o : Option (Nat × V)} (ho : mfind x es 0 = some o) :
 ∃ z S', lookupV E0 48 (.map r) x true S = some (.tuple [z, .bool o.isSome], S') ∧ Same S S' := by
 unfold lookupV
 rw [und48]
 simp only [oB]
 rw [und9]
 simp only [oB, hk, cond_true]
 unfold getO
 rw [h]
 simp only [oB]
 rw [ho]
 cases o with
 | none => simp only [oB]; rw [zero26]; exact ⟨_, _, rfl, Same.note ..⟩
 | some q => exact ⟨_, _, rfl, Same.note ..⟩
theorem L17_spec (self : EV) (N : Nat) {r : Nat} {it v : V} {es : List ME} {clock len : Nat} (hlen : len < 4611686018427387904) : ∀ (k i n : Nat) (S U : St) (b : Bool), k < n → i + k = len → S.heap.get r = some (.map es clock) → lookAll es v k i S = some (b, U) →
 ∃ U', Same S U' ∧ L17 self N n (.map r) it v (.int .i64 (len : Int)) (.int .i64 (i : Int)) S = some (.ret (bif b then .agg 33 (fr 33 [(3, .map r), (13, it)]).tmps else .tuple [.bool false]), U') := by
 intro k
 induction k with
 | zero =>
  intro i n S U b hn hi hm h
  obtain ⟨n, rfl⟩ : ∃ m, n = m + 1 := ⟨n - 1, by omega⟩
  simp only [lookAll, oS, pM] at h
  obtain ⟨rfl, rfl⟩ := h
  refine ⟨S, Same.refl S, ?_⟩
  rw [L17_eq, binV_ii, intsV_lss, decide_eq_false (by omega)]
  rfl
 | succ k ih =>
  intro i n S U b hn hi hm h
  obtain ⟨n, rfl⟩ : ∃ m, n = m + 1 := ⟨n - 1, by omega⟩
  rw [L17_eq, binV_ii, intsV_lss, decide_eq_true (by omega)]
  unfold lookAll at h
  simp only [oI] at h
  obtain ⟨p, hp, h⟩ := h
  have hix : ixP 1 v (.int .i64 (i : Int)) = some p := by
   unfold ixP
   rw [natOf_cast]
   exact hp
  cases p <;> simp only [reduceCtorEq] at h
  rename_i pb off
  simp only [oI, Prod.exists] at h
  obtain ⟨x, s1, hl, h⟩ := h
  have hl' : ld1 (.ptr pb off) S = some (x, s1) := hl
  have hs1 : Same S s1 := by obtain ⟨_, _, _, _, _, _, _, _, rfl⟩ := ld_inv hl; exact Same.note ..
  cases hk : keyOk .string x with
  | false => rw [hk] at h; cases h
  | true =>
  rw [hk] at h
  simp only [cond_true, oI] at h
  obtain ⟨o, ho, h⟩ := h
  obtain ⟨z, s2, hlk, hs2⟩ := look_any (S := s1) (by rw [hs1.heap]; exact hm) hk ho
  simp only [oB, ifK, cond_true]
  rw [hix]
  simp only [oB]
  rw [hl']
  simp only [oB]
  rw [hlk]
  simp only [oB]
  have e0 : extractV (.tuple [z, .bool o.isSome]) 0 = some z := rfl
  have e1 : extractV (.tuple [z, .bool o.isSome]) 1 = some (.bool o.isSome) := rfl
  rw [e0, e1]
  simp only [oB]
  cases o with
  | none =>
   simp only [oS, pM] at h
   obtain ⟨rfl, rfl⟩ := h
   exact ⟨s2, hs1.trans hs2, rfl⟩
  | some y =>
   have hadd : binV E0 .add 3 false true (.int .i64 (i : Int)) (.int .i64 1) = some (.int .i64 ((i + 1 : Nat) : Int)) := by
    rw [binV_ii, intsV_add, wrap_i64 (by omega) (by omega)]
    rfl
   have hs : Same s1 s2 := hs2
   obtain ⟨_, u', hu, _⟩ := lookAll_same h hs
   obtain ⟨U', h1, h2⟩ := ih (i + 1) n s2 u' b (by omega) (by omega) (by rw [hs2.heap, hs1.heap]; exact hm) hu
   refine ⟨U', (hs1.trans hs2).trans h1, ?_⟩
   show (unV .not (.bool true)).bind _ = _
   have hnot : unV .not (.bool true) = some (.bool false) := rfl
   rw [hnot]
   simp only [oB, cond_false]
   rw [hadd]
   exact h2
end Go.Proofs.Ytginkdeicmdmaaa.W
namespace Go.Proofs.Ytginkdeicmdmaaa.W
open Go.Proofs.Ytginkdeicmdmaaa.Ev Go.RowKit
noncomputable def opAt (ops : Array Oper) (i : Nat) : Oper := (ops.toList.drop i).headD { dst := none, op := .move (.tmp 0), type := 0, pos := "", after := #[], guard := none }
theorem frame12 (l : V) : frameOf Try.f12 [l] = fr 33 [(0, l)] := by kernel_rfl
theorem oR2_eq : oR2.toList = [opAt oR2 0, opAt oR2 1] := by kernel_rfl
theorem oR3_eq : oR3.toList = [opAt oR3 0, opAt oR3 1] := by kernel_rfl
theorem oR4_eq : oR4.toList = opAt oR4 0 :: oR4.toList.tail := by kernel_rfl
theorem d_R0 (self : EV) (N : Nat) (l : V) (s : St) : dr E0 self RL12 N B12.l Kcap (fr 33 [(0, l)]) s = some (.ret (.agg 33 (fr 33 [(0, l), (2, .bool false)]).tmps), s) := by kernel_rfl
theorem d_R1 (self : EV) (N : Nat) (l : V) (s : St) : dr E0 self RL12 N B12.r.l Kcap (fr 33 [(0, l), (2, .bool false)]) s =
 onEn (self.f 28 [l] s) (fun v s => some (.ret (.agg 33 (fr 33 [(0, l), (2, .bool false), (10, l), (11, v), (3, v)]).tmps), s)) (fun _ _ => none) := by kernel_rfl
theorem d_mv (self : EV) (v : V) (s : St) : oneD E0 self oR2 (opAt oR2 0) (fr 33 [(3, v)]) s capN (fun _ _ _ => none) = some (.ret (.agg 33 (fr 33 [(3, v), (12, v)]).tmps), s) := by kernel_rfl
theorem op_rg : (opAt oR2 1).op = .range 48 (.tmp 12) ∧ (opAt oR2 1).guard = none ∧ (opAt oR2 1).dst = some 13 := ⟨by kernel_rfl, by kernel_rfl, by kernel_rfl⟩
theorem op_nx : (opAt oR3 0).op = .next (.tmp 13) false ∧ (opAt oR3 0).guard = none ∧ (opAt oR3 0).dst = some 14 := ⟨by kernel_rfl, by kernel_rfl, by kernel_rfl⟩
theorem op_en : (opAt oR4 0).op = .entry (.tmp 13) ∧ (opAt oR4 0).guard = none ∧ (opAt oR4 0).dst = some 16 := ⟨by kernel_rfl, by kernel_rfl, by kernel_rfl⟩
theorem d_ex (self : EV) (b : Bool) (m it : V) (l : List V) (s : St) : opsK E0 self oR3 [opAt oR3 1] capN (fun _ _ _ => none) (fr 33 [(3, m), (13, it), (14, .tuple (.bool b :: l))]) s =
 some (.ret (.agg 33 (fr 33 [(3, m), (13, it), (14, .tuple (.bool b :: l)), (15, .bool b)]).tmps), s) := by kernel_rfl
theorem isOf_R0 : isOf B12.l (cl C12) := by
 have h : B12.l = (annot (cl C12) []).1 := by kernel_rfl
 rw [h]; exact annot_isOf _ _ (by kernel_rfl)
theorem isOf_R1 : isOf B12.r.l (cl (cr C12)) := by
 have h : B12.r.l = (annot (cl (cr C12)) []).1 := by kernel_rfl
 rw [h]; exact annot_isOf _ _ (by kernel_rfl)
noncomputable def DRest : D := B12.r.r.r
theorem isOf_Rest : isOf DRest cRest := by
 have h : DRest = .out (annot cRest [[]]).1 [2] := by kernel_rfl
 rw [h]; exact annot_isOf cRest _ (by kernel_rfl)
end Go.Proofs.Ytginkdeicmdmaaa.W
namespace Go.Proofs.Ytginkdeicmdmaaa.W
open Go.Proofs.Ytginkdeicmdmaaa.Ev Go.RowKit
theorem E0_ok : EnvOk Try.prog E0 := envOf_ok (by kernel_rfl) (by kernel_rfl) (by kernel_rfl) (fun p hp => by
 simp only [List.mem_cons, List.not_mem_nil, or_false] at hp
 rcases hp with rfl
 exact ⟨fun h => absurd h (by decide), fun _ args w => by kernel_rfl, fun h => absurd h (by decide), fun h => absurd h (by decide), fun h => absurd h (by decide)⟩
 ) (by kernel_rfl) (by kernel_rfl) (by kernel_rfl)
theorem capR_inv {a : Ac} {s s' : St} {v : V} (h : capR a s = some (.ret v, s')) : a.defers = [] ∧ (∃ u, a.tmps.get 2 = some u ∧ v = .tuple [u]) ∧ s = s' := by
 unfold capR at h
 split at h
 · rename_i h1 h2
   simp only [oS, pM, En.ret.injEq] at h
   obtain ⟨rfl, rfl⟩ := h
   exact ⟨h1, ⟨_, h2, rfl⟩, rfl⟩
 · cases h
theorem d_Rest' (self : EV) (N : Nat) (s : St) : dr E0 self RL12 N DRest KZ (fr 33 []) s = some (.ret (.tuple [.bool true]), s) := by kernel_rfl
noncomputable def self0 : EV := ev E0 (fun _ => none) 5
theorem hs0 : EVSim Try.prog E0 self0 := ev_sim E0_ok knOk_nil 5
theorem hl0 : EVLoc self0 := loc_ev E0 (knOk_nil (P := Try.prog) (E := E0)).loc 5
theorem leaves12 {a : Ac} {b : Bool} {t : St} (h1 : a.defers = []) (h2 : a.tmps.get 2 = some (.bool b)) : leaves E0 self0 Try.f12 a a.defers .ret t = some (.ret (.bool b), t) := by
 rw [h1]
 unfold leaves
 have e : Try.f12.results.toList = [.tmp 2] := by kernel_rfl
 rw [e]
 have e2 : evO E0 a (.tmp 2) = some (.bool b) := by
  show (getP (Go.Proofs.Ytginkdeicmdmaaa.Ev.bits 2 2)).run a.tmps = _
  rw [getP_eq]
  exact h2
 simp only [resultsV, e2, oB, oneOr]
noncomputable def m13 (r bi : Nat) : Ac := fr 33 [(3, .map r), (13, .ptr bi 0)]
noncomputable def InvC (es : List ME) (s0 : St) (r bi : Nat) (seen : Array Nat) (a : Ac) (s : St) : Prop := ALe (m13 r bi) a ∧ Same s0 s ∧ ∀ e ∈ es, seen.contains e.born = true → fR es s0 e = true
noncomputable def OutC (es : List ME) (s0 : St) (x : X) (a : Ac) (s : St) : Prop := Same s0 s ∧ ((x = .exit 0 ∧ ALe (fr 33 []) a ∧ ∀ e ∈ es, fR es s0 e = true) ∨ (x = .ret ∧ a.defers = [] ∧ a.tmps.get 2 = some (.bool false) ∧ ∃ e ∈ es, fR es s0 e = false))
theorem set14 (r bi : Nat) (v : V) : ({ m13 r bi with tmps := (m13 r bi).tmps.set v 14 } : Ac) = fr 33 [(3, .map r), (13, .ptr bi 0), (14, v)] := by kernel_rfl
noncomputable def m15 (r bi : Nat) (b : Bool) (l : List V) : Ac := fr 33 [(3, .map r), (13, .ptr bi 0), (14, .tuple (.bool b :: l)), (15, .bool b)]
theorem putR3 {r bi : Nat} {a : Ac} (h : ALe (m13 r bi) a) (b : Bool) (l : List V) (s : St) : ∃ a1 a2, (putF (opAt oR3 0).dst).run a (.tuple (.bool b :: l)) = some a1 ∧ (opsL E0 oR3 [opAt oR3 1]).run self0 a1 s = some (.norm, a2, s) ∧ ALe (m15 r bi b l) a2 := by
 obtain ⟨a1, p1, p2⟩ := put_le h (d := 14) rfl (.tuple (.bool b :: l))
 rw [set14] at p2
 obtain ⟨a2, p3, p4⟩ := kcapL p2 (d_ex self0 b (.map r) (.ptr bi 0) l s)
 exact ⟨a1, a2, by rw [op_nx.2.2]; exact p1, p3, p4⟩
theorem m15_15 {r bi : Nat} {b : Bool} {l : List V} {a : Ac} (h : ALe (m15 r bi b l) a) : evO E0 a (.tmp 15) = some (.bool b) := by
 show (getP (Go.Proofs.Ytginkdeicmdmaaa.Ev.bits 15 15)).run a.tmps = _
 rw [getP_eq]
 exact h.tmps 15 _ (by kernel_rfl)
theorem m15_13 {r bi : Nat} {b : Bool} {l : List V} {a : Ac} (h : ALe (m15 r bi b l) a) : a.tmps.get 13 = some (.ptr bi 0) := h.tmps 13 _ (by kernel_rfl)
theorem m13_13 {r bi : Nat} {a : Ac} (h : ALe (m13 r bi) a) : a.tmps.get 13 = some (.ptr bi 0) := h.tmps 13 _ (by kernel_rfl)
theorem fr_nil {n : Nat} {T : Tr V} : ALe (fr n []) { tmps := T, n := n, defers := [], round := none } := ⟨rfl, rfl, rfl, fun t v ht => by
 have : (Tr.nil : Tr V).get t = some v := ht
 rw [Tr.get_nil] at this; cases this⟩
theorem fr_sub {n : Nat} : ∀ {l : List (Nat × V)} {T : Tr V}, (∀ p ∈ l, T.get p.1 = some p.2) → ALe (fr n l) { tmps := T, n := n, defers := [], round := none } := by
 intro l T h
 refine ⟨rfl, rfl, rfl, fun t v ht => ?_⟩
 have key : ∀ (l : List (Nat × V)) (acc : Tr V), (∀ p ∈ l, T.get p.1 = some p.2) → (∀ t v, acc.get t = some v → T.get t = some v) → ∀ t v, (frT l acc).get t = some v → T.get t = some v := by
  intro l
  induction l with
  | nil => intro acc _ hacc t v h; exact hacc t v h
  | cons p l ih =>
   intro acc hl hacc t v h
   refine ih (acc.set p.2 p.1) (fun q hq => hl q (List.mem_cons_of_mem _ hq)) (fun t v h => ?_) t v h
   rw [Tr.get_set] at h
   by_cases e : t = p.1
   · rw [if_pos e] at h; cases h; rw [e]; exact hl p (List.mem_cons_self ..)
   · rw [if_neg e] at h; exact hacc t v h
 exact key l .nil h (fun t v h => by rw [Tr.get_nil] at h; cases h) t v ht
theorem m15_le13 {r bi : Nat} {b : Bool} {l : List V} : ALe (m13 r bi) (m15 r bi b l) := fr_sub (l := [(3, .map r), (13, .ptr bi 0)]) (by
 intro p hp
 simp only [List.mem_cons, List.not_mem_nil, or_false] at hp
 rcases hp with rfl | rfl
 · kernel_rfl
 · kernel_rfl)
theorem lnS_of {v : V} {s : St} {n : Nat} (hv : ∀ l k, v ≠ .str l k) (h : lenV v = some n) : lnS v s = some (.int .i64 (n : Int), s) := by
 unfold lnS
 split
 · exact absurd rfl (hv _ _)
 · rw [h]; rfl
theorem end_step {es : List ME} {s0 : St} {r bi : Nat} {seen : Array Nat} {a : Ac} {s : St} (h : InvC es s0 r bi seen a s) (hall : ∀ e ∈ es, seen.contains e.born = true) :
 REnd E0 self0 oR3 (opAt oR3 0).dst [opAt oR3 1] (.tmp 15) 0 (OutC es s0) a s := by
 obtain ⟨h1, h2, h3⟩ := h
 obtain ⟨a1, a2, p1, p2, p3⟩ := putR3 h1 false [] s
 exact ⟨a1, a2, p1, p2, m15_15 p3, h2, .inl ⟨rfl, (fr_nil (T := (m15 r bi false []).tmps)).trans p3, fun e he => h3 e he (hall e he)⟩⟩
theorem round_step {es : List ME} {s0 : St} {r bi clock : Nat} (hm : s0.heap.get r = some (.map es clock)) (hrow : ∀ e ∈ es, ∃ u, rowIn es e.v s0 = some (fR es s0 e, u)) {seen : Array Nat} {a : Ac} {s : St} {e : ME} (h : InvC es s0 r bi seen a s) (he : e ∈ es)
 (hinj : ∀ e' ∈ es, e'.born = e.born → e' = e) :
 RStep E0 self0 oR3 oR4 (opAt oR3 0).dst (opAt oR4 0).dst [opAt oR3 1] oR4.toList.tail (.tmp 15) 1 cZ (InvC es s0 r bi (seen.push e.born)) (OutC es s0) e a s := by
 obtain ⟨h1, h2, h3⟩ := h
 obtain ⟨a1, a2, p1, p2, p3⟩ := putR3 h1 true [e.k, e.v] s
 obtain ⟨a3, p4, p5⟩ := put_le (m15_le13.trans p3) (d := 16) rfl (.tuple [e.k, e.v])
 have hset : ({ m13 r bi with tmps := (m13 r bi).tmps.set (.tuple [e.k, e.v]) 16 } : Ac) = fr 33 [(3, .map r), (13, .ptr bi 0), (16, .tuple [e.k, e.v])] := by kernel_rfl
 rw [hset] at p5
 obtain ⟨u0, hu0⟩ := hrow e he
 obtain ⟨_, u, hu, hsu⟩ := rowIn_same hu0 h2
 have hrun : ∃ U', Same s U' ∧ opsK E0 self0 oR4 oR4.toList.tail (fun a s => dr E0 self0 RL12 rounds DZ KZ a s) (fun _ _ _ => none) (fr 33 [(3, .map r), (13, .ptr bi 0), (16, .tuple [e.k, e.v])]) s = some (.ret (bif fR es s0 e then .agg 33 (m13 r bi).tmps else .tuple [.bool false]), U') := by
  rw [round_eq]
  unfold rowIn at hu
  have hgen : ∀ n, lenV e.v = some n → lnS e.v s = some (.int .i64 (n : Int), s) → Nat.blt n 4611686018427387904 = true → lookAll es e.v n 0 s = some (fR es s0 e, u) →
   ∃ U', Same s U' ∧ ((lnS e.v s).bind fun p15 => L17 self0 rounds rounds (.map r) (.ptr bi 0) e.v p15.1 (.int .i64 0) p15.2) = some (.ret (bif fR es s0 e then .agg 33 (m13 r bi).tmps else .tuple [.bool false]), U') := fun n hn hl hb hlk => by
   rw [hl]
   simp only [oB]
   have hlt := blt_true.1 hb
   obtain ⟨U', q1, q2⟩ := L17_spec self0 rounds (it := .ptr bi 0) (len := n) (clock := clock) hlt n 0 rounds s u _ (by unfold rounds; omega) (by omega) (by rw [h2.heap]; exact hm) hlk
   exact ⟨U', q1, q2⟩
  generalize e.v = v at hu hgen
  cases v <;> simp only [reduceCtorEq, oI] at hu <;>
  · obtain ⟨n, hn, hu⟩ := hu
    cases hb : Nat.blt n 4611686018427387904 with
    | false => rw [hb] at hu; cases hu
    | true =>
     rw [hb, cond_true] at hu
     exact hgen n hn (lnS_of (fun _ _ h => by cases h) hn) hb hu
 obtain ⟨U', hU, hrun⟩ := hrun
 obtain ⟨x, a4, s4, q1, q2⟩ := opsK_sound oR4.toList.tail p5 hrun
 rcases q2 with ⟨rfl, a4', q3, q4⟩ | ⟨v, a', rfl, q3, q4⟩
 · obtain ⟨x, a5, s5, z1, a5', z2, z3⟩ := dr_sound DZ cZ DZ_isOf KZ a4' a4 s4 q3 q4
   have hnorm : capN a5' s5 = some (.ret (bif fR es s0 e then .agg 33 (m13 r bi).tmps else .tuple [.bool false]), U') → InvC es s0 r bi (seen.push e.born) a5 s5 := fun hc => by
    cases hf : fR es s0 e with
    | false =>
     rw [hf, cond_false] at hc
     unfold capN at hc
     split at hc <;> cases hc
    | true =>
     rw [hf, cond_true] at hc
     obtain ⟨rfl, rfl⟩ := capN_inv hc
     refine ⟨z2, h2.trans hU, fun e' he' hs => ?_⟩
     have hs' : seen.contains e'.born = true ∨ e'.born = e.born := by
      rw [Array.contains_iff_mem, Array.mem_push, ← Array.contains_iff_mem] at hs
      exact hs
     rcases hs' with hs | hs
     · exact h3 e' he' hs
     · rw [hinj e' he' hs]; exact hf
   refine ⟨a1, a2, a3, a4, s4, x, a5, s5, p1, p2, m15_15 p3, by rw [op_en.2.2]; exact p4, q1, z1, fun hx => ?_, fun hx1 hx2 => ?_⟩
   · rcases hx with rfl | rfl
     · exact hnorm z3
     · exact hnorm z3
   · cases x with
     | norm => exact absurd rfl hx1
     | exit i =>
      have z3' : (bif Nat.beq i 1 then capN a5' s5 else none) = _ := z3
      cases hb : Nat.beq i 1 with
      | false => rw [hb] at z3'; cases z3'
      | true => exact absurd (by rw [beq_true.1 hb]) hx2
     | pan v => cases z3
     | ret =>
      have z3' : capR a5' s5 = _ := z3
      cases hf : fR es s0 e with
      | true =>
       rw [hf, cond_true] at z3'
       obtain ⟨_, ⟨u, _, hu⟩, _⟩ := capR_inv z3'
       cases hu
      | false =>
       rw [hf, cond_false] at z3'
       obtain ⟨c1, ⟨u, c2, hu⟩, rfl⟩ := capR_inv z3'
       cases hu
       exact ⟨h2.trans hU, .inr ⟨rfl, by rw [← z2.defers]; exact c1, z2.tmps 2 _ c2, e, he, hf⟩⟩
 · cases q4
end Go.Proofs.Ytginkdeicmdmaaa.W
namespace Go.Proofs.Ytginkdeicmdmaaa.W
open Go.Proofs.Ytginkdeicmdmaaa.Ev Go.RowKit
theorem born_eq : ∀ {l : List ME}, (l.map (·.born)).Nodup → ∀ {x y : ME}, x ∈ l → y ∈ l → x.born = y.born → x = y
 | [], _, _, _, h, _, _ => by cases h
 | a :: l, hn, x, y, hx, hy, h => by
  rw [List.map_cons, List.nodup_cons] at hn
  rcases List.mem_cons.1 hx with ex | hx'
  · rcases List.mem_cons.1 hy with ey | hy'
    · rw [ex, ey]
    · exact absurd (List.mem_map.2 ⟨y, hy', by rw [← h, ex]⟩) hn.1
  · rcases List.mem_cons.1 hy with ey | hy'
    · exact absurd (List.mem_map.2 ⟨x, hx', by rw [h, ey]⟩) hn.1
    · exact born_eq hn.2 hx' hy' h
theorem body12 : Try.f12.body = some C12 := by kernel_rfl
theorem range2 : List.range oR2.size = [0, 1] := by
 have : oR2.size = 2 := by rw [← Array.length_toList, oR2_eq]; rfl
 rw [this]; rfl
theorem rest_ret (a : Ac) (s : St) (h : ALe (fr 33 []) a) : ∃ a', (comp E0 cRest).run self0 a s = some (.ret, a', s) ∧ a'.defers = [] ∧ a'.tmps.get 2 = some (.bool true) := by
 obtain ⟨x, a', s', z1, a1, z2, z3⟩ := dr_sound DRest cRest isOf_Rest KZ (fr 33 []) a s h (d_Rest' self0 rounds s)
 have no : ∀ {a : Ac} {t : St}, capN a t ≠ some (.ret (.tuple [.bool true]), s) := fun {a t} h => by
  unfold capN at h
  split at h <;> cases h
 cases x with
 | norm => exact absurd z3 no
 | exit i =>
  have z3' : (bif Nat.beq i 1 then capN a1 s' else none) = _ := z3
  cases hb : Nat.beq i 1 with
  | false => rw [hb] at z3'; cases z3'
  | true => rw [hb] at z3'; exact absurd z3' no
 | pan v => cases z3
 | ret =>
  have z3' : capR a1 s' = _ := z3
  obtain ⟨c1, ⟨u, c2, hu⟩, rfl⟩ := capR_inv z3'
  cases hu
  exact ⟨a', z1, by rw [← z2.defers]; exact c1, z2.tmps 2 _ c2⟩
theorem closed_well : KnWell Try.prog E0 12 kfClosed := by
 refine ⟨kfClosed_locp, fun w0 ρ s w args cargs e t hR hv hg => ?_⟩
 unfold kfClosed at hg
 dsimp only at hg
 rcases args with _ | ⟨l, _ | ⟨l2, ls⟩⟩
 · cases hg
 case cons.cons => cases hg
 simp only [oI, Prod.exists] at hg
 obtain ⟨en, S2, h28, hg⟩ := hg
 cases en with
 | pan v => cases hg
 | ret v =>
 simp only at hg
 unfold closedK at hg
 cases v <;> simp only [reduceCtorEq] at hg
 rename_i r
 simp only [oI, Prod.exists] at hg
 obtain ⟨o, S3, hgo, hg⟩ := hg
 obtain ⟨hbr, rfl⟩ := getO_inv hgo
 cases o <;> simp only [reduceCtorEq] at hg
 rename_i es clock
 cases hc : (stampsR 0 es && Nat.ble (lastStamp es 0) clock) with
 | false => rw [hc] at hg; cases hg
 | true =>
 rw [hc] at hg
 simp only [cond_true, oB, oI, Prod.exists, oS, pM] at hg
 obtain ⟨b, U, hall, rfl, rfl⟩ := hg
 simp only [Bool.and_eq_true, ble_true] at hc
 obtain ⟨hSU, hrow, hb⟩ := closedAll_rows hall (Same.refl _)
 have hA := frameOf_rel (fn := Try.f12) hv (show 1 ≤ 33 by decide)
 rw [frame12] at hA
 obtain ⟨b1, r0, hb1⟩ := kcap isOf_R0 (ALe.refl _) (d_R0 self0 rounds l s)
 obtain ⟨b2, r1, hb2⟩ := kcap (E := E0) (self := self0) (n := 33) (T := (fr 33 [(0, l), (2, .bool false), (10, l), (11, .map r), (3, .map r)]).tmps) isOf_R1 hb1 (show dr E0 self0 RL12 rounds B12.r.l Kcap (fr 33 [(0, l), (2, .bool false)]) s = _ by
  rw [d_R1]
  have h28' : self0.f 28 [l] s = some (.ret (.map r), S2) := h28
  rw [h28']
  rfl)
 refine (callsIn_wide (n := 0)).1 (callsIn_of_wp_marks (F := fenceAt none) Try.func12 body12 trivial ?_)
 rw [C12_eq]
 refine wpIn_seq (wpIn_mono (comp_sim (rd := none) E0_ok hs0 hl0 (cl C12) hR hA rfl r0) fun ex ca1 w1 hx => ?_)
 obtain ⟨rfl, ρ1, hle1, hA1, hR1⟩ := hx
 refine wpIn_seq (wpIn_mono (comp_sim (rd := none) E0_ok hs0 hl0 (cl (cr C12)) hR1 hA1 (by rw [comp_round _ r0]; rfl) r1) fun ex ca2 w2 hx => ?_)
 obtain ⟨rfl, ρ2, hle2, hA2, hR2⟩ := hx
 have hA2' : ARel ρ2 (fr 33 [(3, .map r)]) ca2 := (hA2.less hb2).less (fr_sub (by
  intro p hp
  simp only [List.mem_cons, List.not_mem_nil, or_false] at hp
  subst hp
  kernel_rfl))
 have hR2n := hR2.note r 0 big false
 obtain ⟨b3, r2, hb3⟩ := kcap1 (E := E0) (self := self0) (ALe.refl _) (d_mv self0 (.map r) (S2.note r 0 big false))
 refine wpIn_seq (wpIn_seq (wpIn_region ?_))
 rw [range2, wpOpsIn_cons]
 refine op1_sim (w0 := w0) (rd := none) E0_ok hs0 (o := opAt oR2 0) (by rw [← Array.getElem?_toList, oR2_eq]; rfl) hR2n hA2' r2 (fun _ => rfl) (fun _ ρ3 ca3 w3 hle3 hA3 hR3 => ?_) (fun h => absurd rfl h)
 rw [wpOpsIn_cons]
 have hA3' := hA3.less hb3
 have h12 := hA3'.tmp 12 (.map r) (by kernel_rfl)
 obtain ⟨cr, sh, sz, hρr, hev⟩ : ∃ cr sh sz, ρ3 r = some (cr, sh, sz) ∧ ca3.eval (.tmp 12) = .map (some cr) := by
  show ∃ cr sh sz, ρ3 r = some (cr, sh, sz) ∧ ca3.tmps.getD 12 undef = .map (some cr)
  generalize ca3.tmps.getD 12 undef = cv at h12
  cases h12 with
  | map h => exact ⟨_, _, _, h, rfl⟩
 have hbr3 : (S2.note r 0 big false).heap.get r = some (.map es clock) := by rw [note_heap]; exact hbr
 obtain ⟨ces, hwr, hme⟩ := map_of hR3 hbr3 hρr
 obtain ⟨hs1, hs2⟩ := stampsR_spec 0 clock hme hc.1 hc.2
 have hold : ∀ e ∈ es, e.born < clock := fun e he => by
  obtain ⟨c, hcm, h'⟩ := hme.mem e he
  rw [h'.born]; exact (hs1 c hcm).2
 have hnd : (es.map (·.born)).Nodup := by rw [← hme.borns]; exact hs2
 refine hand_op (o := opAt oR2 1) (by rw [← Array.getElem?_toList, oR2_eq]; rfl) op_rg.2.1 (fun _ h => by rw [op_rg.1] at h; cases h) (v := .pointer (some ⟨w3.heap.size, 0, none⟩)) (w' := w3.alloc (.mapIter (some cr) clock #[] clock)) ?_ ?_
 · simp only [execOp, op_rg.1, hev]
   rw [run_bind_ok (run_range_map w3 48 9 26 cr ces clock (und_ok E0_ok und48) hwr)]
   rfl
 have hbel : Below w3.heap.size w3 (w3.alloc (.mapIter (some cr) clock #[] clock)) := (Below.refl _ w3).alloc (Nat.le_refl _) _
 have hg3 := hR3.grown hbel
 have hRj := hg3.join .dead (cb := w3.heap.size) (sh := 0) (sz := 1) hg3.below (fun _ _ _ _ _ _ _ _ => rfl) (fun h => by cases h) hg3.fz (fun h => by cases h) trivial
 have hle4 : ρ3.le (ρ3.add (S2.note r 0 big false).next (w3.heap.size, 0, 1)) := Rho.add_le hR3.fresh
 obtain ⟨b4, p4, q4⟩ := put_le (ALe.refl (fr 33 [(3, .map r), (12, .map r)])) (d := 13) rfl (.ptr (S2.note r 0 big false).next 0)
 have hA4 := (put_sim (hA3'.mono hle4) p4 (cv := .pointer (some ⟨w3.heap.size, 0, none⟩)) (.ptr Rho.add_same)).1
 have hI : InvC es (nw (S2.note r 0 big false) .dead) r (S2.note r 0 big false).next #[] b4 (nw (S2.note r 0 big false) .dead) :=
  ⟨(fr_sub (l := [(3, .map r), (13, .ptr (S2.note r 0 big false).next 0)]) (T := ((fr 33 [(3, .map r), (12, .map r)]).tmps.set (.ptr (S2.note r 0 big false).next 0) 13)) (by
    intro p hp
    simp only [List.mem_cons, List.not_mem_nil, or_false] at hp
    rcases hp with rfl | rfl
    · kernel_rfl
    · kernel_rfl)).trans q4, Same.refl _, fun e _ h => by simp at h⟩
 have hget : ∀ x, (nw (S2.note r 0 big false) .dead).heap.get x = if x = (S2.note r 0 big false).next then some .dead else (S2.note r 0 big false).heap.get x := fun x => by
  show ((((S2.note r 0 big false).note (S2.note r 0 big false).next 0 big true).heap).setS .dead (S2.note r 0 big false).next).get x = _
  rw [note_heap, Tr.setS_eq, Tr.get_set]
 have hrne : r ≠ (S2.note r 0 big false).next := fun e => by
  have := hR3.fresh
  rw [← e, hρr] at this
  cases this
 have hmap0 : (nw (S2.note r 0 big false) .dead).heap.get r = some (.map es clock) := by rw [hget, if_neg hrne]; exact hbr3
 have hS : Spare w0 (ρ3.add (S2.note r 0 big false).next (w3.heap.size, 0, 1)) (nw (S2.note r 0 big false) .dead) w3.heap.size := by
  refine ⟨fun hp => ?_, ?_, fun x o sh sz hx ha hρ => ?_⟩
  · have := w0.protLt _ hp
    have := hR3.below.size
    omega
  · rw [Rho.add_fz]
    cases hf : ρ3.fz w3.heap.size with
    | none => rfl
    | some o => have := hR3.fzLt hf; omega
  · rw [hget] at hx
    by_cases ex : x = (S2.note r 0 big false).next
    · rw [if_pos ex] at hx; cases hx; cases ha
    · rw [if_neg ex] at hx
      rw [Rho.add_eq, if_neg ex] at hρ
      have := hR3.inHeap hx ha hρ
      omega
 have hcell : (w3.alloc (.mapIter (some cr) clock #[] clock)).heap[w3.heap.size]? = some (.mapIter (some cr) clock #[] clock) := World.alloc_heap_new w3 _
 rw [op_rg.2.2]
 refine wpIn_block (wpIn_mono (wpIn_loop_rounds (es.length + 1) (mloop_sim (w0 := w0) (B1 := 1) (on := opAt oR3 0) (oe := opAt oR4 0) (ti := 13) E0_ok hs0 hl0 oR3_eq op_nx.1 op_nx.2.1 oR4_eq op_en.1 op_en.2.1 (es := es) (clock := clock) (b := r) (bi := (S2.note r 0 big false).next) (r := w3.heap.size) (cr := cr) (sh := sh) (sz := sz) hold hnd
  (Inv := InvC es (nw (S2.note r 0 big false) .dead) r (S2.note r 0 big false).next) (Out := OutC es (nw (S2.note r 0 big false) .dead))
  (fun seen a s h => ⟨m13_13 h.1, by rw [h.2.1.heap]; exact hmap0, h.1.round.symm⟩)
  (fun seen a s e a1 a2 h p1 p2 => by
   obtain ⟨a1', a2', t1, t2, t3⟩ := putR3 h.1 true [e.k, e.v] s
   rw [t1] at p1
   cases p1
   rw [t2] at p2
   cases p2
   exact m15_13 t3)
  (fun seen a s h hall => end_step h hall)
  (fun seen a s e h he hn => round_step hmap0 hrow h he (fun e' he' hb => born_eq hnd he' he hb))
  (ρ0 := ρ3.add (S2.note r 0 big false).next (w3.heap.size, 0, 1)) (es.length + 1) (seen := #[]) (Nat.lt_succ_of_le (List.length_filter_le _ _)) (Rho.le_refl _) hRj hS hA4 Rho.add_same (hle4 _ _ hρr) hcell hI)) fun ex ca5 w5 hx => ?_)
 obtain ⟨x, a5, s5, ⟨hs5, hout⟩, hne, hX⟩ := hx
 have hle05 : ρ.le (ρ3.add (S2.note r 0 big false).next (w3.heap.size, 0, 1)) := Rho.le_trans hle1 (Rho.le_trans hle2 (Rho.le_trans hle3 hle4))
 have hfin : ∀ {ρ6 : Rho} {a6 : Ac} {ca6 : Act} {w6 : World}, ρ.le ρ6 → ARel ρ6 a6 ca6 → Rel E0 w0 ρ6 s5 w6 → a6.defers = [] → a6.tmps.get 2 = some (.bool b) → LeavesInM (fenceAt none) 0 Try.prog Try.f12 ca6.tmps (EnSim E0 w0 ρ U (.ret (.bool b))) ca6.defers .returning w6 := fun {ρ6 a6 ca6 w6} h1 h2 h3 h4 h5 => by
  have hsu : Same s5 U := ⟨by rw [hSU.heap, hs5.heap], by rw [hSU.next, hs5.next]⟩
  exact leaves_sim (m := .ret) E0_ok hs0 hl0 a6.defers h1 (h3.same hsu) h2 h2.defers rfl (leaves12 h4 h5)
 rcases hout with ⟨rfl, ha5, hallT⟩ | ⟨rfl, hd5, h25, e', he', hf'⟩
 · obtain ⟨rfl, ρ5, hle5, hA5, hR5⟩ := hX
   simp only [Exit.inBlock, if_true]
   obtain ⟨a6, z1, z2, z3⟩ := rest_ret a5 s5 ha5
   refine wpIn_mono (comp_sim (rd := none) E0_ok hs0 hl0 cRest hR5 hA5 (by rw [← ha5.round]; rfl) z1) fun ex ca6 w6 hx => ?_
   obtain ⟨rfl, ρ6, hle6, hA6, hR6⟩ := hx
   have hbt : b = true := by rw [hb]; exact List.all_eq_true.2 hallT
   exact hfin (Rho.le_trans hle05 (Rho.le_trans hle5 hle6)) hA6 hR6 z2 (by rw [hbt]; exact z3)
 · obtain ⟨rfl, ρ5, hle5, hA5, hR5⟩ := hX
   have hbf : b = false := by
    rw [hb, Bool.eq_false_iff]
    intro h
    have := List.all_eq_true.1 h e' he'
    rw [hf'] at this
    cases this
   exact hfin (Rho.le_trans hle05 hle5) hA5 hR5 hd5 (by rw [hbf]; exact h25)
end Go.Proofs.Ytginkdeicmdmaaa.W
namespace Go.Proofs.Ytginkdeicmdmaaa.W
open Go.Proofs.Ytginkdeicmdmaaa.Ev
set_option maxRecDepth 100000
noncomputable section
noncomputable def C9 : Code := Try.f9.body.getD .skip
noncomputable def B9 : D := (annot C9 [[], []]).1
noncomputable def F9 (self : EV) (N : Nat) (x0 x1 : V) (S : St) : Rs := runF E0 self N Try.f9 B9 [x0, x1] S
theorem F9_eq (self : EV) (N : Nat) (x0 x1 : V) (S : St) : F9 self N x0 x1 S =
callP (self.f 28 [x0] S) fun t2 S2 =>
callP (self.f 27 [t2, x1] S2) fun t4 S4 =>
callP (self.f 26 [t4, (.fn (.func 29) [] [])] S4) fun t5 S5 =>
some (.ret t5, S5) := by kernel_rfl
noncomputable def C10 : Code := Try.f10.body.getD .skip
noncomputable def B10 : D := (annot C10 [[], [], [], []]).1
noncomputable def F10 (self : EV) (N : Nat) (x0 x1 : V) (S : St) : Rs := runF E0 self N Try.f10 B10 [x0, x1] S
theorem F10_eq (self : EV) (N : Nat) (x0 x1 : V) (S : St) : F10 self N x0 x1 S =
callP (self.f 28 [x0] S) fun t2 S2 =>
callP (self.f 27 [t2, x1] S2) fun t6 S6 =>
(some (nwP 46 1 (Go.Proofs.Ytginkdeicmdmaaa.Ev.one .nilmap) S6)).bind fun p7 =>
(stP 1 p7.1 t6 p7.2).bind fun p8 =>
callP (self.f 30 [t2, (.fn (.func 31) [] [p7.1])] p8.2) fun t11 S11 =>
some (.ret t11, S11) := by kernel_rfl
noncomputable def C26 : Code := Try.f26.body.getD .skip
noncomputable def B26 : D := (annot C26 [[], [], [], [1, 5, 10, 11, 12], [], [5], [], [], [], [], [0, 5], [4], []]).1
noncomputable def RL26 : List Nat := cellsOf Try.f26.results.toList
noncomputable def R26_2 (self : EV) (N : Nat) (nk : Ac → St → Rs) (ek : Nat → Ac → St → Rs) (a : Ac) (S : St) : Rs := projK [5] a fun a => dr E0 self RL26 N (B26.r.r).r (mkK E0 self Try.f26 nk ek) a S
theorem R26_2_eq (self : EV) (N : Nat) (nk : Ac → St → Rs) (ek : Nat → Ac → St → Rs) ( v5 : V) (S : St) : R26_2 self N nk ek (fr 25 [(5, v5)]) S =
some (.ret v5, S) := by kernel_rfl
noncomputable def L26_10 (self : EV) (N : Nat) (nk : Ac → St → Rs) (ek : Nat → Ac → St → Rs) (n : Nat) ( v1 v5 v10 v11 v12 : V) (S : St) : Rs := loopK [1, 5, 10, 11, 12] (dr E0 self RL26 N (B26.r.r.l.r.l.l)) (mkK E0 self Try.f26 nk ek) n (fr 25 [(1, v1), (5, v5), (10, v10), (11, v11), (12, v12)]) S
theorem L26_10_eq (self : EV) (N : Nat) (nk : Ac → St → Rs) (ek : Nat → Ac → St → Rs) (n : Nat) ( v1 v5 v10 v11 v12 : V) (S : St) : L26_10 self N nk ek (n + 1) v1 v5 v10 v11 v12 S =
(binV E0 .lss 3 false false v12 v11).bind fun t11 =>
ifK t11 (
(ixP 1 v10 v12).bind fun t12 =>
(ld1 t12 S).bind fun p13 =>
callP (callK E0 self v1 [p13.1] p13.2) fun t17 S17 =>
ifK t17 (
(bsP 9 1 1 (Go.Proofs.Ytginkdeicmdmaaa.Ev.one (sv [])) [(0, p13.1)] S17).bind fun p20 =>
(apP 9 1 16 v5 p20.1 p20.2).bind fun p21 =>
(binV E0 .add 3 false true v12 (.int .i64 1)).bind fun t23 =>
L26_10 self N nk ek n v1 p21.1 v10 v11 t23 p21.2) (
(binV E0 .add 3 false true v12 (.int .i64 1)).bind fun t25 =>
L26_10 self N nk ek n v1 v5 v10 v11 t25 S17)) (
ek 0 (fr 25 [(5, v5)]) S) := by kernel_rfl
noncomputable def F26 (self : EV) (N : Nat) (x0 x1 : V) (S : St) : Rs := runF E0 self N Try.f26 B26 [x0, x1] S
theorem F26_eq (self : EV) (N : Nat) (x0 x1 : V) (S : St) : F26 self N x0 x1 S =
callP (self.f 45 [x0] S) fun t6 S6 =>
callP (self.f 44 [t6] S6) fun t7 S7 =>
(lnS t7 S7).bind fun p8 =>
L26_10 self N (R26_2 self N (finN E0 self Try.f26) noEx) (exB 0 (R26_2 self N (finN E0 self Try.f26) noEx) noEx) N x1 .nilslice t7 p8.1 (.int .i64 0) p8.2 := by kernel_rfl
noncomputable def C30 : Code := Try.f30.body.getD .skip
noncomputable def B30 : D := (annot C30 [[], [], [], [1, 5, 10, 11, 12], [], [5], [], [], [], [], [0, 5], [4], []]).1
noncomputable def RL30 : List Nat := cellsOf Try.f30.results.toList
noncomputable def R30_2 (self : EV) (N : Nat) (nk : Ac → St → Rs) (ek : Nat → Ac → St → Rs) (a : Ac) (S : St) : Rs := projK [5] a fun a => dr E0 self RL30 N (B30.r.r).r (mkK E0 self Try.f30 nk ek) a S
theorem R30_2_eq (self : EV) (N : Nat) (nk : Ac → St → Rs) (ek : Nat → Ac → St → Rs) ( v5 : V) (S : St) : R30_2 self N nk ek (fr 25 [(5, v5)]) S =
some (.ret v5, S) := by kernel_rfl
noncomputable def L30_10 (self : EV) (N : Nat) (nk : Ac → St → Rs) (ek : Nat → Ac → St → Rs) (n : Nat) ( v1 v5 v10 v11 v12 : V) (S : St) : Rs := loopK [1, 5, 10, 11, 12] (dr E0 self RL30 N (B30.r.r.l.r.l.l)) (mkK E0 self Try.f30 nk ek) n (fr 25 [(1, v1), (5, v5), (10, v10), (11, v11), (12, v12)]) S
theorem L30_10_eq (self : EV) (N : Nat) (nk : Ac → St → Rs) (ek : Nat → Ac → St → Rs) (n : Nat) ( v1 v5 v10 v11 v12 : V) (S : St) : L30_10 self N nk ek (n + 1) v1 v5 v10 v11 v12 S =
(binV E0 .lss 3 false false v12 v11).bind fun t11 =>
ifK t11 (
(ixP 1 v10 v12).bind fun t12 =>
(ld1 t12 S).bind fun p13 =>
callP (callK E0 self v1 [p13.1] p13.2) fun t17 S17 =>
ifK t17 (
(bsP 9 1 1 (Go.Proofs.Ytginkdeicmdmaaa.Ev.one (sv [])) [(0, p13.1)] S17).bind fun p20 =>
(apP 9 1 16 v5 p20.1 p20.2).bind fun p21 =>
(binV E0 .add 3 false true v12 (.int .i64 1)).bind fun t23 =>
L30_10 self N nk ek n v1 p21.1 v10 v11 t23 p21.2) (
(binV E0 .add 3 false true v12 (.int .i64 1)).bind fun t25 =>
L30_10 self N nk ek n v1 v5 v10 v11 t25 S17)) (
ek 0 (fr 25 [(5, v5)]) S) := by kernel_rfl
noncomputable def F30 (self : EV) (N : Nat) (x0 x1 : V) (S : St) : Rs := runF E0 self N Try.f30 B30 [x0, x1] S
theorem F30_eq (self : EV) (N : Nat) (x0 x1 : V) (S : St) : F30 self N x0 x1 S =
callP (self.f 47 [x0] S) fun t6 S6 =>
callP (self.f 44 [t6] S6) fun t7 S7 =>
(lnS t7 S7).bind fun p8 =>
L30_10 self N (R30_2 self N (finN E0 self Try.f30) noEx) (exB 0 (R30_2 self N (finN E0 self Try.f30) noEx) noEx) N x1 .nilslice t7 p8.1 (.int .i64 0) p8.2 := by kernel_rfl
end
end Go.Proofs.Ytginkdeicmdmaaa.W
namespace Go.Proofs.Ytginkdeicmdmaaa.W
open Go.Proofs.Ytginkdeicmdmaaa.Ev
set_option maxRecDepth 100000
noncomputable section
noncomputable def C27 : Code := Try.f27.body.getD .skip
noncomputable def B27 : D := (annot C27 [[], [], [], [], [], [5, 6, 11, 12, 13], [], [5], [], [], [], [0, 5], [4], []]).1
noncomputable def RL27 : List Nat := cellsOf Try.f27.results.toList
noncomputable def R27_8 (self : EV) (N : Nat) (nk : Ac → St → Rs) (ek : Nat → Ac → St → Rs) (a : Ac) (S : St) : Rs := projK [5] a fun a => dr E0 self RL27 N (B27.r.r.r.r).r (mkK E0 self Try.f27 nk ek) a S
theorem R27_8_eq (self : EV) (N : Nat) (nk : Ac → St → Rs) (ek : Nat → Ac → St → Rs) ( v5 : V) (S : St) : R27_8 self N nk ek (fr 22 [(5, v5)]) S =
(ld1 v5 S).bind fun p9 =>
some (.ret p9.1, p9.2) := by kernel_rfl
noncomputable def L27_14 (self : EV) (N : Nat) (nk : Ac → St → Rs) (ek : Nat → Ac → St → Rs) (n : Nat) ( v5 v6 v11 v12 v13 : V) (S : St) : Rs := loopK [5, 6, 11, 12, 13] (dr E0 self RL27 N (B27.r.r.r.r.l.r.l.l)) (mkK E0 self Try.f27 nk ek) n (fr 22 [(5, v5), (6, v6), (11, v11), (12, v12), (13, v13)]) S
theorem L27_14_eq (self : EV) (N : Nat) (nk : Ac → St → Rs) (ek : Nat → Ac → St → Rs) (n : Nat) ( v5 v6 v11 v12 v13 : V) (S : St) : L27_14 self N nk ek (n + 1) v5 v6 v11 v12 v13 S =
(binV E0 .lss 3 false false v13 v12).bind fun t15 =>
ifK t15 (
(ixP 1 v11 v13).bind fun t16 =>
(ld1 t16 S).bind fun p17 =>
(ld1 v6 p17.2).bind fun p19 =>
callP (callK E0 self p19.1 [p17.1] p19.2) fun t21 S21 =>
(binV E0 .add 3 false true v13 (.int .i64 1)).bind fun t22 =>
L27_14 self N nk ek n v5 v6 v11 v12 t22 S21) (
ek 0 (fr 22 [(5, v5)]) S) := by kernel_rfl
noncomputable def F27 (self : EV) (N : Nat) (x0 x1 : V) (S : St) : Rs := runF E0 self N Try.f27 B27 [x0, x1] S
theorem F27_eq (self : EV) (N : Nat) (x0 x1 : V) (S : St) : F27 self N x0 x1 S =
(boxK 48 x0 S).bind fun p0 =>
(makeMapK E0 46 none p0.2).bind fun p2 =>
(some (nwP 46 1 (Go.Proofs.Ytginkdeicmdmaaa.Ev.one .nilmap) p2.2)).bind fun p3 =>
(stP 1 p3.1 p2.1 p3.2).bind fun p4 =>
(some (nwP 62 1 (Go.Proofs.Ytginkdeicmdmaaa.Ev.one .nilfn) p4.2)).bind fun p5 =>
(stP 1 p5.1 (.fn (.func 46) [] [p0.1, p3.1, p5.1]) p5.2).bind fun p7 =>
(lnS x1 p7.2).bind fun p12 =>
L27_14 self N (R27_8 self N (finN E0 self Try.f27) noEx) (exB 0 (R27_8 self N (finN E0 self Try.f27) noEx) noEx) N p3.1 p5.1 x1 p12.1 (.int .i64 0) p12.2 := by kernel_rfl
noncomputable def C46 : Code := Try.f46.body.getD .skip
noncomputable def B46 : D := (annot C46 [[], [], [], [], [], [3, 25, 26, 27], [], [], [], [], []]).1
noncomputable def RL46 : List Nat := cellsOf Try.f46.results.toList
noncomputable def L46_22 (self : EV) (N : Nat) (nk : Ac → St → Rs) (ek : Nat → Ac → St → Rs) (n : Nat) ( v3 v25 v26 v27 : V) (S : St) : Rs := loopK [3, 25, 26, 27] (dr E0 self RL46 N (B46.r.r.r.r.l.l)) (mkK E0 self Try.f46 nk ek) n (fr 35 [(3, v3), (25, v25), (26, v26), (27, v27)]) S
theorem L46_22_eq (self : EV) (N : Nat) (nk : Ac → St → Rs) (ek : Nat → Ac → St → Rs) (n : Nat) ( v3 v25 v26 v27 : V) (S : St) : L46_22 self N nk ek (n + 1) v3 v25 v26 v27 S =
(binV E0 .lss 3 false false v27 v26).bind fun t23 =>
ifK t23 (
(ixP 1 v25 v27).bind fun t24 =>
(ld1 t24 S).bind fun p25 =>
(ld1 v3 p25.2).bind fun p27 =>
callP (callK E0 self p27.1 [p25.1] p27.2) fun t29 S29 =>
(binV E0 .add 3 false true v27 (.int .i64 1)).bind fun t30 =>
L46_22 self N nk ek n v3 v25 v26 t30 S29) (
ek 0 (fr 35 []) S) := by kernel_rfl
noncomputable def F46 (self : EV) (N : Nat) (x0 x1 x2 x3 : V) (S : St) : Rs := runF E0 self N Try.f46 B46 [x0, x1, x2, x3] S
theorem F46_eq (self : EV) (N : Nat) (x0 x1 x2 x3 : V) (S : St) : F46 self N x0 x1 x2 x3 S =
(ld1 x1 S).bind fun p0 =>
(lookupV E0 48 p0.1 x0 true p0.2).bind fun p2 =>
(extractV p2.1 0).bind fun t4 =>
(extractV p2.1 1).bind fun t5 =>
(unV .not t5).bind fun t9 =>
(guardV false t9).bind fun g11 => (bif g11 then ld1 x2 p2.2 else some (.tuple [], p2.2)).bind fun p11 =>
(guardV false t9).bind fun g12 => (bif g12 then some x0 else some (.tuple [])).bind fun t12 =>
(guardV false t9).bind fun g13 => (bif g13 then lookupV E0 46 p11.1 t12 false p11.2 else some (.tuple [], p11.2)).bind fun p13 =>
(guardV false t9).bind fun g14 => (bif g14 then binV E0 .gtr 3 false true p13.1 (.int .i64 0) else some (.tuple [])).bind fun t14 =>
(pickV t9 (some (.bool true)) (some t14)).bind fun t15 =>
ifK t15 (
some (.ret (.tuple []), p13.2)) (
(ld1 x2 p13.2).bind fun p16 =>
(vu (updateV E0 46 p16.1 x0 (.int .i64 1) p16.2)).bind fun p18 =>
(lnS t4 p18.2).bind fun p20 =>
L46_22 self N (finN E0 self Try.f46) (exB 0 (finN E0 self Try.f46) noEx) N x3 t4 p20.1 (.int .i64 0) p20.2) := by kernel_rfl
noncomputable def C29 : Code := Try.f29.body.getD .skip
noncomputable def B29 : D := (annot C29 [[], []]).1
noncomputable def F29 (self : EV) (N : Nat) (x0 : V) (S : St) : Rs := runF E0 self N Try.f29 B29 [x0] S
theorem F29_eq (self : EV) (N : Nat) (x0 : V) (S : St) : F29 self N x0 S =
some (.ret (.bool true), S) := by kernel_rfl
noncomputable def C31 : Code := Try.f31.body.getD .skip
noncomputable def B31 : D := (annot C31 [[], []]).1
noncomputable def F31 (self : EV) (N : Nat) (x0 x1 : V) (S : St) : Rs := runF E0 self N Try.f31 B31 [x0, x1] S
theorem F31_eq (self : EV) (N : Nat) (x0 x1 : V) (S : St) : F31 self N x0 x1 S =
(ld1 x1 S).bind fun p1 =>
(lookupV E0 46 p1.1 x0 false p1.2).bind fun p3 =>
(binV E0 .eql 3 false true p3.1 (.int .i64 0)).bind fun t4 =>
some (.ret t4, p3.2) := by kernel_rfl
noncomputable def C45 : Code := Try.f45.body.getD .skip
noncomputable def B45 : D := (annot C45 [[], []]).1
noncomputable def F45 (self : EV) (N : Nat) (x0 : V) (S : St) : Rs := runF E0 self N Try.f45 B45 [x0] S
theorem F45_eq (self : EV) (N : Nat) (x0 : V) (S : St) : F45 self N x0 S =
(boxK 46 x0 S).bind fun p0 =>
some (.ret (.fn (.func 53) [] [p0.1]), p0.2) := by kernel_rfl
noncomputable def C47 : Code := Try.f47.body.getD .skip
noncomputable def B47 : D := (annot C47 [[], []]).1
noncomputable def F47 (self : EV) (N : Nat) (x0 : V) (S : St) : Rs := runF E0 self N Try.f47 B47 [x0] S
theorem F47_eq (self : EV) (N : Nat) (x0 : V) (S : St) : F47 self N x0 S =
(boxK 48 x0 S).bind fun p0 =>
some (.ret (.fn (.func 54) [] [p0.1]), p0.2) := by kernel_rfl
end
end Go.Proofs.Ytginkdeicmdmaaa.W
namespace Go.Proofs.Ytginkdeicmdmaaa.W
open Go.Proofs.Ytginkdeicmdmaaa.Ev
set_option maxRecDepth 100000
noncomputable section
end
end Go.Proofs.Ytginkdeicmdmaaa.W
namespace Go.Proofs.Ytginkdeicmdmaaa.W
open Go.Proofs.Ytginkdeicmdmaaa.Ev
set_option maxRecDepth 100000
noncomputable section
end
end Go.Proofs.Ytginkdeicmdmaaa.W
namespace Go.Proofs.Ytginkdeicmdmaaa.W
open Go.Proofs.Ytginkdeicmdmaaa.Ev
set_option maxRecDepth 100000
noncomputable section
end
end Go.Proofs.Ytginkdeicmdmaaa.W
namespace Go.Proofs.Ytginkdeicmdmaaa.W
open Go.Proofs.Ytginkdeicmdmaaa.Ev
set_option maxRecDepth 100000
noncomputable section
noncomputable def C21 : Code := Try.f21.body.getD .skip
noncomputable def B21 : D := (annot C21 [[], [], [], [], [3, 4, 5], [], [5], [], [], [], [], [], [0, 5], [2], []]).1
noncomputable def RL21 : List Nat := cellsOf Try.f21.results.toList
noncomputable def R21_10 (self : EV) (N : Nat) (nk : Ac → St → Rs) (ek : Nat → Ac → St → Rs) (a : Ac) (S : St) : Rs := projK [5] a fun a => dr E0 self RL21 N (B21.r.r.r.r).r (mkK E0 self Try.f21 nk ek) a S
theorem R21_10_eq (self : EV) (N : Nat) (nk : Ac → St → Rs) (ek : Nat → Ac → St → Rs) ( v5 : V) (S : St) : R21_10 self N nk ek (fr 33 [(5, v5)]) S =
some (.ret v5, S) := by kernel_rfl
noncomputable def L21_13 (self : EV) (N : Nat) (nk : Ac → St → Rs) (ek : Nat → Ac → St → Rs) (n : Nat) ( v3 v4 v5 : V) (S : St) : Rs := loopK [3, 4, 5] (dr E0 self RL21 N (B21.r.r.r.r.l.l.l)) (mkK E0 self Try.f21 nk ek) n (fr 33 [(3, v3), (4, v4), (5, v5)]) S
theorem L21_13_eq (self : EV) (N : Nat) (nk : Ac → St → Rs) (ek : Nat → Ac → St → Rs) (n : Nat) ( v3 v4 v5 : V) (S : St) : L21_13 self N nk ek (n + 1) v3 v4 v5 S =
(ld1 v4 S).bind fun p14 =>
(lnMap p14.1 p14.2).bind fun p15 =>
(binV E0 .gtr 3 false true p15.1 (.int .i64 0)).bind fun t16 =>
ifK t16 (
(ld1 v4 p15.2).bind fun p17 =>
callP (self.f 30 [p17.1, (.fn (.func 37) [] [v3, v4])] p17.2) fun t19 S19 =>
(lnS t19 S19).bind fun p22 =>
(binV E0 .eql 3 false true p22.1 (.int .i64 0)).bind fun t23 =>
ifK t23 (
(ld1 v4 p22.2).bind fun p24 =>
callP (self.f 30 [p24.1, (.fn (.func 40) [] [])] p24.2) fun t25 S25 =>
(ixP 1 t25 (.int .i64 0)).bind fun t29 =>
(ld1 t29 S25).bind fun p30 =>
(bsP 9 1 1 (Go.Proofs.Ytginkdeicmdmaaa.Ev.one (sv [])) [(0, p30.1)] p30.2).bind fun p31 =>
(apP 9 1 16 v5 p31.1 p31.2).bind fun p32 =>
(ld1 v4 (onS p32.2)).bind fun p34 =>
(ixP 1 t25 (.int .i64 0)).bind fun t36 =>
(ld1 t36 (onS p34.2)).bind fun p37 =>
(vu (deleteV E0 48 p34.1 p37.1 (onS p37.2))).bind fun p38 =>
endP [(0, [3])] p32.2 [p34.2.log, [], [], p37.2.log, p38.2.log] p38.2 fun S39 =>
L21_13 self N nk ek n v3 v4 p32.1 S39) (
(ixP 1 t19 (.int .i64 0)).bind fun t42 =>
(ld1 t42 p22.2).bind fun p43 =>
(bsP 9 1 1 (Go.Proofs.Ytginkdeicmdmaaa.Ev.one (sv [])) [(0, p43.1)] p43.2).bind fun p44 =>
(apP 9 1 16 v5 p44.1 p44.2).bind fun p45 =>
(ld1 v4 (onS p45.2)).bind fun p47 =>
(ixP 1 t19 (.int .i64 0)).bind fun t49 =>
(ld1 t49 (onS p47.2)).bind fun p50 =>
(vu (deleteV E0 48 p47.1 p50.1 (onS p50.2))).bind fun p51 =>
endP [(0, [3])] p45.2 [p47.2.log, [], [], p50.2.log, p51.2.log] p51.2 fun S52 =>
L21_13 self N nk ek n v3 v4 p45.1 S52)) (
ek 0 (fr 33 [(5, v5)]) p15.2) := by kernel_rfl
noncomputable def F21 (self : EV) (N : Nat) (x0 : V) (S : St) : Rs := runF E0 self N Try.f21 B21 [x0] S
theorem F21_eq (self : EV) (N : Nat) (x0 : V) (S : St) : F21 self N x0 S =
callP (self.f 28 [x0] S) fun t2 S2 =>
(some (nwP 48 1 (Go.Proofs.Ytginkdeicmdmaaa.Ev.one .nilmap) S2)).bind fun p3 =>
(stP 1 p3.1 t2 p3.2).bind fun p4 =>
(ld1 p3.1 p4.2).bind fun p5 =>
callP (self.f 36 [p5.1] p5.2) fun t6 S6 =>
(some (nwP 48 1 (Go.Proofs.Ytginkdeicmdmaaa.Ev.one .nilmap) S6)).bind fun p7 =>
(stP 1 p7.1 t6 p7.2).bind fun p8 =>
L21_13 self N (R21_10 self N (finN E0 self Try.f21) noEx) (exB 0 (R21_10 self N (finN E0 self Try.f21) noEx) noEx) N p3.1 p7.1 .nilslice p8.2 := by kernel_rfl
noncomputable def C23 : Code := Try.f23.body.getD .skip
noncomputable def B23 : D := (annot C23 [[], [], []]).1
noncomputable def F23 (self : EV) (N : Nat) (x0 x1 : V) (S : St) : Rs := runF E0 self N Try.f23 B23 [x0, x1] S
theorem F23_eq (self : EV) (N : Nat) (x0 x1 : V) (S : St) : F23 self N x0 x1 S =
(boxK 9 x1 S).bind fun p0 =>
callP (self.f 28 [x0] p0.2) fun t3 S3 =>
(some (nwP 48 1 (Go.Proofs.Ytginkdeicmdmaaa.Ev.one .nilmap) S3)).bind fun p4 =>
(stP 1 p4.1 t3 p4.2).bind fun p5 =>
(ld1 p4.1 p5.2).bind fun p6 =>
callP (self.f 30 [p6.1, (.fn (.func 42) [] [p0.1, p4.1])] p6.2) fun t8 S8 =>
some (.ret t8, S8) := by kernel_rfl
end
end Go.Proofs.Ytginkdeicmdmaaa.W
