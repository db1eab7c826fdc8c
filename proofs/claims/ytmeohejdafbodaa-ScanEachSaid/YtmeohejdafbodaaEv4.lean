/-
  THE EVALUATOR AND ITS SOUNDNESS: what it says of a call holds of the call in the model, in whatever world, on whatever tape, part 4 of 4 (no condition).
-/
import Derived.Test.YtmeohejdafbodaaEv3
import Derived.Shelf.Strings.Builder1
import Derived.Lib.UnsafeStr
namespace Go.Proofs.Ytmeohejdafbodaa.Ev
open Go.Shelf Go.RowKit Go.Proofs
variable {P : Program} {ρ : Ren}
noncomputable def headB (T b : Nat) (s : St) : Option (V × St) :=
 (match s.heap.get b with
  | some (.cells e z n ro c) => bif Nat.beq e T && Nat.beq z 2 && Nat.blt 0 n && !ro then (c.get 0).bind fun t => t.get 0 else none
  | _ => none).bind fun v => some (v, s.note b 0 1 false)
noncomputable def qbx (T : Nat) : KF := ⟨fun args s => match args with
 | [.ptr b o] => bif Nat.beq o 0 then (headB T b s).bind fun p => match p.1 with
  | .nilptr => (stK p.2 b 0 1 (one (.ptr b 0))).bind fun s => some (.ret (.tuple []), s)
  | .ptr b' o' => bif Nat.beq b' b && Nat.beq o' 0 then some (.ret (.tuple []), p.2) else none
  | _ => none
  else none
 | _ => none⟩
structure BuildOk (P : Program) (T f : Nat) : Prop where
 used : ∀ (b o : Nat) (w : World), w.cell? ⟨b, o, none⟩ = some (.pointer (some ⟨b, o, none⟩))->Calls P f #[.pointer (some ⟨b, o, none⟩)] w fun e w' => e = .returned (.tuple #[])/\w' = w
 fresh : ∀ (b o n : Nat) (w : World), w.cell? ⟨b, o, none⟩ = some (.pointer none)->w.shape? b = some (T, n)->o % 2 = 0->o + 2<=n->w.frozen? ⟨b, o, none⟩ = false->Calls P f #[.pointer (some ⟨b, o, none⟩)] w fun e w' => e = .returned (.tuple #[])/\w' = w.setCell ⟨b, o, none⟩ (.pointer (some ⟨b, o, none⟩))
theorem lies_at {T n o d : Nat} (hd : P.depth = d + 1) (hT : P.cellsOf T = 2) (ho : o % 2 = 0) (hn : o + 2<=n) : liesAt P P.depth T (n / P.cellsOf T) o T 1 = true := by
 have hs : sameLayout P P.depth T T = true := by
  rw [hd]; unfold sameLayout; simp
 have hr : rowAt P (sameLayout P P.depth · T) P.depth T (n / 2) o 1 = true := by
  conv => lhs; arg 3; rw [hd]
  unfold rowAt;simp only [hT, ho, hs];have : o / 2 + 1<=n / 2 := by omega
  simp [this]
 rw [hT, hd];rw [hd] at hr;unfold liesAt;rw [hd, hr, Bool.true_or]
theorem headB_locp (T b : Nat) : LocP fun s => headB T b s :=
 LocP.read (b := b) (lo := 0) (hi := 1) fun o => match o with
  | some (.cells e z n ro c) => bif Nat.beq e T && Nat.beq z 2 && Nat.blt 0 n && !ro then (c.get 0).bind fun t => t.get 0 else none
  | _ => none
theorem headB_lg (T b : Nat) : Lg.LocP fun s => headB T b s :=
 Lg.LocP.read (b := b) (lo := 0) (hi := 1) fun o => match o with
  | some (.cells e z n ro c) => bif Nat.beq e T && Nat.beq z 2 && Nat.blt 0 n && !ro then (c.get 0).bind fun t => t.get 0 else none
  | _ => none
theorem qma (T : Nat) (args : List V) : LocP fun s => (qbx T).run args s := by
 unfold qbx;dsimp only;split
 . refine Loc.cond (Loc.bind (headB_locp _ _) fun v => ?_) Loc.none
   dsimp only;split
   . exact Loc.bindS (loc_stK _ _ _ _) (LocP.ret _)
   . exact Loc.cond (LocP.ret _) Loc.none
   . exact Loc.none
 . exact Loc.none
theorem kfCopyCheck_lg (T : Nat) (args : List V) : Lg.LocP fun s => (qbx T).run args s := by
 unfold qbx;dsimp only;split
 . refine Lg.Loc.cond (Lg.Loc.bind (headB_lg _ _) fun v => ?_) Lg.Loc.none
   dsimp only;split
   . exact Lg.Loc.bindS (Lg.loc_stK _ _ _ _) (Lg.LocP.ret _)
   . exact Lg.Loc.cond (Lg.LocP.ret _) Lg.Loc.none
   . exact Lg.Loc.none
 . exact Lg.Loc.none
section
variable {E : Env} {w0 : Base} {ρ : Rho} {s : St} {w : World}
theorem store_one {cb o : Nat} {v x : Value} {w w' : World} (hc : w.cell? ⟨cb, o, none⟩ = some x) (hf : w.frozen? ⟨cb, o, none⟩ = false) (hv : v.oneCell' = true) (h : (storeCells ⟨cb, o, none⟩ [v] 0).run P w = .ok () w') : w' = w.setCell ⟨cb, o, none⟩ v := by
 have := run_storeCells_cells (P := P) cb o [v] 0 w (fun j hj => by
  have : j = 0 := by simpa using hj
  subst this; simp [hc]) (fun j hj => by
  have : j = 0 := by simpa using hj
  subst this; simpa using hf) (fun u hu => by rw [List.mem_singleton.1 hu]; exact hv)
 rw [this] at h;have := (Result.ok.inj h).2;rw [<- this];rfl
theorem copyCheck_well {T : Nat} {f : FuncId} (h : BuildOk P T f) : KnWell P E f (qbx T) := by
 refine ⟨qma T, fun w0 ρ s w args cargs e s' hR hv hg => ?_⟩;unfold qbx at hg;dsimp only at hg;split at hg
 . rename_i b o
   obtain ⟨l'⟩ := cargs;cases hv with
   | cons hp ht =>
   cases ht;cases ho : Nat.beq o 0 with
   | false => rw [ho] at hg; cases hg
   | true =>
   rw [ho, cT] at hg;rw [Ev.beq_true] at ho;subst ho;simp only [oI] at hg;obtain ⟨⟨v, s1⟩, hh, hg⟩ := hg;dsimp only at hg;unfold headB at hh;simp only [oI, oS, pM] at hh;obtain ⟨v', hh, rfl, rfl⟩ := hh;split at hh
   . rename_i e' z n ro c hb
     cases hc : (Nat.beq e' T && Nat.beq z 2 && Nat.blt 0 n && !ro) with
     | false => rw [hc] at hh; cases hh
     | true =>
     rw [hc, cT] at hh;simp only [bA, Ev.beq_true, blt_true, Bool.not_eq_true'] at hc;obtain ⟨⟨⟨rfl, rfl⟩, hn⟩, rfl⟩ := hc;simp only [oI] at hh;obtain ⟨t, ht, hv0⟩ := hh;cases hp with
     | @ptr _ _ cb sh sz hρ =>
     obtain ⟨cs, fr, hcr⟩ := qb1 hR hb hρ;have hroom := hcr.room;have hsize := hcr.size;have hal := hcr.al;obtain ⟨_, hfree⟩ := hcr.own rfl;have hin : sh < cs.size := by omega
     have hcell : w.cell? ⟨cb, sh + 0, none⟩ = some cs[sh] := by
      unfold World.cell?;simp only [hcr.heap, Nat.add_zero];simp [hin]
     have hvr : VRel ρ v' cs[sh] := hcr.cell 0 v' cs[sh] (by unfold qb5; rw [Nat.zero_div, ht]; exact hv0) (by omega) (by rw [Nat.add_zero, Array.getElem?_eq_getElem hin])
     have hshape : w.shape? cb = some (e', cs.size) := by
      unfold World.shape?;rw [hcr.heap]
     have hfz : w.frozen? ⟨cb, sh + 0, none⟩ = false := by
      unfold World.frozen?;simp only [hcr.heap, Nat.add_zero];have := hfree.not (i := sh) (by omega);simp only [Bool.and_eq_false_iff, decide_eq_false_iff_not];omega
     have hR1 : Rel E w0 ρ (s.note b 0 1 false) w := hR.note _ _ _ _;split at hg
     . simp only [oI, oS, pM] at hg
       obtain ⟨s2, hst, rfl, rfl⟩ := hg;have hpr : VRel ρ (.ptr b 0) (.pointer (some ⟨cb, sh + 0, none⟩)) := .ptr hρ
       obtain ⟨w', hrun, hR'⟩ := stK_sim (P := P) hR1 hst hρ (c := [.pointer (some ⟨cb, sh + 0, none⟩)]) ⟨rfl, fun x hx => by rw [List.mem_singleton.1 hx]; rfl, fun i u hi cv hcv => by
        cases i with
        | zero =>
         have hi' : some (V.ptr b 0) = some u := hi;cases hi';cases hcv;exact hpr
        | succ i => simp at hcv⟩ (o := sh) (i := 0) (by omega)
       generalize cs[sh] = x at hvr hcell;cases hvr;have hw' : w' = w.setCell ⟨cb, sh + 0, none⟩ (.pointer (some ⟨cb, sh + 0, none⟩)) := store_one hcell hfz rfl hrun;refine (h.fresh cb (sh + 0) cs.size w hcell hshape (by omega) (by omega) hfz).mono fun ce w2 hce => ?_;obtain ⟨rfl, rfl⟩ := hce;rw [<- hw'];exact ⟨ρ, _, rfl, Rho.le_refl ρ, .tuple .nil, hR'⟩
     . rename_i b' o'
       cases hbo : (Nat.beq b' b && Nat.beq o' 0) with
       | false => rw [hbo] at hg; cases hg
       | true =>
       rw [hbo] at hg;simp only [bA, Ev.beq_true] at hbo;obtain ⟨rfl, rfl⟩ := hbo;simp only [cT, oS, pM] at hg;obtain ⟨rfl, rfl⟩ := hg;generalize cs[sh] = x at hvr hcell;cases hvr with
       | @ptr _ _ cb2 sh2 sz2 hρ2 =>
       have hq := hρ.symm.trans hρ2;simp only [oS, pM] at hq;obtain ⟨rfl, rfl, rfl⟩ := hq;refine (h.used cb (sh + 0) w hcell).mono fun ce w2 hce => ?_;obtain ⟨rfl, rfl⟩ := hce;exact ⟨ρ, _, rfl, Rho.le_refl ρ, .tuple .nil, hR1⟩
     . cases hg
   . cases hh
 . cases hg
end
end Go.Proofs.Ytmeohejdafbodaa.Ev
namespace Go.Proofs.Ytmeohejdafbodaa.Ev
open Go.Shelf Go.RowKit Go.Proofs
variable {P : Program} {ρ : Ren}
theorem lies_bytes {e : TypeId} (hc : P.cellsOf e = 1) (count o n : Nat) (hn : o + n<=count) : liesAt P P.depth e count o e n = true := by
 have hd : P.depth = (2 * (P.types.size + Made.depth) + 1) + 1 := rfl;rw [hd];simp only [liesAt, Bool.or_eq_true]
 left
 rw [hd];simp [rowAt, hc, hn, sameLayout, Nat.mod_one]
theorem qpw (w : World) (pt it ty e : TypeId) (hp : P.underlying pt = some (.pointer e)) (hc : P.cellsOf e = 1) (g o cells : Nat) (hsh : w.shape? g = some (e, cells)) (l : List UInt8) (h0 : l ≠ []) (hn : o + l.length<=cells) (h63 : l.length<=9223372036854775807)
 (hcell : ∀ j x, l[j]? = some x->w.cell? ((⟨g, o, none⟩ : Addr).add j) = some (.int .u8 x.toNat)) :
 (Builtin.unsafeString_ #[pt, it] ty #[.pointer (some ⟨g, o, none⟩), .int .i64 l.length]).run P w = .ok (.string ⟨l.toArray⟩) (w.freeze ⟨g, o, none⟩ l.length) := by
 have hl : l.length ≠ 0 := by simpa using h0
 have hlb := Lib.run_loadBytes (P := P) w l ⟨g, o, none⟩ .empty hcell;have hlies := lies_bytes (P := P) hc (cells / P.cellsOf e) o l.length (by rw [hc]; simpa using hn);have h63' : ¬ (9223372036854775807 : Int) < (l.length : Int) := by omega
 have hdef : Builtin.unsafeString_ #[pt, it] ty #[.pointer (some ⟨g, o, none⟩), .int .i64 l.length] =
  (do
   let n <- asInt (.int .i64 l.length)
   if n < 0 then runtimePanic (.error "unsafe.String: len out of range")
   if n > IntKind.i64.max then unsupported (.unsafePointer "String: a length above the largest int")
   if n = 0 then pure (.string .empty)
   else if <- variablesAt ⟨g, o, none⟩ (<- elemOf pt) n.toNat then do
    let s <- loadBytes ⟨g, o, none⟩ .empty n.toNat
    freeze ⟨g, o, none⟩ n.toNat
    pure (.string s)
   else unsupported (.unsafePointer "String: not so many bytes at ptr")) := rfl
 rw [hdef];have hmax : IntKind.i64.max = 9223372036854775807 := rfl;have hneg : ¬ (l.length : Int) < 0 := by omega
 simp [asInt, asIntOf, hmax, h63', hneg, hl, variablesAt, hsh, elemOf, run_underlying hp, hlies, hlb]
set_option maxHeartbeats 2000000 in
set_option maxRecDepth 100000 in
theorem string_some (L : Lays.n169 P ρ) (X : Builder.Extra P ρ) (b o g so cap cells : Nat) (l : List UInt8) (w : World) (hb : w.cell? ⟨b, o + 1, none⟩ = some (.slice (some ⟨g, so, none⟩) l.length cap)) (hsh : w.shape? g = some (ρ.t 5, cells)) (h0 : l ≠ []) (hn : so + l.length<=cells) (h63 : l.length<=9223372036854775807) (hcap : cap ≠ 0)
 (hcell : ∀ j x, l[j]? = some x->w.cell? ((⟨g, so, none⟩ : Addr).add j) = some (.int .u8 x.toNat)) :
 Calls P (ρ.f 169) #[.pointer (some ⟨b, o, none⟩)] w fun e w' => e = .returned (.string ⟨l.toArray⟩)/\w' = w.drew.freeze ⟨g, so, none⟩ l.length := by
 have c1 : w.drew.cell? ⟨b, o + 1, none⟩ = some (.slice (some ⟨g, so, none⟩) l.length cap) := hb
 have hSD : (Builtin.unsafeSliceData_ #[(ρ.t 37)] (ρ.t 127) #[.slice (some ⟨g, so, none⟩) l.length cap]).run P w.drew = .ok (.pointer (some ⟨g, so, none⟩)) w.drew :=
  Lib.run_unsafeSliceData_row _ _ _ _ _ _ hcap
 have hUS : (Builtin.unsafeString_ #[(ρ.t 127), (ρ.t 3)] (ρ.t 9) #[.pointer (some ⟨g, so, none⟩), .int .i64 l.length]).run P w.drew = .ok (.string ⟨l.toArray⟩) (w.drew.freeze ⟨g, so, none⟩ l.length) :=
  qpw w.drew (ρ.t 127) (ρ.t 3) (ρ.t 9) (ρ.t 5) L.t127 X.cellsByte g so cells hsh l h0 hn h63 hcell
 have mixed := L.mixed;have t72 := L.t72; have a72 := L.a72; have z72 := L.z72; have v72 := L.v72; have u72 := run_underlying L.t72;have t70 := L.t70; have a70 := L.a70; have z70 := L.z70; have v70 := L.v70; have u70 := run_underlying L.t70;have t37 := L.t37; have a37 := L.a37; have z37 := L.z37; have v37 := L.v37; have u37 := run_underlying L.t37;have t127 := L.t127; have a127 := L.a127; have z127 := L.z127; have v127 := L.v127; have u127 := run_underlying L.t127;have t3 := L.t3; have a3 := L.a3; have z3 := L.z3; have v3 := L.v3; have u3 := run_underlying L.t3;have t9 := L.t9; have a9 := L.a9; have z9 := L.z9; have v9 := L.v9; have u9 := run_underlying L.t9;have t5 := X.t5; have a5 := X.a5; have z5 := X.z5; have v5 := X.v5; have u5 := run_underlying X.t5
 go_enter L.f169, Body.n169_ntmps ρ
 go_wp2
 go_region_o
 all_goals (go_wp2; go_ret; exact ⟨rfl, rfl⟩)
set_option maxHeartbeats 2000000 in
set_option maxRecDepth 100000 in
theorem string_none (L : Lays.n169 P ρ) (X : Builder.Extra P ρ) (b o : Nat) (w : World) (hb : w.cell? ⟨b, o + 1, none⟩ = some (.slice none 0 0)) :
 Calls P (ρ.f 169) #[.pointer (some ⟨b, o, none⟩)] w fun e w' => e = .returned (.string ⟨#[]⟩)/\w' = w.drew := by
 have hUS := Any.unsafeString_none L X;have c1 : w.drew.cell? ⟨b, o + 1, none⟩ = some (.slice none 0 0) := hb;have hSD : (Builtin.unsafeSliceData_ #[(ρ.t 37)] (ρ.t 127) #[.slice none 0 0]).run P w.drew = .ok (.pointer none) w.drew := rfl;have mixed := L.mixed;have t72 := L.t72; have a72 := L.a72; have z72 := L.z72; have v72 := L.v72; have u72 := run_underlying L.t72;have t70 := L.t70; have a70 := L.a70; have z70 := L.z70; have v70 := L.v70; have u70 := run_underlying L.t70;have t37 := L.t37; have a37 := L.a37; have z37 := L.z37; have v37 := L.v37; have u37 := run_underlying L.t37;have t127 := L.t127; have a127 := L.a127; have z127 := L.z127; have v127 := L.v127; have u127 := run_underlying L.t127;have t3 := L.t3; have a3 := L.a3; have z3 := L.z3; have v3 := L.v3; have u3 := run_underlying L.t3;have t9 := L.t9; have a9 := L.a9; have z9 := L.z9; have v9 := L.v9; have u9 := run_underlying L.t9;have t5 := X.t5; have a5 := X.a5; have z5 := X.z5; have v5 := X.v5; have u5 := run_underlying X.t5
 go_enter L.f169, Body.n169_ntmps ρ
 go_wp2
 go_region_o
 all_goals (go_wp2; go_ret; exact ⟨rfl, rfl⟩)
end Go.Proofs.Ytmeohejdafbodaa.Ev
namespace Go.Proofs.Ytmeohejdafbodaa.Ev
open Go.Shelf Go.RowKit Go.Proofs
noncomputable def u8Of (v : V) : Option UInt8 := match v with
 | .int .u8 (.ofNat k) => bif Nat.blt k 256 then some (UInt8.ofNat k) else none
 | _ => none
noncomputable def u8sOf : List (Tr V)->Option (List UInt8)
 | [] => some []
 | t :: l => (t.get 0).bind fun v => (u8Of v).bind fun x => (u8sOf l).bind fun q => some (x :: q)
theorem u8sOf_row : ∀ l : List UInt8, u8sOf (l.map qdd) = some l
 | [] => rfl
 | x :: l => by
  have hx : u8Of (.int .u8 (.ofNat x.toNat)) = some x := by
   show (bif Nat.blt x.toNat 256 then some (UInt8.ofNat x.toNat) else none) = _;rw [blt_true.2 x.toNat_lt, cT, UInt8.ofNat_toNat]
  show ((some (V.int .u8 (.ofNat x.toNat))).bind fun v => (u8Of v).bind fun x => (u8sOf (l.map qdd)).bind fun q => some (x :: q)) = _;rw [oB, hx, oB, u8sOf_row l];rfl
noncomputable def ownB (U r : Nat) (s : St) : Option (Unit × St) :=
 (match s.heap.get r with
  | some (.cells e z n ro c) => bif Nat.beq e U && Nat.beq z 1 && !ro then some () else none
  | _ => none).bind fun u => some (u, s.note r 0 1 false)
noncomputable def strAt (U r off n : Nat) (s : St) : Option (En × St) :=
 (ownB U r s).bind fun q => (ldN r 1 n off q.2).bind fun k => (u8sOf k.1).bind fun l => some (.ret (sv l), setO k.2 r .dead)
noncomputable def qeo (U : Nat) : KF := ⟨fun args s => match args with
 | [.ptr b o] => bif Nat.beq o 0 then (ld s b 1).bind fun p => match p.1 with
  | .nilslice => some (.ret (sv []), p.2)
  | .oslice r off n z => bif Nat.beq z 1 && Nat.blt 0 n then strAt U r off n p.2 else none
  | _ => none
  else none
 | _ => none⟩
theorem ownB_locp (U r : Nat) : LocP fun s => ownB U r s :=
 LocP.read (b := r) (lo := 0) (hi := 1) fun o => match o with
  | some (.cells e z n ro c) => bif Nat.beq e U && Nat.beq z 1 && !ro then some () else none
  | _ => none
theorem ownB_lg (U r : Nat) : Lg.LocP fun s => ownB U r s :=
 Lg.LocP.read (b := r) (lo := 0) (hi := 1) fun o => match o with
  | some (.cells e z n ro c) => bif Nat.beq e U && Nat.beq z 1 && !ro then some () else none
  | _ => none
theorem strAt_locp (U r off n : Nat) : LocP fun s => strAt U r off n s := by
 unfold strAt;refine Loc.bind (ownB_locp U r) fun u => ?_;dsimp only;refine Loc.bind (loc_ldN _ _ _ _) fun k => ?_;dsimp only;exact Loc.opt (o := u8sOf k) fun l => loc_setRet r .dead _
theorem strAt_lg (U r off n : Nat) : Lg.LocP fun s => strAt U r off n s := by
 unfold strAt;refine Lg.Loc.bind (ownB_lg U r) fun u => ?_;dsimp only;refine Lg.Loc.bind (Lg.loc_ldN _ _ _ _) fun k => ?_;dsimp only;exact Lg.Loc.opt (o := u8sOf k) fun l => Lg.loc_setRet r .dead _
theorem kfString_locp (U : Nat) (args : List V) : LocP fun s => (qeo U).run args s := by
 unfold qeo;dsimp only;split
 . refine Loc.cond (Loc.bind (loc_ld _ _) fun v => ?_) Loc.none
   dsimp only;split
   . exact LocP.ret _
   . exact Loc.cond (strAt_locp _ _ _ _) Loc.none
   . exact Loc.none
 . exact Loc.none
theorem kfString_lg (U : Nat) (args : List V) : Lg.LocP fun s => (qeo U).run args s := by
 unfold qeo;dsimp only;split
 . refine Lg.Loc.cond (Lg.Loc.bind (Lg.loc_ld _ _) fun v => ?_) Lg.Loc.none
   dsimp only;split
   . exact Lg.LocP.ret _
   . exact Lg.Loc.cond (strAt_lg _ _ _ _) Lg.Loc.none
   . exact Lg.Loc.none
 . exact Lg.Loc.none
structure StringOk (P : Program) (U f : Nat) : Prop where
 full : ∀ (b o g so cap cells : Nat) (l : List UInt8) (w : World), w.cell? ⟨b, o + 1, none⟩ = some (.slice (some ⟨g, so, none⟩) l.length cap)->w.shape? g = some (U, cells)->l ≠ []->so + l.length<=cells->l.length<=9223372036854775807->cap ≠ 0 ->
  (∀ j x, l[j]? = some x->w.cell? ((⟨g, so, none⟩ : Addr).add j) = some (.int .u8 x.toNat)) ->
  Calls P f #[.pointer (some ⟨b, o, none⟩)] w fun e w' => e = .returned (.string ⟨l.toArray⟩)/\w' = w.drew.freeze ⟨g, so, none⟩ l.length
 empty : ∀ (b o : Nat) (w : World), w.cell? ⟨b, o + 1, none⟩ = some (.slice none 0 0)->Calls P f #[.pointer (some ⟨b, o, none⟩)] w fun e w' => e = .returned (.string ⟨#[]⟩)/\w' = w.drew
theorem stringOk_of {P : Program} {ρ : Ren} (L : Lays.n169 P ρ) (X : Builder.Extra P ρ) : StringOk P (ρ.t 5) (ρ.f 169) :=
 ⟨fun b o g so cap cells l w h1 h2 h3 h4 h5 h6 h7 => string_some L X b o g so cap cells l w h1 h2 h3 h4 h5 h6 h7, fun b o w h => string_none L X b o w h⟩
section
variable {P : Program} {E : Env} {w0 : Base} {ρ : Rho} {s : St} {w : World}
theorem bytes_rel : ∀ {ts : List (Tr V)} {c : List Value} {l : List UInt8}, ERels ρ 1 ts c->u8sOf ts = some l->c = l.map fun x => Value.int .u8 x.toNat
 | _, _, l, .nil, h => by
  simp only [u8sOf, oS] at h;subst h; rfl
 | _, _, l, .cons (t := t) (c := c) (l := ts) (cl := cl) h1 r, h => by
  unfold u8sOf at h;simp only [oI, oS] at h;obtain ⟨v, hv, x, hx, q, hq, rfl⟩ := h;have ih := bytes_rel r hq;have hl := h1.len
  match c, hl with
  | [cv], _ =>
   have hvr := h1.rel 0 v hv cv rfl;unfold u8Of at hx;split at hx
   . rename_i k
     cases hk : Nat.blt k 256 with
     | false => rw [hk] at hx; cases hx
     | true =>
      rw [hk] at hx;simp only [cT, oS] at hx;rw [blt_true] at hk;subst hx;cases hvr;rw [ih];show [Value.int .u8 (.ofNat k)] ++ _ = _;rw [List.map_cons, show (UInt8.ofNat k).toNat = k from by rw [UInt8.toNat_ofNat']; omega];rfl
   . cases hx
theorem ldN_bound {b : Nat} : ∀ (n off : Nat) (s : St) {l : List (Tr V)} {s' : St}, ldN b 1 n off s = some (l, s')->0 < n->∃ e z m ro c, s.heap.get b = some (.cells e z m ro c)/\off + n<=z * m/\z * m < big
 | 0, _, _, _, _, _, h => by omega
 | n + 1, off, s, l, s', h, _ => by
  unfold ldN at h;simp only [oI] at h;obtain ⟨⟨t, s1⟩, hk, h⟩ := h;obtain ⟨e, z, m, ro, c, hb, h1, h2, _, rfl⟩ := ldK_inv hk;cases n with
  | zero => exact ⟨e, z, m, ro, c, hb, by omega, h2⟩
  | succ n =>
   dsimp only at h;obtain ⟨⟨l2, s2⟩, h3, _⟩ := h;obtain ⟨e', z', m', ro', c', hb', h1', h2'⟩ := ldN_bound (n + 1) (off + 1) _ h3 (by omega);rw [qap, hb] at hb';simp only [oS, O.cells.injEq] at hb';obtain ⟨rfl, rfl, rfl, rfl, rfl⟩ := hb';exact ⟨e, z, m, ro, c, hb, by omega, h2⟩
theorem upd_freeze {cg : Nat} {cs : Array Value} {e : TypeId} {fr : Nat × Nat} (h : w.heap[cg]? = some (.cells cs e fr)) (o n : Nat) (hn : n ≠ 0) : ∃ fr', Upd w cg (.cells cs e fr') (w.drew.freeze ⟨cg, o, none⟩ n) := by
 obtain ⟨lo, hi⟩ := fr
 have hlt : cg < w.heap.size := by
  rcases Nat.lt_or_ge cg w.heap.size with q | q
  . exact q
  . rw [Array.getElem?_eq_none q] at h; cases h
 refine ⟨if lo == hi then (o, o + n) else (min lo o, max hi (o + n)), ?_, fun j hj => ?_, ?_, ?_, ?_, ?_⟩
 all_goals unfold World.freeze
 all_goals rw [iN hn]
 . show (w.heap.modify cg _)[cg]? = _
   rw [Array.getElem?_modify, iP rfl, h];rfl
 . show (w.heap.modify cg _)[j]? = _
   rw [Array.getElem?_modify, iN (fun q => hj q.symm)]
 . show (w.heap.modify cg _).size = _
   rw [Array.size_modify]
 . rfl
 . rfl
 . rfl
theorem string_well {U : Nat} {f : FuncId} (h : StringOk P U f) : KnWell P E f (qeo U) := by
 refine ⟨kfString_locp U, fun w0 ρ s w args cargs e s' hR hv hg => ?_⟩;unfold qeo at hg;dsimp only at hg;split at hg
 . rename_i b o
   obtain ⟨l'⟩ := cargs;cases hv with
   | cons hp ht =>
   cases ht;cases ho : Nat.beq o 0 with
   | false => rw [ho] at hg; cases hg
   | true =>
   rw [ho, cT] at hg;rw [Ev.beq_true] at ho;subst ho;simp only [oI] at hg;obtain ⟨⟨v, s1⟩, hh, hg⟩ := hg;dsimp only at hg;cases hp with
   | @ptr _ _ cb sh sz hρ =>
   obtain ⟨cv, hcell, hvr, _, hsame⟩ := ld_sim hR hh hρ;have hR1 := hR.same hsame;split at hg
   . simp only [oS, pM] at hg
     obtain ⟨rfl, rfl⟩ := hg;cases hvr;refine (h.empty cb (sh + 0) w hcell).mono fun ce w2 hce => ?_;obtain ⟨rfl, rfl⟩ := hce;exact ⟨ρ, _, rfl, Rho.le_refl ρ, .str ⟨#[]⟩, hR1.drew _⟩
   . rename_i r off n z
     cases hz : (Nat.beq z 1 && Nat.blt 0 n) with
     | false => rw [hz] at hg; cases hg
     | true =>
     rw [hz, cT] at hg;simp only [bA, Ev.beq_true, blt_true] at hz;obtain ⟨rfl, hn0⟩ := hz;unfold strAt at hg;simp only [oI, oS, pM] at hg;obtain ⟨⟨u, s2⟩, how, ⟨ts, s3⟩, hld, l, hl, rfl, rfl⟩ := hg;dsimp only at hld hl;unfold ownB at how;simp only [oI, oS, pM] at how;obtain ⟨u', how, _, rfl⟩ := how;cases hvr with
     | @oslice _ _ _ _ cap cg shg szg a hρg hle hz1 hsz ha =>
     split at how
     . rename_i e' z' n' ro c hbg
       cases hc : (Nat.beq e' U && Nat.beq z' 1 && !ro) with
       | false => rw [hc] at how; cases how
       | true =>
       simp only [bA, Ev.beq_true, Bool.not_eq_true'] at hc;obtain ⟨⟨rfl, rfl⟩, rfl⟩ := hc;obtain ⟨cs, fr, hcr⟩ := qb1 hR1 hbg hρg;have hR2 : Rel E w0 ρ (s1.note r 0 1 false) w := hR1.note _ _ _ _;obtain ⟨cc, hcells, hER, hlen, hsame3⟩ := ql2 hρg n off _ s3 ts hR2 hld;have hR3 := hR2.same hsame3;have hcc := bytes_rel hER hl;have hccl := hER.length;have haa := ha (by omega);subst haa
       have hll : l.length = n := by
        have := congrArg List.length hcc;rw [lM] at this;omega
       have hl0 : l ≠ [] := fun e => by rw [e] at hll; simp at hll; omega
       have hshape : w.shape? cg = some (e', cs.size) := by
        unfold World.shape?;rw [hcr.heap]
       have hsize := hcr.size
       have hbytes : ∀ j x, l[j]? = some x->w.cell? ((⟨cg, shg + off, none⟩ : Addr).add j) = some (.int .u8 x.toNat) := fun j x hx => by
        have := hcells j (.int .u8 x.toNat) (by rw [hcc, List.getElem?_map, hx]; rfl);have hadd : (⟨cg, shg + off, none⟩ : Addr).add j = ⟨cg, shg + off + j, none⟩ := by unfold Addr.add; split <;> simp_all
        rw [hadd]; exact this
       have hb3 : s3.heap.get r = some (.cells e' 1 n' false c) := by rw [hsame3.heap, qap]; exact hbg
       rw [<- hll] at hcell hle
       have h63 : l.length<=9223372036854775807 := by
        obtain ⟨e2, z2, m2, ro2, c2, _, q1, q2⟩ := ldN_bound n off _ hld hn0;have : big = 1099511627776 := rfl;omega
       refine (h.full cb (sh + 0) cg (shg + off) cap cs.size l w hcell hshape hl0 (by omega) h63 (by omega) hbytes).mono fun ce w2 hce => ?_;obtain ⟨rfl, rfl⟩ := hce;have hup : ∃ fr', Upd w cg (.cells cs e' fr') (w.drew.freeze ⟨cg, shg + off, none⟩ l.length) := upd_freeze hcr.heap _ _ (fun e => hl0 (List.length_eq_zero_iff.1 e));obtain ⟨fr', hu⟩ := hup;refine ⟨ρ, _, rfl, Rho.le_refl ρ, ?_, ?_⟩
       . exact .str ⟨l.toArray⟩
       . exact (hR3.note r 0 big true).write (o := .cells e' 1 n' false c) (o' := .dead) (by rw [qap]; exact hb3) rfl hρg hu trivial
     . cases how
   . cases hg
 . cases hg
end
end Go.Proofs.Ytmeohejdafbodaa.Ev
