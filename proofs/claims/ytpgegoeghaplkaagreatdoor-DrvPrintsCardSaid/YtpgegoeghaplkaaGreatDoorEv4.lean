/-
  THE EVALUATOR AND ITS SOUNDNESS: what it says of a call holds of the call in the model,in whatever world,on whatever tape,part 4 of 4 (no condition).
-/
import Derived.Test.YtpgegoeghaplkaaGreatDoorEv3
import Derived.Shelf.Strings.Builder1
import Derived.Lib.UnsafeStr
noncomputable section
namespace Go.Proofs.YtpgegoeghaplkaaGreatDoor.Ev.Fz
open Go.Proofs.YtpgegoeghaplkaaGreatDoor.Ev
structure Fz where
 b:Nat
 e:TypeId
 z:Nat
 n:Nat
 c:Tr (Tr V)
structure Same (F:Fz) (s t:St):Prop where
 next:t.next=s.next
 heap:∀x,x≠F.b->t.heap.get x=s.heap.get x
 fs:s.heap.get F.b=some (.cells F.e F.z F.n true F.c)
 ft:t.heap.get F.b=some (.cells F.e F.z F.n false F.c)
 lt:F.b<s.next
def Wd (F:Fz) (d:List LE):Prop:=∀e∈d,e.w=false\/e.b≠F.b
structure Ok (F:Fz) (s s' t t':St):Prop where
 same:Same F s' t'
 ons:s'.on=s.on
 ont:t'.on=t.on
 log:∃d,(s.on=true->s'.log=d++s.log)/\(t.on=true->t'.log=d++t.log)/\Wd F d
theorem Ok.refl {F:Fz} {s t:St} (h:Same F s t):Ok F s s t t:=⟨h,rfl,rfl,[],fun _=>rfl,fun _=>rfl,fun _ h=>by cases h⟩
theorem Ok.trans {F:Fz} {s s1 s2 t t1 t2:St} (h:Ok F s s1 t t1) (k:Ok F s1 s2 t1 t2):Ok F s s2 t t2:=by
 obtain⟨d1,a1,b1,c1⟩:=h.log;obtain⟨d2,a2,b2,c2⟩:=k.log;refine⟨k.same,k.ons.trans h.ons,k.ont.trans h.ont,d2++d1,fun ho=>?_,fun ho=>?_,fun e he=>?_⟩
 . rw[a2 (h.ons.trans ho),a1 ho,List.append_assoc]
 . rw[b2 (h.ont.trans ho),b1 ho,List.append_assoc]
 . rcases List.mem_append.1 he with h|h
   . exact c2 e h
   . exact c1 e h
def Loc {β:Type} (F:Fz) (st:β->St) (up:β->St->β) (f:St->Option β):Prop:=
 ∀s r,f s=some r->∀t,Same F s t->∃t',f t=some (up r t')/\Ok F s (st r) t t'
abbrev LocP {α:Type} (F:Fz) (f:St->Option (α×St)):Prop:=Loc F Prod.snd upP f
abbrev LocS (F:Fz) (f:St->Option St):Prop:=Loc F id upS f
abbrev LocN (F:Fz) (f:St->Option Nx):Prop:=Loc F Nx.st Nx.up f
variable {F:Fz}
section
variable {α β γ:Type} {st:β->St} {up:β->St->β} {st1:γ->St} {up1:γ->St->γ}
theorem Loc.none:Loc F st up fun _=>none:=fun _ _ h=>by cases h
theorem Loc.bindG (hup:∀r,up1 r (st1 r)=r) {f:St->Option γ} {g:γ->Option β} (hf:Loc F st1 up1 f) (hg:∀r,Loc F st up fun s=>g (up1 r s)):Loc F st up fun s=>(f s).bind g:=by
 intro s r h;simp only[oI]at h;obtain⟨q,h1,h2⟩:=h;intro t hA;obtain⟨t1,e1,A1⟩:=hf s _ h1 t hA;obtain⟨t2,e2,A2⟩:=hg q (st1 q) r (by simp only[hup]; exact h2) t1 A1.same;exact⟨t2,by simp only[e1,oB]; exact e2,A1.trans A2⟩
theorem Loc.bind {f:St->Option (α×St)} {g:α×St->Option β} (hf:LocP F f) (hg:∀a,Loc F st up fun s=>g (a,s)):Loc F st up fun s=>(f s).bind g:=
 Loc.bindG (up1:=upP) (fun _=>rfl) hf fun r=>hg r.1
theorem Loc.bindS {f:St->Option St} {g:St->Option β} (hf:LocS F f) (hg:Loc F st up g):Loc F st up fun s=>(f s).bind g:=
 Loc.bindG (up1:=upS) (fun _=>rfl) hf fun _=>hg
theorem Loc.opt {o:Option α} {g:α->St->Option β} (hg:∀a,Loc F st up (g a)):Loc F st up fun s=>o.bind fun a=>g a s:=by
 cases o with
 | none=>exact Loc.none
 | some a=>exact hg a
theorem Loc.cond {c:Bool} {f g:St->Option β} (hf:Loc F st up f) (hg:Loc F st up g):Loc F st up fun s=>bif c then f s else g s:=by
 cases c
 . exact hg
 . exact hf
theorem Loc.of_eq {f g:St->Option β} (h:∀s,f s=g s) (hg:Loc F st up g):Loc F st up f:=by
 rw[show f=g from funext h]; exact hg
theorem LocP.ret (a:α):LocP F fun s=>some (a,s):=fun s r h=>by
 simp only[oS]at h;subst h;exact fun t hA=>⟨t,rfl,Ok.refl hA⟩
theorem LocS.ret:LocS F fun s=>some s:=fun s r h=>by
 simp only[oS]at h;subst h;exact fun t hA=>⟨t,rfl,Ok.refl hA⟩
theorem LocN.ret (v:V):LocN F fun s=>some (.val v s):=fun s r h=>by
 simp only[oS]at h;subst h;exact fun t hA=>⟨t,rfl,Ok.refl hA⟩
theorem LocN.vS {f:St->Option (V×St)} (h:LocP F f):LocN F fun s=>vS (f s):=Loc.bind (g:=fun p=>some (Nx.val p.1 p.2)) h fun _=>LocN.ret _
theorem LocN.uS {f:St->Option St} (h:LocS F f):LocN F fun s=>uS (f s):=Loc.bindS (g:=fun s=>some (Nx.val (.tuple []) s)) h (LocN.ret _)
theorem LocN.pS (o:Option V):LocN F fun s=>pS o s:=Loc.opt (g:=fun v s=>some (Nx.val v s)) fun _=>LocN.ret _
end
theorem note_on' (s:St) (b lo hi:Nat) (x:Bool):(s.note b lo hi x).on=s.on:=by unfold St.note; cases s; rename_i h n on l; cases on<;>rfl
theorem note_log (s:St) (b lo hi:Nat) (x:Bool) (h:s.on=true):(s.note b lo hi x).log=[⟨b,lo,hi,x⟩]++s.log:=by
 unfold St.note; rw[h]; rfl
theorem qie {s t:St} (h:Same F s t) (b lo hi:Nat) {x:Bool} (hx:x=false\/b≠F.b):Ok F s (s.note b lo hi x) t (t.note b lo hi x):=by
 refine⟨⟨by rw[qd2,qd2]; exact h.next,fun y hy=>by rw[qan,qan]; exact h.heap y hy,by rw[qan]; exact h.fs,by rw[qan]; exact h.ft,by rw[qd2]; exact h.lt⟩,note_on' ..,note_on' ..,[⟨b,lo,hi,x⟩],note_log s b lo hi x,note_log t b lo hi x,fun e he=>?_⟩;rw[List.mem_singleton.1 he];exact hx
theorem put_ok {s t:St} (h:Same F s t) {b:Nat} (hb:b≠F.b) (o:O):Ok F s (s.put b o) t (t.put b o):=by
 refine⟨⟨h.next,fun y hy=>?_,?_,?_,h.lt⟩,rfl,rfl,[],fun _=>rfl,fun _=>rfl,fun _ h=>by cases h⟩
 . rw[qc0,qc0]
   by_cases e:y=b
   . rw[iP e,iP e]
   . rw[iN e,iN e]; exact h.heap y hy
 . rw[qc0,iN (Ne.symm hb)]; exact h.fs
 . rw[qc0,iN (Ne.symm hb)]; exact h.ft
theorem LocP.read {α:Type} {b lo hi:Nat} (k:Option O->Option α) (hk:∀e z n c a,k (some (.cells e z n true c))=some a->k (some (.cells e z n false c))=some a):LocP F fun s=>(k (s.heap.get b)).bind fun a=>some (a,s.note b lo hi false):=by
 intro s r h;simp only[oI,oS]at h;obtain⟨a,ha,rfl⟩:=h;refine fun t hA=>⟨t.note b lo hi false,?_,qie hA b lo hi (.inl rfl)⟩
 have:k (t.heap.get b)=some a:=by
  by_cases e:b=F.b
  . subst e
    rw[hA.fs]at ha;rw[hA.ft];exact hk _ _ _ _ _ ha
  . rw[hA.heap b e]; exact ha
 simp only[this,oB]
theorem LocS.write {b lo hi:Nat} (k:Option O->Option O) (hk:∀e z n c,k (some (.cells e z n true c))=none):LocS F fun s=>(k (s.heap.get b)).bind fun o=>some ((s.note b lo hi true).put b o):=by
 intro s r h;simp only[oI,oS]at h;obtain⟨o,ho,rfl⟩:=h;intro t hA
 have hb:b≠F.b:=fun e=>by
  subst e;rw[hA.fs,hk]at ho;cases ho
 refine⟨(t.note b lo hi true).put b o,?_,(qie hA b lo hi (.inr hb)).trans (put_ok (qie hA b lo hi (.inr hb)).same hb o)⟩;simp only[hA.heap b hb,ho,oB]
theorem LocS.setO {b:Nat} (hb:b≠F.b) (o:O):LocS F fun s=>some (setO s b o):=fun s r h=>by
 simp only[oS]at h;subst h;exact fun t hA=>⟨Ev.setO t b o,rfl,(qie hA b 0 big (.inr hb)).trans (put_ok (qie hA b 0 big (.inr hb)).same hb o)⟩
theorem nw_ok {s t:St} (h:Same F s t) (o:O):Ok F s (nw s o) t (nw t o):=by
 have hb:s.next≠F.b:=Nat.ne_of_gt h.lt
 have h1:=qie h s.next 0 big (x:=true) (.inr hb)
 have h2:=h1.trans (put_ok h1.same hb o);unfold nw;rw[h.next];exact⟨⟨rfl,h2.same.heap,h2.same.fs,h2.same.ft,Nat.lt_succ_of_lt h.lt⟩,h2.ons,h2.ont,h2.log⟩
theorem LocP.nw {α:Type} (k:Nat->α) (o:Nat->O):LocP F fun s=>some (k s.next,nw s (o s.next)):=fun s r h=>by
 simp only[oS]at h;subst h;exact fun t hA=>⟨Ev.nw t (o s.next),by simp only[hA.next],nw_ok hA _⟩
theorem LocN.nw (k:Nat->V) (o:Nat->O):LocN F fun s=>some (.val (k s.next) (nw s (o s.next))):=
 Loc.of_eq (fun _=>rfl) (LocN.vS (LocP.nw k o))
theorem Loc.bindGet {β:Type} {st:β->St} {up:β->St->β} (b:Nat) {g:O×St->Option β} (hc:∀e z n ro c s,g (.cells e z n ro c,s)=Option.none) (hg:b≠F.b->∀o,Loc F st up fun s=>g (o,s)):Loc F st up fun s=>(qgq s b).bind g:=by
 intro s r h t hA;have h:((s.heap.get b).bind fun o=>some (o,s.note b 0 big false)).bind g=some r:=h;simp only[oI,Prod.exists,oS,pM]at h;obtain⟨o,s1,⟨o',ho,rfl,rfl⟩,h⟩:=h
 have hb:b≠F.b:=fun e=>by
  subst e;rw[hA.fs]at ho;cases ho;rw[hc]at h;cases h
 have h1:=qie hA b 0 big (x:=false) (.inl rfl);obtain⟨t',e1,A1⟩:=hg hb o' _ _ h _ h1.same;refine⟨t',?_,h1.trans A1⟩;show((t.heap.get b).bind fun o=>some (o,t.note b 0 big false)).bind g=_;rw[hA.heap b hb,ho];exact e1
theorem loc_ldK (b off k:Nat):LocP F fun s=>ldK s b off k:=
 Loc.of_eq (fun s=>by
  unfold ldK;split
  . rename_i e esz n ro c h
    cases hc:(Nat.ble (off+k) (esz*n)&&Nat.blt (esz*n) big)
    . rw[h]; simp only[hc]; rfl
    . rw[h]; simp only[hc,cT]
  . rename_i h
    cases ho:s.heap.get b with
    | none=>rfl
    | some o=>cases o<;>first|rfl|exact absurd ho (h _ _ _ _ _))
  (LocP.read (b:=b) (lo:=off) (hi:=off+k) (fun o=>match o with
   | some (.cells _ esz n _ c)=>bif Nat.ble (off+k) (esz*n)&&Nat.blt (esz*n) big then qf3 c esz off k else none
   | _=>none) fun _ _ _ _ _ h=>h)
theorem loc_ld (b off:Nat):LocP F fun s=>ld s b off:=
 Loc.of_eq (fun s=>by
  unfold ld;split
  . rename_i e esz n ro c h
    cases hc:(Nat.blt off (esz*n)&&Nat.blt (esz*n) big)
    . rw[h]; simp only[hc]; rfl
    . rw[h]; simp only[hc,cT]
      cases c.get (off/esz)with
      | none=>rfl
      | some t=>simp only[oB]
  . rename_i h
    cases ho:s.heap.get b with
    | none=>rfl
    | some o=>cases o<;>first|rfl|exact absurd ho (h _ _ _ _ _))
  (LocP.read (b:=b) (lo:=off) (hi:=off+1) (fun o=>match o with
   | some (.cells _ esz n _ c)=>bif Nat.blt off (esz*n)&&Nat.blt (esz*n) big then(c.get (off/esz)).bind fun t=>t.get (off%esz)else none
   | _=>none) fun _ _ _ _ _ h=>h)
theorem loc_sizeB (b:Nat):LocP F fun s=>qg3 s b:=
 Loc.of_eq (fun s=>by
  unfold qg3;split
  . rename_i e esz n ro c h
    cases hc:(Nat.blt (esz*n) big)
    . rw[h]; simp only[hc]; rfl
    . rw[h]; simp only[hc,cT,oB]
  . rename_i h
    cases ho:s.heap.get b with
    | none=>rfl
    | some o=>cases o<;>first|rfl|exact absurd ho (h _ _ _ _ _))
  (LocP.read (b:=b) (lo:=big-1) (hi:=big) (fun o=>match o with
   | some (.cells _ esz n _ _)=>bif Nat.blt (esz*n) big then some (esz*n)else none
   | _=>none) fun _ _ _ _ _ h=>h)
theorem loc_stK (b off k:Nat) (t:Tr V):LocS F fun s=>stK s b off k t:=
 Loc.of_eq (fun s=>by
  unfold stK;split
  . rename_i e esz n ro c h
    cases hc:(Nat.ble (off+k) (esz*n)&&Nat.blt (esz*n) big&&!ro)
    . rw[h]; simp only[hc]; rfl
    . rw[h]; simp only[hc,cT]
      cases qer c esz off k t<;>rfl
  . rename_i h
    cases ho:s.heap.get b with
    | none=>rfl
    | some o=>cases o<;>first|rfl|exact absurd ho (h _ _ _ _ _))
  (LocS.write (b:=b) (lo:=off) (hi:=off+k) (fun o=>match o with
   | some (.cells e esz n ro c)=>bif Nat.ble (off+k) (esz*n)&&Nat.blt (esz*n) big&&!ro then(qer c esz off k t).bind fun c=>some (.cells e esz n false c)else none
   | _=>none) fun _ _ _ _=>by simp only[Bool.not_true,Bool.and_false,cF])
theorem loc_ldN (b k:Nat):∀(n off:Nat),LocP F fun s=>ldN b k n off s
 | 0,_=>LocP.ret []
 | n+1,off=>by
  unfold ldN
  exact Loc.bind (loc_ldK b off k) fun a=>by
   dsimp only;exact Loc.bind (loc_ldN b k n (off+k)) fun _=>by dsimp only; exact LocP.ret _
theorem loc_stN (b k:Nat):∀(l:List (Tr V)) (off:Nat),LocS F fun s=>stN b k l off s
 | [],_=>LocS.ret
 | t::l,off=>Loc.bindS (g:=fun s=>stN b k l (off+k) s) (loc_stK b off k t) (loc_stN b k l (off+k))
theorem loc_loadV (E:Env) (t:TypeId) (b off:Nat):LocP F fun s=>ql9 E t b off s:=by
 unfold ql9;refine Loc.opt fun g=>Loc.cond ?_ (loc_ld b off);refine Loc.opt fun n=>Loc.bind (loc_ldK b off n) fun _=>by dsimp only; exact LocP.ret _
theorem loc_storeV (E:Env) (t:TypeId) (b off:Nat) (v:V):LocS F fun s=>qi3 E t b off v s:=by
 unfold qi3;exact Loc.opt fun n=>Loc.cond (loc_stK b off n _) Loc.none
theorem loc_sliceV (E:Env) (t:TypeId) (x:V) (lo hi mx:Option V):LocP F fun s=>qb6 E t x lo hi mx s:=by
 unfold qb6;refine Loc.opt fun d=>?_;cases d<;>try exact Loc.none
 case string=>cases x<;>cases mx<;>first|exact Loc.none|exact Loc.opt fun _=>LocP.ret _
 case array=>
  cases x<;>try exact Loc.none
  exact Loc.opt fun _=>Loc.opt fun _=>LocP.ret _
 case slice=>
  cases x<;>try exact Loc.none
  case slice=>exact Loc.opt fun _=>Loc.opt fun _=>LocP.ret _
  case oslice b off len z=>
   refine Loc.opt fun z'=>Loc.cond ?_ Loc.none;refine Loc.bind (loc_sizeB b) fun k=>?_;dsimp only;refine Loc.opt fun p=>?_;cases mx with
   | some _=>exact LocP.ret _
   | none=>exact Loc.cond (LocP.ret _) (Loc.cond (LocP.ret _) Loc.none)
  case eslice=>exact Loc.opt fun _=>Loc.opt fun _=>LocP.ret _
  case nilslice=>exact Loc.opt fun _=>Loc.opt fun _=>LocP.ret _
  case list z l=>
   refine Loc.opt fun z'=>?_;cases mx with
   | some _=>exact Loc.none
   | none=>exact Loc.cond (Loc.opt fun _=>LocP.ret _) Loc.none
theorem loc_firstV (size n:Nat) (x:V):LocP F fun s=>qbc size n x s:=by
 cases x<;>try exact Loc.none
 case str=>exact Loc.cond (LocP.ret _) Loc.none
 case slice=>exact loc_ldN _ _ _ _
 case oslice=>exact loc_ldN _ _ _ _
 case eslice=>exact Loc.cond (LocP.ret _) Loc.none
 case nilslice=>exact Loc.cond (LocP.ret _) Loc.none
 case list=>exact Loc.cond (LocP.ret _) Loc.none
theorem loc_growV (elem:TypeId) (size n b off len:Nat) (l:List (Tr V)):LocP F fun s=>qge elem size n b off len l s:=by
 intro s r h t hA;unfold qge at h;simp only[qcq]at h;split at h
 . rename_i e esz m ro c hb
   cases h1:(ro||!Nat.beq e elem)with
   | true=>rw[h1]at h; cases h
   | false=>
   rw[h1]at h;simp only[cF]at h
   have hb':b≠F.b:=fun e=>by
    subst e;rw[hA.fs]at hb;cases hb;cases h1
   cases h2:(Nat.beq esz size&&Nat.beq off 0&&Nat.beq m len&&Nat.blt (esz*m) big)with
   | true=>
    rw[h2]at h;simp only[cT]at h
    have hl:LocP F fun s=>some (V.oslice s.next 0 (len+n) size,nw (setO s b .dead) (.cells elem size (len+n) false (addL c l len))):=by
     refine Loc.of_eq (g:=fun s=>((fun s=>some (setO s b .dead)) s).bind fun s=>some (V.oslice s.next 0 (len+n) size,nw s (.cells elem size (len+n) false (addL c l len)))) (fun s=>?_) (Loc.bindS (LocS.setO hb' .dead) (LocP.nw (fun k=>V.oslice k 0 (len+n) size) fun _=>_));simp only[oB];have:(setO s b .dead).next=s.next:=by show(s.note b 0 big true).next=_; unfold St.note; cases s.on<;>rfl
     rw[this]
    obtain⟨t',e1,A1⟩:=hl s r h t hA;refine⟨t',?_,A1⟩;unfold qge;simp only[qcq];rw[hA.heap b hb',hb];simp only[h1,h2,cT,cF];exact e1
   | false=>
    rw[h2]at h;simp only[cF]at h;cases h3:(Nat.beq esz size&&Nat.beq (off%size) 0)with
    | false=>rw[h3]at h; cases h
    | true=>
    rw[h3]at h;simp only[cT]at h
    have hl:LocP F fun s=>(ldN b size len off s).bind fun q=>some (V.oslice q.2.next 0 (len+n) size,qae (setO q.2 b .dead) elem size (q.1++l)):=by
     refine Loc.bind (loc_ldN b size len off) fun a=>?_;refine Loc.of_eq (g:=fun s=>((fun s=>some (setO s b .dead)) s).bind fun s=>some (V.oslice s.next 0 (len+n) size,qae s elem size (a++l))) (fun s=>?_) (Loc.bindS (LocS.setO hb' .dead) (LocP.nw (fun k=>V.oslice k 0 (len+n) size) fun _=>_));simp only[oB];have:(setO s b .dead).next=s.next:=by show(s.note b 0 big true).next=_; unfold St.note; cases s.on<;>rfl
     rw[this]
    obtain⟨t',e1,A1⟩:=hl s r h t hA;refine⟨t',?_,A1⟩;unfold qge;simp only[qcq];rw[hA.heap b hb',hb];simp only[h1,h2,h3,cF,cT];exact e1
 . cases h
theorem loc_appendV (elem:TypeId) (size n:Nat) (x y:V):LocP F fun s=>qc3 elem size n x y s:=by
 unfold qc3;refine Loc.bind (loc_firstV size n y) fun l=>?_;dsimp only;cases x<;>try exact Loc.none
 case slice b off len cap=>
  refine Loc.cond ?_ ?_
  . exact Loc.bindS (loc_stN b size l _) (LocP.ret _)
  . exact Loc.bind (loc_firstV size len _) fun a=>by dsimp only; exact LocP.nw (fun k=>V.oslice k 0 (len+n) size) fun _=>_
 case oslice b off len z=>
  refine Loc.cond ?_ Loc.none;refine Loc.bind (loc_sizeB b) fun a=>?_;dsimp only;refine Loc.cond ?_ (loc_growV _ _ _ _ _ _ _);exact Loc.bindS (loc_stN b size l _) (LocP.ret _)
 case eslice=>exact Loc.cond (LocP.ret _) Loc.none
 case nilslice=>exact Loc.cond (LocP.ret _) (LocP.nw (fun k=>V.oslice k 0 n size) fun _=>_)
theorem loc_lookupV (E:Env) (t:TypeId) (x k:V) (ok:Bool):LocP F fun s=>qe0 E t x k ok s:=by
 unfold qe0;refine Loc.opt fun d=>?_;cases d<;>try exact Loc.none
 rename_i kt et;refine Loc.opt fun d=>Loc.cond ?_ Loc.none
 refine Loc.bind (f:=fun s=>match x with
  | .nilmap=>some ([],s)
  | .map r=>(qgq s r).bind fun p=>match p.1 with
   | .map es _=>some (es,p.2)
   | _=>none
  | _=>none) ?_ fun es=>?_
 . cases x<;>try exact Loc.none
   . rename_i r
     refine Loc.bindGet r (fun _ _ _ _ _ _=>rfl) fun hb o=>?_;dsimp only;cases o<;>first|exact Loc.none|exact LocP.ret _
   . exact LocP.ret _
 . dsimp only
   refine Loc.opt fun q=>?_;cases q with
   | none=>exact Loc.opt fun z=>LocP.ret _
   | some q=>exact LocP.ret _
theorem loc_updateV (E:Env) (t:TypeId) (m k v:V):LocS F fun s=>qco E t m k v s:=by
 unfold qco;refine Loc.opt fun d=>?_;cases d<;>try exact Loc.none
 rename_i kt et;refine Loc.opt fun d=>Loc.cond ?_ Loc.none;cases m<;>try exact Loc.none
 rename_i r;refine Loc.bindGet r (fun _ _ _ _ _ _=>rfl) fun hb o=>?_;dsimp only;cases o<;>try exact Loc.none
 rename_i es clock;refine Loc.opt fun q=>?_;cases q with
 | none=>exact LocS.setO hb _
 | some q=>exact LocS.setO hb _
theorem loc_setRet {α:Type} {r:Nat} (hb:r≠F.b) (o:O) (a:α):LocP F fun s=>some (a,setO s r o):=
 Loc.of_eq (g:=fun s=>((fun s=>some (setO s r o)) s).bind fun s=>some (a,s)) (fun _=>rfl) (Loc.bindS (LocS.setO hb o) (LocP.ret _))
theorem loc_entryV (E:Env) (t:TypeId) (m k:V):LocP F fun s=>qht E t m k s:=by
 unfold qht;refine Loc.opt fun d=>?_;cases d<;>try exact Loc.none
 rename_i kt et;refine Loc.opt fun d=>Loc.cond ?_ Loc.none;cases m<;>try exact Loc.none
 rename_i r;refine Loc.bindGet r (fun _ _ _ _ _ _=>rfl) fun hb o=>?_;dsimp only;cases o<;>try exact Loc.none
 rename_i es clock;refine Loc.opt fun q=>?_;cases q with
 | none=>exact Loc.opt fun z=>loc_setRet hb _ _
 | some q=>exact Loc.opt fun z=>loc_setRet hb _ _
theorem loc_entryStoreV (m st v:V):LocS F fun s=>qbz m st v s:=by
 unfold qbz;cases m<;>try exact Loc.none
 cases st<;>try exact Loc.none
 rename_i r kk nn;cases nn<;>try exact Loc.none
 refine Loc.bindGet r (fun _ _ _ _ _ _=>rfl) fun hb o=>?_;dsimp only;cases o<;>try exact Loc.none
 exact Loc.opt fun q=>LocS.setO hb _
theorem loc_deleteV (E:Env) (t:TypeId) (m k:V):LocS F fun s=>qfc E t m k s:=by
 unfold qfc;refine Loc.opt fun d=>?_;cases d<;>try exact Loc.none
 rename_i kt et;refine Loc.opt fun d=>Loc.cond ?_ Loc.none;cases m<;>try exact Loc.none
 . rename_i r
   refine Loc.bindGet r (fun _ _ _ _ _ _=>rfl) fun hb o=>?_;dsimp only;cases o<;>try exact Loc.none
   rename_i es clock;refine Loc.opt fun q=>?_;cases q with
   | none=>exact LocS.setO hb _
   | some q=>exact LocS.setO hb _
 . exact LocS.ret
theorem loc_zerosAt (b off n:Nat):LocP F fun s=>qb2 s b off n:=
 Loc.of_eq (fun s=>by
  unfold qb2;split
  . rename_i e esz m ro c h
    cases hc:(Nat.beq esz 1&&Nat.ble (off+n) m&&Nat.blt m big&&Nat.blt 0 n&&qdh c)
    . rw[h]; simp only[hc]; rfl
    . rw[h]; simp only[hc,cT,oB]
  . rename_i h
    cases ho:s.heap.get b with
    | none=>rfl
    | some o=>cases o<;>first|rfl|exact absurd ho (h _ _ _ _ _))
  (LocP.read (b:=b) (lo:=off) (hi:=off+n) (fun o=>match o with
   | some (.cells _ esz m _ c)=>bif Nat.beq esz 1&&Nat.ble (off+n) m&&Nat.blt m big&&Nat.blt 0 n&&qdh c then some (V.str n 0)else none
   | _=>none) fun _ _ _ _ _ h=>h)
theorem zerosAt_none {s t:St} {b off n:Nat} (h:qb2 s b off n=none) (hA:Same F s t):qb2 t b off n=none:=by
 by_cases e:b=F.b
 . subst e
   unfold qb2 at h ⊢;rw[hA.fs]at h;rw[hA.ft];simp only at h ⊢;cases hx:(Nat.beq F.z 1&&Nat.ble (off+n) F.n&&Nat.blt F.n big&&Nat.blt 0 n&&qdh F.c)
   . rfl
   . rw[hx]at h; cases h
 . exact Lg.zerosAt_none h (.inr (hA.heap b e))
theorem loc_bytes (b off l c n:Nat):LocP F fun s=>qfq (qb2 s b off n) ((qbc 1 n (.slice b off l c) s).bind fun p=>(qdp p.1).bind fun q=>some (V.str q.1 q.2,p.2)):=by
 have hg:LocP F fun s=>(qbc 1 n (.slice b off l c) s).bind fun p=>(qdp p.1).bind fun q=>some (V.str q.1 q.2,p.2):=Loc.bind (loc_firstV 1 n _) fun a=>by dsimp only; exact Loc.opt fun q=>LocP.ret _
 intro s r h t hA;dsimp only at h;cases hz:qb2 s b off n with
 | some q=>
  rw[hz]at h;simp only[qfq,oS]at h;subst h;obtain⟨t',e1,A1⟩:=loc_zerosAt b off n s _ hz t hA;have e1':qb2 t b off n=some (upP q t'):=e1;exact⟨t',by dsimp only; rw[e1']; rfl,A1⟩
 | none=>
  rw[hz]at h;have h':((qbc 1 n (.slice b off l c) s).bind fun p=>(qdp p.1).bind fun q=>some (V.str q.1 q.2,p.2))=some r:=h;obtain⟨t',e1,A1⟩:=hg s r h' t hA;refine⟨t',?_,A1⟩;have hno:qb2 t b off n=none:=zerosAt_none hz hA;dsimp only;rw[hno];exact e1
theorem loc_sameV (b:Nat):LocS F fun s=>sameV s b:=
 Loc.of_eq (fun s=>by
  unfold sameV;split
  . rename_i e esz m c h
    rw[h]; rfl
  . rename_i h
    cases ho:s.heap.get b with
    | none=>rfl
    | some o=>
     cases o<;>try rfl
     rename_i e esz m ro c;cases ro
     . exact absurd ho (h _ _ _ _)
     . rfl)
  (LocS.write (b:=b) (lo:=0) (hi:=big) (fun o=>match o with
   | some (.cells e esz m false c)=>some (.cells e esz m false c)
   | _=>none) fun _ _ _ _=>rfl)
theorem loc_liesV (E:Env) (u:TypeId) (b off:Nat):LocS F fun s=>liesV E u b off s:=
 Loc.of_eq (g:=fun s=>(((match s.heap.get b with
  | some (.cells e esz m _ _)=>(sizeT E e).bind fun z=>bif Nat.beq z esz&&Nat.blt off (esz*m)&&Nat.blt (esz*m) big&&qib e (off%esz) u E.lie then some ()else none
  | _=>none:Option Unit)).bind fun a=>some (a,s.note b off (off+1) false)).bind fun p=>some p.2) (fun s=>by
  unfold liesV;cases s.heap.get b with
  | none=>rfl
  | some o=>
   cases o<;>try rfl
   rename_i e esz m ro c;show(sizeT E e).bind _=(((sizeT E e).bind _).bind _).bind _;cases sizeT E e with
   | none=>rfl
   | some z=>
    simp only[oB]
    cases(Nat.beq z esz&&Nat.blt off (esz*m)&&Nat.blt (esz*m) big&&qib e (off%esz) u E.lie)<;>rfl)
  (Loc.bind (LocP.read (b:=b) (lo:=off) (hi:=off+1) (fun o=>match o with
   | some (.cells e esz m _ _)=>(sizeT E e).bind fun z=>bif Nat.beq z esz&&Nat.blt off (esz*m)&&Nat.blt (esz*m) big&&qib e (off%esz) u E.lie then some ()else none
   | _=>none) fun _ _ _ _ _ h=>h) fun _=>LocS.ret)
theorem loc_liesB (E:Env) (u:TypeId) (b off n:Nat):LocS F fun s=>qmz E u b off n s:=
 Loc.of_eq (g:=fun s=>(((match s.heap.get b with
  | some (.cells e esz m false _)=>(sizeT E e).bind fun z=>bif Nat.beq e u&&Nat.beq z 1&&Nat.beq esz 1&&Nat.ble (off+n) m&&Nat.blt m big then some ()else none
  | _=>none:Option Unit)).bind fun a=>some (a,s.note b off (off+1) false)).bind fun p=>some p.2) (fun s=>by
  unfold qmz;cases s.heap.get b with
  | none=>rfl
  | some o=>
   cases o<;>try rfl
   rename_i e esz m ro c;cases ro<;>try rfl
   show(sizeT E e).bind _=(((sizeT E e).bind _).bind _).bind _;cases sizeT E e with
   | none=>rfl
   | some z=>
    simp only[oB]
    cases(Nat.beq e u&&Nat.beq z 1&&Nat.beq esz 1&&Nat.ble (off+n) m&&Nat.blt m big)<;>rfl)
  (Loc.bind (LocP.read (b:=b) (lo:=off) (hi:=off+1) (fun o=>match o with
   | some (.cells e esz m false _)=>(sizeT E e).bind fun z=>bif Nat.beq e u&&Nat.beq z 1&&Nat.beq esz 1&&Nat.ble (off+n) m&&Nat.blt m big then some ()else none
   | _=>none) fun _ _ _ _ _ h=>by cases h) fun _=>LocS.ret)
theorem Loc.bindLies {β:Type} {st:β->St} {up:β->St->β} (E:Env) (u:TypeId) (b off n:Nat) {g:St->Option β} (hg:b≠F.b->Loc F st up g):Loc F st up fun s=>(qmz E u b off n s).bind g:=by
 intro s r h t hA
 have hb:b≠F.b:=fun e=>by
  subst e;have h':(qmz E u F.b off n s).bind g=some r:=h;unfold qmz at h';rw[hA.fs]at h';cases h'
 exact Loc.bindS (loc_liesB E u b off n) (hg hb) s r h t hA
theorem loc_unsafeV (E:Env) (ds dd:TypeDesc) (x:V):LocP F fun s=>qg6 E ds dd x s:=by
 unfold qg6;cases x<;>try exact Loc.none
 refine Loc.cond ?_ (Loc.cond ?_ Loc.none)
 . refine Loc.opt fun t=>Loc.opt fun z=>Loc.cond Loc.none ?_
   exact Loc.bindS (loc_liesV _ _ _ _) (LocP.ret _)
 . refine Loc.opt fun t=>Loc.opt fun z=>?_
   exact Loc.bindS (loc_liesV _ _ _ _) (LocP.ret _)
theorem loc_convertV (E:Env) (src dst:TypeId) (x:V):LocP F fun s=>qbe E src dst x s:=by
 unfold qbe;refine Loc.opt fun ds=>Loc.opt fun dd=>Loc.cond (loc_unsafeV _ _ _ _) ?_
 have bytes:∀(x:V),LocP F fun s=>(match ds with
  | .slice e=>(und E e).bind fun
   | .int .u8=>(lenV x).bind fun n=>match x with
    | .str _ _=>none
    | .slice b off l c=>qfq (qb2 s b off n) ((qbc 1 n (.slice b off l c) s).bind fun p=>(qdp p.1).bind fun q=>some (.str q.1 q.2,p.2))
    | x=>(qbc 1 n x s).bind fun p=>(qdp p.1).bind fun q=>some (V.str q.1 q.2,p.2)
   | _=>none
  | _=>none):=by
  intro x;cases ds<;>try exact Loc.none
  rename_i e;refine Loc.opt fun d=>?_;cases d<;>try exact Loc.none
  rename_i k;cases k<;>try exact Loc.none
  refine Loc.opt fun n=>?_
  cases x<;>first
   | exact Loc.none
   | exact loc_bytes _ _ _ _ _
   | exact Loc.bind (loc_firstV 1 n _) fun a=>by dsimp only; exact Loc.opt fun q=>LocP.ret _
 cases dd<;>try (cases x<;>exact Loc.none)
 . cases x<;>first|exact Loc.none|exact LocP.ret _
 . cases x<;>first|exact LocP.ret _|exact bytes _
 . cases x<;>try exact Loc.none
   . refine Loc.opt fun d=>?_
     cases d<;>try exact Loc.none
     rename_i k;cases k<;>try exact Loc.none
     exact LocP.nw (fun k=>V.oslice k 0 _ 1) fun _=>_
   . refine Loc.cond ?_ Loc.none
     refine Loc.opt fun d=>?_;cases d<;>try exact Loc.none
     rename_i k;cases k<;>try exact Loc.none
     exact Loc.bindS (loc_sameV _) (LocP.ret _)
theorem loc_lenAny (d:TypeDesc) (E:Env) (x:V):LocN F fun s=>lenAny d E x s:=by
 cases d<;>try exact Loc.none
 case array=>exact LocN.ret _
 case pointer e=>
  refine Loc.opt fun d=>?_;cases d<;>first|exact Loc.none|exact LocN.ret _
 case string=>cases x<;>first|exact Loc.none|exact LocN.ret _
 case slice=>cases x<;>first|exact Loc.none|exact LocN.ret _
 case map=>
  cases x<;>try exact Loc.none
  case nilmap=>exact LocN.ret _
  case map r=>
   refine Loc.bindGet r (fun _ _ _ _ _ _=>rfl) fun hb o=>?_;dsimp only;cases o<;>first|exact Loc.none|exact LocN.ret _
theorem loc_copyInto (size:Nat) (x:V) (n:Nat) (l:List (Tr V)):LocN F fun s=>qhh size x n l s:=by
 cases x<;>try exact Loc.none
 case slice=>exact Loc.bindS (loc_stN _ size l _) (LocN.ret _)
 case oslice=>exact Loc.bindS (loc_stN _ size l _) (LocN.ret _)
 case eslice=>exact LocN.ret _
 case nilslice=>exact LocN.ret _
theorem loc_extV (k:Nat) (args:List V):LocN F fun s=>extV k args s:=by
 unfold extV;split
 . split
   . refine Loc.cond ?_ Loc.none
     split<;>exact LocN.ret _
   . exact Loc.none
 . split
   . rename_i t r
     refine Loc.bindGet r (fun _ _ _ _ _ _=>rfl) fun hb o=>?_;dsimp only;cases o<;>first|exact Loc.none|exact LocN.nw (fun k=>V.iface t (V.map k)) fun _=>_
   . exact Loc.none
 . split
   . exact Loc.cond (LocN.ret _) Loc.none
   . exact Loc.none
 . split
   . exact LocN.ret _
   . exact Loc.none
 . refine Loc.cond ?_ Loc.none
   split
   . exact Loc.cond (LocN.nw (fun k=>V.oslice k 0 _ 1) fun _=>_) Loc.none
   . exact Loc.none
theorem LocN.enter (f:FuncId) (args:List V):LocN F fun s=>some (.enter f args s):=fun s r h=>by
 simp only[oS]at h;subst h;exact fun t hA=>⟨t,rfl,Ok.refl hA⟩
theorem LocN.round (f:Nat) (args:List V):LocN F fun s=>some (.round f args s):=fun s r h=>by
 simp only[oS]at h;subst h;exact fun t hA=>⟨t,rfl,Ok.refl hA⟩
theorem LocN.defer (d:AD):LocN F fun s=>some (.defer d s):=fun s r h=>by
 simp only[oS]at h;subst h;exact fun t hA=>⟨t,rfl,Ok.refl hA⟩
theorem LocN.recover:LocN F fun s=>some (.recover s):=fun s r h=>by
 simp only[oS]at h;subst h;exact fun t hA=>⟨t,rfl,Ok.refl hA⟩
theorem LocN.pan (v:V):LocN F fun s=>some (.pan v s):=fun s r h=>by
 simp only[oS]at h;subst h;exact fun t hA=>⟨t,rfl,Ok.refl hA⟩
theorem loc_callV (E:Env) (f:V) (args:List V):LocN F fun s=>qeq E f args s:=by
 unfold qeq;cases f<;>try exact Loc.none
 case yield l=>exact LocN.round _ _
 rename_i fn x y;cases fn<;>try exact Loc.none
 rename_i g;dsimp only;cases E.ext.get g with
 | some k=>exact loc_extV _ _
 | none=>exact Loc.cond (LocN.enter _ _) Loc.none
theorem loc_extendAt (E:Env) (e:TypeId) (size bytes:Nat) (x y:V):LocP F fun s=>qe6 E e size bytes x y s:=by
 unfold qe6;cases x<;>try exact Loc.none
 exact Loc.opt fun n=>Loc.cond (Loc.opt fun z=>Loc.cond (LocP.nw (fun k=>V.oslice k 0 n size) fun _=>_) Loc.none) Loc.none
theorem loc_builtinF (E:Env) (b:Builtin) (ts:List TypeId) (args:List Operand) (a:Ac):LocN F fun s=>(qa8 E b ts args).run a s:=by
 cases b<;>try exact Loc.none
 case append=>
  unfold qa8;dsimp only;split
  . refine Loc.opt fun q=>Loc.opt fun d2=>Loc.cond ?_ (Loc.cond ?_ Loc.none)
    . refine Loc.opt fun vx=>Loc.opt fun vy=>Loc.opt fun n=>Loc.opt fun m=>Loc.cond ?_ Loc.none
      exact LocN.vS (loc_appendV _ _ _ _ _)
    . exact Loc.opt fun vx=>Loc.opt fun vy=>LocN.vS (loc_extendAt _ _ _ _ _ _)
  . exact Loc.none
 case cap=>
  unfold qa8;dsimp only;split
  . refine Loc.opt fun d=>?_
    cases d<;>try exact Loc.none
    refine Loc.opt fun v=>?_;cases v<;>first|exact Loc.none|exact LocN.ret _
  . exact Loc.none
 case copy=>
  unfold qa8;dsimp only;split
  . refine Loc.opt fun q=>Loc.opt fun vx=>Loc.opt fun vy=>Loc.opt fun m=>Loc.opt fun k=>?_
    exact Loc.bind (loc_firstV _ _ _) fun l=>by dsimp only; exact loc_copyInto _ _ _ _
  . exact Loc.none
 case delete=>
  unfold qa8;dsimp only;split
  . exact Loc.opt fun m=>Loc.opt fun k=>LocN.uS (loc_deleteV _ _ _ _)
  . exact Loc.none
 case len=>
  unfold qa8;dsimp only;split
  . exact Loc.opt fun d=>Loc.opt fun v=>loc_lenAny _ _ _
  . exact Loc.none
 case unsafeSliceData=>
  unfold qa8;dsimp only;split
  . refine Loc.opt fun v=>?_
    cases v<;>first|exact Loc.none|exact LocN.ret _|exact Loc.cond (LocN.ret _) Loc.none
  . exact Loc.none
 case unsafeString=>
  unfold qa8;dsimp only;split
  . refine Loc.opt fun d=>Loc.opt fun u=>Loc.opt fun p=>Loc.opt fun vn=>Loc.opt fun n=>?_
    cases p<;>first|exact Loc.none|exact Loc.cond (LocN.ret _) Loc.none|skip
    refine Loc.cond (LocN.ret _) (Loc.cond ?_ Loc.none);refine Loc.bindLies _ _ _ _ _ fun hb=>?_;refine Loc.bind (loc_ldN _ 1 _ _) fun l=>?_;dsimp only;refine Loc.opt fun k=>?_;exact Loc.of_eq (g:=fun s=>((fun s=>some (setO s _ .dead)) s).bind fun s=>some (Nx.val (.str k.1 k.2) s)) (fun _=>rfl) (Loc.bindS (LocS.setO hb _) (LocN.ret _))
  . exact Loc.none
 case max=>
  unfold qa8;dsimp only;split
  . exact Loc.opt fun v=>Loc.opt fun vs=>LocN.pS _
  . exact Loc.none
 case min=>
  unfold qa8;dsimp only;split
  . exact Loc.opt fun v=>Loc.opt fun vs=>LocN.pS _
  . exact Loc.none
 case panic=>
  unfold qa8;dsimp only;split
  . refine Loc.opt fun v=>?_
    cases v<;>first|exact Loc.none|exact LocN.pan _
  . exact Loc.none
 case recover=>exact LocN.recover
theorem loc_opF (E:Env) (op:Op) (a:Ac):LocN F fun s=>(opF E op).run a s:=by
 cases op<;>try exact Loc.none
 case move=>exact LocN.pS _
 case assign=>exact LocN.pS _
 case pick=>
  refine Loc.opt fun v=>?_;cases v<;>try exact Loc.none
  exact Loc.cond (LocN.pS _) (LocN.pS _)
 case alloc t=>exact Loc.opt fun z=>LocN.nw (fun k=>V.ptr k 0) fun _=>_
 case box t x=>exact Loc.opt fun v=>Loc.cond Loc.none (LocN.nw (fun k=>V.ptr k 0) fun _=>_)
 case build=>exact Loc.opt fun v=>LocN.pS _
 case buildSlice t len parts=>
  refine Loc.opt fun q=>Loc.cond ?_ Loc.none;refine Loc.opt fun z=>Loc.opt fun ps=>Loc.cond ?_ Loc.none;exact Loc.opt fun l=>LocN.nw (fun k=>V.slice k 0 len len) fun _=>_
 case load=>
  refine Loc.opt fun v=>?_;cases v<;>try exact Loc.none
  . exact LocN.vS (loc_loadV _ _ _ _)
  . exact Loc.cond (LocN.ret _) Loc.none
 case store=>
  refine Loc.opt fun v=>?_;cases v<;>try exact Loc.none
  exact Loc.opt fun v=>LocN.uS (loc_storeV _ _ _ _ _)
 case nilCheck=>exact Loc.opt fun v=>Loc.cond (LocN.ret _) Loc.none
 case binOp=>exact Loc.opt fun v=>Loc.opt fun u=>LocN.pS _
 case unOp=>exact Loc.opt fun v=>LocN.pS _
 case convert=>exact Loc.opt fun v=>LocN.vS (loc_convertV _ _ _ _)
 case makeInterface=>exact Loc.opt fun d=>Loc.cond (Loc.opt fun v=>LocN.ret _) Loc.none
 case makeFunc=>exact Loc.opt fun d=>Loc.opt fun v=>LocN.ret _
 case makeMap t r=>
  cases r with
  | none=>exact LocN.nw (fun k=>V.map k) fun _=>_
  | some x=>exact Loc.opt fun d=>Loc.opt fun v=>Loc.cond (LocN.nw (fun k=>V.map k) fun _=>_) Loc.none
 case makeSlice=>
  refine Loc.opt fun q=>Loc.opt fun vl=>Loc.opt fun n=>Loc.opt fun vc=>Loc.opt fun m=>Loc.cond ?_ Loc.none;exact Loc.opt fun z=>Loc.cond (LocN.nw (fun k=>V.slice k 0 n m) fun _=>_) Loc.none
 case slice=>exact Loc.opt fun v=>Loc.opt fun l=>Loc.opt fun h=>Loc.opt fun m=>LocN.vS (loc_sliceV _ _ _ _ _ _)
 case fieldAddr=>
  refine Loc.opt fun p=>Loc.cond Loc.none (Loc.opt fun v=>?_);cases v<;>try exact Loc.none
  . exact LocN.ret _
  . rename_i u
    cases u<;>first|exact Loc.none|exact Loc.opt fun _=>LocN.ret _
 case field=>
  refine Loc.opt fun p=>Loc.opt fun v=>?_;cases v<;>first|exact Loc.none|exact LocN.pS _
 case indexAddr=>
  refine Loc.opt fun d=>Loc.opt fun vi=>Loc.opt fun n=>Loc.opt fun v=>?_;cases d<;>try exact Loc.none
  . refine Loc.opt fun z=>?_
    cases v<;>first|exact Loc.none|exact Loc.cond (LocN.ret _) Loc.none|exact Loc.cond (Loc.opt fun _=>LocN.ret _) Loc.none
  . refine Loc.opt fun z=>?_
    cases v<;>try exact Loc.none
    . exact Loc.cond (LocN.ret _) Loc.none
    . rename_i u
      cases u<;>first|exact Loc.none|exact Loc.cond (Loc.opt fun _=>LocN.ret _) Loc.none
 case index=>
  refine Loc.opt fun d=>Loc.opt fun vi=>Loc.opt fun n=>Loc.opt fun v=>?_;cases d<;>try exact Loc.none
  . cases v<;>first|exact Loc.none|exact Loc.cond (LocN.ret _) Loc.none
  . cases v<;>first|exact Loc.none|exact Loc.opt fun z=>Loc.cond (LocN.pS _) Loc.none
 case lookup=>exact Loc.opt fun m=>Loc.opt fun k=>LocN.vS (loc_lookupV _ _ _ _ _)
 case mapUpdate=>exact Loc.opt fun m=>Loc.opt fun k=>Loc.opt fun v=>LocN.uS (loc_updateV _ _ _ _ _)
 case insert=>exact Loc.opt fun m=>Loc.opt fun k=>Loc.opt fun v=>LocN.uS (loc_updateV _ _ _ _ _)
 case mapEntry=>exact Loc.opt fun m=>Loc.opt fun k=>LocN.vS (loc_entryV _ _ _ _)
 case entryStore=>exact Loc.opt fun m=>Loc.opt fun k=>Loc.opt fun v=>LocN.uS (loc_entryStoreV _ _ _)
 case typeAssert x xt asserted ok=>
  refine Loc.opt fun d=>Loc.cond (Loc.opt fun v=>?_) Loc.none;have no:LocN F fun s=>qdi E asserted ok s:=Loc.cond (Loc.opt fun z=>LocN.ret _) Loc.none;cases v<;>try exact Loc.none
  . exact Loc.cond (LocN.ret _) no
  . exact no
 case range=>
  refine Loc.opt fun d=>?_;cases d<;>try exact Loc.none
  refine Loc.opt fun v=>?_;cases v<;>first|exact Loc.none|exact LocN.nw (fun k=>V.ptr k 0) fun _=>_
 case next=>
  refine Loc.cond (Loc.opt fun v=>?_) Loc.none;cases v<;>try exact Loc.none
  rename_i b off;refine Loc.cond ?_ Loc.none;refine Loc.bindGet b (fun _ _ _ _ _ _=>rfl) fun hb o=>?_;dsimp only;cases o<;>try exact Loc.none
  refine Loc.cond ?_ (LocN.ret _);exact Loc.of_eq (fun _=>rfl) (LocN.vS (loc_setRet hb _ _))
 case extract=>
  refine Loc.opt fun v=>?_;cases v<;>first|exact Loc.none|exact LocN.pS _
 case panic=>
  refine Loc.opt fun v=>?_;cases v<;>first|exact Loc.none|exact LocN.pan _
 case call c=>
  unfold opF;dsimp only;cases c.callee with
  | builtin b=>exact loc_builtinF _ _ _ _ _
  | value f=>exact Loc.opt fun fv=>Loc.opt fun vs=>loc_callV _ _ _
  | invoke x n=>exact Loc.none
 case defer c=>
  unfold opF;dsimp only;cases c.callee with
  | builtin b=>exact Loc.none
  | value f=>
   refine Loc.opt fun fv=>?_;cases fv<;>first|exact Loc.none|exact Loc.opt fun vs=>LocN.defer _
  | invoke x n=>exact Loc.none
abbrev LocX (F:Fz) (f:St->Option (X×Ac×St)):Prop:=Loc F (fun r=>r.2.2) upX f
abbrev LocM (F:Fz) (f:St->Option (X×Ac×Md×St)):Prop:=Loc F (fun r=>r.2.2.2) upM f
section
variable {β γ:Type} {st:β->St} {up:β->St->β} {st1:γ->St} {up1:γ->St->γ}
theorem Loc.bindN {f:St->Option Nx} {g:Nx->Option β} (hf:LocN F f) (hg:∀r:Nx,Loc F st up fun s=>g (r.up s)):Loc F st up fun s=>(f s).bind g:=Loc.bindG nx_up hf hg
theorem Loc.bindX {f:St->Option (X×Ac×St)} {g:X×Ac×St->Option β} (hf:LocX F f) (hg:∀x a,Loc F st up fun s=>g (x,a,s)):Loc F st up fun s=>(f s).bind g:=
 Loc.bindG (up1:=upX) (fun _=>rfl) hf fun r=>hg r.1 r.2.1
theorem Loc.bindM {f:St->Option (X×Ac×Md×St)} {g:X×Ac×Md×St->Option β} (hf:LocM F f) (hg:∀x a m,Loc F st up fun s=>g (x,a,m,s)):Loc F st up fun s=>(f s).bind g:=
 Loc.bindG (up1:=upM) (fun _=>rfl) hf fun r=>hg r.1 r.2.1 r.2.2.1
end
theorem LocX.ret (x:X) (a:Ac):LocX F fun s=>some (x,a,s):=fun s r h=>by
 simp only[oS]at h;subst h;exact fun t hA=>⟨t,rfl,Ok.refl hA⟩
theorem LocM.ret (x:X) (a:Ac) (m:Md):LocM F fun s=>some (x,a,m,s):=fun s r h=>by
 simp only[oS]at h;subst h;exact fun t hA=>⟨t,rfl,Ok.refl hA⟩
def EVLoc (F:Fz) (self:EV):Prop:=(∀f args,LocP F fun s=>self.f f args s)/\∀l args,LocP F fun s=>self.r l args s
def CFLoc (F:Fz) (c:CF):Prop:=∀self,EVLoc F self->∀a,LocX F fun s=>c.run self a s
theorem loc_afterOp {self:EV} (hs:EVLoc F self) (p:PF) (a:Ac) (nx:Nx):LocX F fun s=>qbj p self a (nx.up s):=by
 cases nx with
 | val v s0=>
  simp only[Nx.up,qbj,qbw,qaz];exact Loc.opt fun a'=>LocX.ret _ _
 | enter f args s0=>
  simp only[Nx.up,qbj,qaz];refine Loc.bind (hs.1 f args) fun e=>?_;cases e with
  | ret v=>
   simp only[qbu,qbw,qaz];exact Loc.opt fun a'=>LocX.ret _ _
  | pan v=>exact LocX.ret _ _
 | round f args s0=>
  simp only[Nx.up,qbj,qaz];refine Loc.bind (hs.2 f args) fun e=>?_;cases e with
  | ret v=>
   simp only[qbu,qbw,qaz];exact Loc.opt fun a'=>LocX.ret _ _
  | pan v=>exact LocX.ret _ _
 | defer d s0=>
  simp only[Nx.up,qbj];cases a.round with
  | none=>exact Loc.opt fun a'=>LocX.ret _ _
  | some l=>exact Loc.none
 | recover s0=>exact Loc.none
 | pan v s0=>exact LocX.ret _ _
theorem loc_op1 (E:Env) (ops:Array Oper) (o:Oper):CFLoc F (op1 E ops o):=fun self hs a=>by
 refine Loc.opt fun b=>Loc.cond ?_ (Loc.opt fun a'=>LocX.ret _ _);exact Loc.bindN (loc_opF E o.op a) fun nx=>loc_afterOp hs _ _ nx
theorem loc_skip:CFLoc F ⟨skipC⟩:=fun _ _ _=>LocX.ret _ _
theorem loc_seqC {x y:CF} (hx:CFLoc F x) (hy:CFLoc F y):CFLoc F ⟨seqC x y⟩:=fun self hs a=>by
 refine Loc.bindX (hx self hs a) fun e a'=>?_;cases e with
 | norm=>exact hy self hs a'
 | _=>exact LocX.ret _ _
theorem loc_opsL (E:Env) (ops:Array Oper):∀l,CFLoc F (opsL E ops l)
 | []=>loc_skip
 | o::l=>loc_seqC (loc_op1 E ops o) (loc_opsL E ops l)
def DFLoc (F:Fz) (d:DF):Prop:=∀self,EVLoc F self->∀a s r,d.run self a s=some r->∀t,Same F s t->∃t',d.run self a t=some (r.1,r.2.1,t',r.2.2.2)/\Same F r.2.2.1 t'/\∀L∈r.2.2.2,Wd F L
theorem loc_drawNil:DFLoc F ⟨drawNil⟩:=fun _ _ a s r h t hA=>by
 have h':some (X.norm,a,s,[])=some r:=h;simp only[oS]at h';subst h';exact⟨t,rfl,hA,fun _ h=>by cases h⟩
theorem loc_drawC {x:CF} {k:DF} (hx:CFLoc F x) (hk:DFLoc F k):DFLoc F ⟨qgo x k⟩:=fun self hs a s r h t hA=>by
 have h':qgo x k self a s=some r:=h;unfold qgo at h';simp only[oI]at h';obtain⟨⟨x1,a1,s1⟩,h1,h2⟩:=h';obtain⟨t1,e1,A1⟩:=hx self hs a _ _ h1 {t with on:=true,log:=[]} ⟨hA.next,hA.heap,hA.fs,hA.ft,hA.lt⟩;obtain⟨d,l1,l2,l3⟩:=A1.log;have hl1:s1.log=d:=by have:=l1 rfl; simpa using this
 have hl2:t1.log=d:=by have:=l2 rfl; simpa using this
 have hrun:∀R,qd0 k self (x1,a1,t1)=some R->qgo x k self a t=some R:=fun R hR=>by
  unfold qgo;have e1':x.run self a {t with on:=true,log:=[]}=some (x1,a1,t1):=e1;rw[e1']; exact hR
 cases x1 with
 | norm=>
  simp only[qd0,oI,oS]at h2;obtain⟨q,h3,rfl⟩:=h2;obtain⟨t2,e2,A2,w2⟩:=hk self hs a1 s1 q h3 t1 A1.same;refine⟨t2,hrun _ ?_,A2,fun L hL=>?_⟩
  . show((k.run self a1 t1).bind _)=_
    rw[e2,hl1,hl2]; rfl
  . rcases List.mem_cons.1 hL with rfl|hL
    . rw[hl1]; exact l3
    . exact w2 L hL
 | exit id=>
  simp only[qd0,oS]at h2;subst h2;exact⟨t1,hrun _ (by simp only[qd0,hl1,hl2]),A1.same,fun L hL=>by rw[List.mem_singleton.1 hL,hl1]; exact l3⟩
 | ret=>
  simp only[qd0,oS]at h2;subst h2;exact⟨t1,hrun _ (by simp only[qd0,hl1,hl2]),A1.same,fun L hL=>by rw[List.mem_singleton.1 hL,hl1]; exact l3⟩
 | pan v=>
  simp only[qd0,oS]at h2;subst h2;exact⟨t1,hrun _ (by simp only[qd0,hl1,hl2]),A1.same,fun L hL=>by rw[List.mem_singleton.1 hL,hl1]; exact l3⟩
theorem loc_opsD (E:Env) (ops:Array Oper):∀l,DFLoc F (opsD E ops l)
 | []=>loc_drawNil
 | o::l=>loc_drawC (loc_op1 E ops o) (loc_opsD E ops l)
theorem qja:∀(ls:List (List LE)) (l:List LE),qia ls l=qia ls []++l
 | [],l=>rfl
 | x::ls,l=>by
  show qia ls (x++l)=qia ls (x++[])++l;rw[qja ls (x++l),qja ls (x++[]),List.append_nil,List.append_assoc]
theorem joinL_mem:∀{ls:List (List LE)} {e:LE},e∈qia ls []->∃L∈ls,e∈L
 | [],e,h=>by cases h
 | x::ls,e,h=>by
  have h':e∈qia ls (x++[]):=h;rw[qja,List.append_nil]at h';rcases List.mem_append.1 h' with h|h
  . obtain⟨L,h1,h2⟩:=joinL_mem h
    exact⟨L,mO _ h1,h2⟩
  . exact⟨x,List.mem_cons_self ..,h⟩
theorem relog_ok {s t s1 t1:St} (h:Same F s1 t1) {ls:List (List LE)} (hw:∀L∈ls,Wd F L):Ok F s (qbd s s1 ls) t (qbd t t1 ls):=by
 have hs:∀u v:St,(qbd u v ls).on=u.on/\(qbd u v ls).heap=v.heap/\(qbd u v ls).next=v.next/\(u.on=true->(qbd u v ls).log=qia ls []++u.log):=fun u v=>by
  unfold qbd;cases hu:u.on
  . exact⟨rfl,rfl,rfl,fun h=>by cases h⟩
  . exact⟨rfl,rfl,rfl,fun _=>qja ls u.log⟩
 obtain⟨a1,a2,a3,a4⟩:=hs s s1;obtain⟨b1,b2,b3,b4⟩:=hs t t1;refine⟨⟨by rw[a3,b3]; exact h.next,fun x hx=>by rw[a2,b2]; exact h.heap x hx,by rw[a2]; exact h.fs,by rw[b2]; exact h.ft,by rw[a3]; exact h.lt⟩,a1,b1,_,a4,b4,fun e he=>?_⟩;obtain⟨L,h1,h2⟩:=joinL_mem he;exact hw L h1 e h2
theorem loc_drawnC (pl:Plan) {f:DF} (hf:DFLoc F f):CFLoc F ⟨qkt pl f⟩:=fun self hs a=>by
 refine Loc.cond ?_ Loc.none;intro s r h;simp only[oI]at h;obtain⟨q,hq,h⟩:=h;have hq':f.run self a s=some q:=hq
 have key:∃e a',r=(e,a',qbd s q.2.2.1 q.2.2.2)/\∀t t',qbq pl a t (q.1,q.2.1,t',q.2.2.2)=some (e,a',qbd t t' q.2.2.2):=by
  obtain⟨e,a1,s1,ls⟩:=q;cases e with
  | norm=>
   simp only[qbq]at h ⊢;cases hc:(qaw ls pl.prs&&Nat.beq a1.defers.length a.defers.length)with
   | false=>rw[hc]at h; cases h
   | true=>
    rw[hc]at h;simp only[cT,oS]at h;exact⟨.norm,_,h.symm,fun _ _=>rfl⟩
  | pan v=>
   simp only[qbq]at h ⊢;cases hc:(qaw ls pl.prs&&Nat.beq a1.defers.length a.defers.length)with
   | false=>rw[hc]at h; cases h
   | true=>
    rw[hc]at h;simp only[cT,oI,oS]at h;obtain⟨a2,hp,h⟩:=h;exact⟨.pan v,a2,h.symm,fun _ _=>by rw[hp]; rfl⟩
  | exit id=>simp[qbq]at h
  | ret=>simp[qbq]at h
 obtain⟨e,a',rfl,hend⟩:=key;intro t hA;obtain⟨t1,e1,A1,w1⟩:=hf self hs a s q hq' t hA;refine⟨qbd t t1 q.2.2.2,?_,relog_ok A1 w1⟩;have e1':f.run self a t=some (q.1,q.2.1,t1,q.2.2.2):=e1;simp only[e1',oB];exact hend t t1
theorem loc_setX (x:X) (a:Ac) {l:Nat} (hb:l≠F.b) (o:O):LocX F fun s=>some (x,a,setO s l o):=Loc.of_eq (g:=fun s=>((fun s=>some (setO s l o)) s).bind fun s=>some (x,a,s)) (fun _=>rfl) (Loc.bindS (LocS.setO hb o) (LocX.ret _ _))
theorem loc_endLoop (l:Nat) (a:Ac):LocX F fun s=>endLoop l a s:=by
 unfold endLoop;refine Loc.bindGet l (fun _ _ _ _ _ _=>rfl) fun hb o=>?_;dsimp only;cases o<;>try exact Loc.none
 rename_i st pend tmps n params assign body;refine Loc.cond Loc.none ?_;cases pend with
 | none=>exact loc_setX _ _ hb _
 | some c=>cases c<;>first|exact Loc.none|exact loc_setX _ _ hb _
theorem loc_rangeCall {self:EV} (hs:EVLoc F self) (l:Nat) (a:Ac) (nx:Nx):LocX F fun s=>rangeCall self l a (nx.up s):=by
 cases nx<;>try exact Loc.none
 case enter f args s0=>
  refine Loc.bind (hs.1 f args) fun e=>?_;cases e with
  | ret v=>exact loc_endLoop l a
  | pan v=>exact LocX.ret _ _
theorem loc_rangeC (E:Env) (f:Operand) (params:List Nat) (assign body:Code):CFLoc F ⟨qeh E f params assign body⟩:=fun self hs a=>by
 show LocX F fun s=>qeh E f params assign body self a s;obtain⟨tm,nn,df,rd⟩:=a;unfold qeh;cases rd with
 | none=>
  dsimp only;refine Loc.opt fun fv=>?_
  have h2:LocP F fun s=>some (s.next,nw (nw s .defb) (.loop 0 none (qdz params assign body tm) nn params assign body)):=
   Loc.of_eq (g:=fun s=>((fun s=>some (s.next,nw s .defb)) s).bind fun p=>((fun s=>some (s.next,nw s (.loop 0 none (qdz params assign body tm) nn params assign body))) p.2).bind fun q=>some (p.1,q.2)) (fun _=>rfl)
    (Loc.bind (LocP.nw (fun k=>k) fun _=>.defb) fun k=>by
     dsimp only
     exact Loc.bind (LocP.nw (fun k=>k) fun _=>.loop 0 none (qdz params assign body tm) nn params assign body) fun _=>by dsimp only; exact LocP.ret k)
  refine Loc.of_eq (g:=fun s=>((fun s=>some (s.next,nw (nw s .defb) (.loop 0 none (qdz params assign body tm) nn params assign body))) s).bind fun p=>(qeq E fv [.yield (p.1+1)] p.2).bind
   (rangeCall self (p.1+1) {tmps:=tm,n:=nn,defers:={mark:=some p.1,f:=.func 0,captured:=[],args:=[]}::df,round:=none})) (fun _=>rfl) ?_
  exact Loc.bind h2 fun k=>by dsimp only; exact Loc.bindN (loc_callV E fv _) fun nx=>loc_rangeCall hs _ _ nx
 | some l0=>
  dsimp only;refine Loc.bindGet l0 (fun _ _ _ _ _ _=>rfl) fun hb o=>?_;dsimp only;cases o<;>try exact Loc.none
  refine Loc.opt fun fv=>?_;refine Loc.of_eq (g:=fun s=>((fun s=>some (s.next,nw s (.loop 0 none (qdz params assign body tm) nn params assign body))) s).bind fun p=>(qeq E fv [.yield p.1] p.2).bind (rangeCall self p.1 {tmps:=tm,n:=nn,defers:=df,round:=some l0})) (fun _=>rfl) ?_;exact Loc.bind (LocP.nw (fun k=>k) fun _=>.loop 0 none (qdz params assign body tm) nn params assign body) fun k=>by dsimp only; exact Loc.bindN (loc_callV E fv _) fun nx=>loc_rangeCall hs _ _ nx
theorem loc_loopC {x:CF} (hx:CFLoc F x):∀n,CFLoc F ⟨qjd x n⟩
 | 0=>fun _ _ _=>Loc.none
 | n+1=>fun self hs a=>by
  refine Loc.bindX (hx self hs a) fun e a'=>?_;cases e with
  | norm=>exact loc_loopC hx n self hs a'
  | _=>exact LocX.ret _ _
theorem loc_comp (E:Env):∀c,CFLoc F (qdr E c)
 | .skip=>loc_skip
 | .region _ ops false=>loc_opsL E ops _
 | .region _ ops true=>loc_drawnC _ (loc_opsD E ops _)
 | .seq x y=>loc_seqC (loc_comp E x) (loc_comp E y)
 | .cond c x y=>fun self hs a=>by
  refine Loc.opt fun v=>?_;cases v<;>try exact Loc.none
  exact Loc.cond (loc_comp E x self hs a) (loc_comp E y self hs a)
 | .block id x=>fun self hs a=>by
  refine Loc.bindX (loc_comp E x self hs a) fun e a'=>?_;cases e<;>exact LocX.ret _ _
 | .loop x=>loc_loopC (loc_comp E x) qa1
 | .rangeFunc f ps x y=>loc_rangeC E f ps.toList x y
 | .exit id=>fun _ _ _=>LocX.ret _ _
 | .scope x=>loc_comp E x
 | .label _=>loc_skip
 | .goto _=>fun _ _ _=>Loc.none
 | .ret=>fun _ _ _=>LocX.ret _ _
 | .refuse _=>fun _ _ _=>Loc.none
theorem loc_opsS (E:Env) {self:EV} (hs:EVLoc F self) (ops:Array Oper):∀(l:List Oper) (a:Ac) (m:Md),LocM F fun s=>opsS E self ops l a m s
 | [],a,m=>LocM.ret _ _ _
 | o::l,a,m=>by
  unfold opsS;refine Loc.cond (Loc.opt fun a'=>loc_opsS E hs ops l _ _) ?_;refine Loc.bindX (loc_op1 E ops o {self with r:=fun _ _ _=>none} ⟨hs.1,fun _ _=>Loc.none⟩ a) fun e a'=>?_;cases e with
  | norm=>exact loc_opsS E hs ops l a' m
  | _=>exact LocM.ret _ _ _
theorem loc_evS (E:Env) {self:EV} (hs:EVLoc F self):∀(d:Nat) (c:Code) (a:Ac) (m:Md),LocM F fun s=>evS E self d c a m s
 | 0,_,_,_=>Loc.none
 | d+1,c,a,m=>by
  have other:LocM F fun s=>((qdr E c).run self a s).bind fun(x,a,s)=>some (x,a,m,s):=
   Loc.bindX (loc_comp E c self hs a) fun e a'=>LocM.ret _ _ _
  cases c<;>try exact other
  case seq x y=>
   refine Loc.bindM (loc_evS E hs d x a m) fun e a' m'=>?_;cases e with
   | norm=>exact loc_evS E hs d y a' m'
   | _=>exact LocM.ret _ _ _
  case cond c x y=>
   refine Loc.opt fun v=>?_;cases v<;>try exact Loc.none
   exact loc_evS E hs d _ a m
  case region id ops draw=>
   cases draw with
   | false=>exact loc_opsS E hs ops _ a m
   | true=>exact other
theorem loc_resultsV (E:Env) (a:Ac):∀l,LocP F fun s=>qb9 E a l s
 | []=>LocP.ret _
 | .tmp t::l=>by
  unfold qb9;exact Loc.opt fun v=>Loc.bind (loc_resultsV E a l) fun vs=>by dsimp only; exact LocP.ret _
 | .cell t ty::l=>by
  unfold qb9;refine Loc.opt fun v=>?_;cases v<;>try exact Loc.none
  refine Loc.bind (loc_loadV E ty _ _) fun u=>?_;dsimp only;exact Loc.bind (loc_resultsV E a l) fun vs=>by dsimp only; exact LocP.ret _
theorem loc_leaves (E:Env) {self:EV} (hs:EVLoc F self) (fn:Func) (a:Ac):∀(ds:List AD) (m:Md),LocP F fun s=>qbp E self fn a ds m s
 | [],m=>by
  cases m with
  | ret=>exact Loc.bind (loc_resultsV E a _) fun vs=>by dsimp only; exact LocP.ret _
  | pan v=>exact LocP.ret _
  | got v=>exact Loc.none
 | d::ds,m=>by
  unfold qbp;cases d.mark with
  | some r=>
   dsimp only;refine Loc.bindGet r (fun _ _ _ _ _ _=>rfl) fun hb o=>?_;dsimp only;cases o<;>try exact Loc.none
   exact Loc.of_eq (g:=fun s=>((fun s=>some (setO s r .dead)) s).bind fun s=>qbp E self fn a ds m s) (fun _=>rfl) (Loc.bindS (LocS.setO hb .dead) (loc_leaves E hs fn a ds m))
  | none=>
  dsimp only;cases d.f<;>try exact Loc.none
  refine Loc.opt fun g=>Loc.opt fun c=>Loc.cond ?_ Loc.none;refine Loc.bindM (loc_evS E hs 50 c _ m) fun e a' m'=>?_;dsimp only;refine Loc.cond ?_ Loc.none;exact Loc.bind (loc_resultsV E a' _) fun vs=>by dsimp only; exact loc_leaves E hs fn a ds _
def KnLoc (F:Fz) (K:FuncId->Option KF):Prop:=∀f g,K f=some g->∀args,LocP F fun s=>g.run args s
theorem loc_stepF (E:Env) {K:FuncId->Option KF} (hK:KnLoc F K) {self:EV} (hs:EVLoc F self) (f:FuncId) (args:List V):LocP F fun s=>qkm E K self f args s:=by
 unfold qkm fnOf;cases hg:K f with
 | some g=>exact hK f g hg args
 | none=>
 cases hf:E.fns.get f with
 | none=>exact Loc.none
 | some fn=>
 cases hb:fn.body with
 | none=>simp only[oB,hb]; exact Loc.none
 | some c=>
 simp only[oB,hb];refine Loc.cond ?_ Loc.none;refine Loc.bindX (loc_comp E c self hs _) fun e a'=>?_;cases e with
 | norm=>exact loc_leaves E hs fn a' a'.defers .ret
 | ret=>exact loc_leaves E hs fn a' a'.defers .ret
 | pan v=>exact loc_leaves E hs fn a' a'.defers (.pan v)
 | exit id=>exact Loc.none
theorem loc_endRound (l st:Nat) (pend:Option Code) (back:Bool):LocP F fun s=>endRound l st pend back s:=by
 unfold endRound;refine Loc.bindGet l (fun _ _ _ _ _ _=>rfl) fun hb o=>?_;dsimp only;cases o<;>try exact Loc.none
 exact loc_setRet hb _ _
theorem loc_roundEnd (l:Nat) (x:X) (a:Ac):LocP F fun s=>qd9 l (x,a,s):=by
 unfold qd9;dsimp only;refine Loc.cond ?_ Loc.none;cases x with
 | norm=>exact loc_endRound _ _ _ _
 | ret=>exact loc_endRound _ _ _ _
 | exit id=>exact loc_endRound _ _ _ _
 | pan v=>exact Loc.none
theorem loc_roundBody (E:Env) {self:EV} (hs:EVLoc F self) (l:Nat) (body:Code) (x:X) (a:Ac):LocP F fun s=>qd5 E self l body (x,a,s):=by
 unfold qd5;cases x<;>try exact Loc.none
 dsimp only;refine Loc.bindGet l (fun _ _ _ _ _ _=>rfl) fun hb o=>?_;dsimp only;cases o<;>try exact Loc.none
 rename_i st pend tmps n params assign body';refine Loc.cond ?_ Loc.none;refine Loc.of_eq (g:=fun s=>((fun s=>some (setO s l (.loop 2 pend tmps n params assign body'))) s).bind fun s=>((qdr E body).run self a s).bind (qd9 l)) (fun _=>rfl) ?_;exact Loc.bindS (LocS.setO hb _) (Loc.bindX (loc_comp E body self hs a) fun e a'=>loc_roundEnd l e a')
theorem loc_stepR (E:Env) {self:EV} (hs:EVLoc F self) (l:Nat) (args:List V):LocP F fun s=>qld E self l args s:=by
 unfold qld;refine Loc.bindGet l (fun _ _ _ _ _ _=>rfl) fun hb o=>?_;dsimp only;cases o<;>try exact Loc.none
 refine Loc.opt fun t=>?_;exact Loc.bindX (loc_comp E _ self hs _) fun e a'=>loc_roundBody E hs l _ e a'
theorem loc_ev (E:Env) {K:FuncId->Option KF} (hK:KnLoc F K):∀n,EVLoc F (ev E K n)
 | 0=>⟨fun _ _=>Loc.none,fun _ _=>Loc.none⟩
 | n+1=>⟨fun f args=>loc_stepF E hK (loc_ev E hK n) f args,fun l args=>loc_stepR E (loc_ev E hK n) l args⟩
theorem knLoc_nil:KnLoc F (fun _=>Option.none):=fun _ _ h=>by cases h
theorem KnLoc.add {K:FuncId->Option KF} (h:KnLoc F K) (f:FuncId) {g:KF} (hg:∀args,LocP F fun s=>g.run args s):KnLoc F (qfe K f g):=fun x y hx=>by
 unfold qfe at hx;cases hb:Nat.beq x f with
 | true=>
  rw[hb]at hx;simp only[cT,oS]at hx;subst hx;exact hg
 | false=>rw[hb]at hx; exact h x y hx
theorem specKF_fz {α:Type} {enc:α->List V} {out:α->En} (args:List V):LocP F fun s=>(qcw enc out).run args s:=by
 unfold qcw;simp only;by_cases hx:∃x,enc x=args
 . simp only[dif_pos hx]; exact LocP.ret _
 . simp only[dif_neg hx]; exact Loc.none
theorem ev_log {E:Env} {K:FuncId->Option KF} (hK:KnLoc F K) (hL:Lg.KnLoc K) {n:Nat} {f:FuncId} {args:List V} {s t u:St} {e:En} {r:En×St} (hA:Same F s t) (h:(ev E K n).f f args s=some r) (ht:(ev E K n).f f args t=some (e,u)):∃L,(ev E K n).f f args (t.lg [])=some (e,u.lg L)/\Wd F L:=by
 obtain⟨L,h1⟩:=Lg.ev_lg hL ht [];obtain⟨t',h2,h3⟩:=(loc_ev E hK n).1 f args s r h (t.lg []) ⟨hA.next,hA.heap,hA.fs,hA.ft,hA.lt⟩;refine⟨L,h1,?_⟩;have e1:upP r t'=(e,u.lg L):=Option.some.inj (h2.symm.trans h1);have e2:t'=u.lg L:=(Prod.mk.inj e1).2;obtain⟨d,_,l2,l3⟩:=h3.log;have:=l2 rfl;rw[e2]at this
 have hd:L=d:=by
  have h':L=d++[]:=this;rw[List.append_nil]at h';exact h'
 rw[hd]; exact l3
end Go.Proofs.YtpgegoeghaplkaaGreatDoor.Ev.Fz
namespace Go.Proofs.YtpgegoeghaplkaaGreatDoor.Ev
open Go.RowKit Go.Maps Go.Sort Go.Shelf Go.Proofs
section
end
section
variable {P:Program} {E:Env} {w0:Base} {ρ:Rho} {s:St} {w w':World}
end
end Go.Proofs.YtpgegoeghaplkaaGreatDoor.Ev
namespace Go.Proofs.YtpgegoeghaplkaaGreatDoor.Ev
open Go.Shelf Go.RowKit Go.Proofs
variable {P:Program} {ρ:Ren}
def headB (T b:Nat) (s:St):Option (V×St):=
 (match s.heap.get b with
  | some (.cells e z n ro c)=>bif Nat.beq e T&&Nat.beq z 2&&Nat.blt 0 n&&!ro then(c.get 0).bind fun t=>t.get 0 else none
  | _=>none).bind fun v=>some (v,s.note b 0 1 false)
def qb4 (T:Nat):KF:=⟨fun args s=>match args with
 | [.ptr b o]=>bif Nat.beq o 0 then(headB T b s).bind fun p=>match p.1 with
  | .nilptr=>(stK p.2 b 0 1 (one (.ptr b 0))).bind fun s=>some (.ret (.tuple []),s)
  | .ptr b' o'=>bif Nat.beq b' b&&Nat.beq o' 0 then some (.ret (.tuple []),p.2)else none
  | _=>none
  else none
 | _=>none⟩
structure BuildOk (P:Program) (T f:Nat):Prop where
 used:∀(b o:Nat) (w:World),w.cell? ⟨b,o,none⟩=some (.pointer (some ⟨b,o,none⟩))->Calls P f #[.pointer (some ⟨b,o,none⟩)] w fun e w'=>e=.returned (.tuple #[])/\w'=w
 fresh:∀(b o n:Nat) (w:World),w.cell? ⟨b,o,none⟩=some (.pointer none)->w.shape? b=some (T,n)->o%2=0->o+2<=n->w.frozen? ⟨b,o,none⟩=false->Calls P f #[.pointer (some ⟨b,o,none⟩)] w fun e w'=>e=.returned (.tuple #[])/\w'=w.setCell ⟨b,o,none⟩ (.pointer (some ⟨b,o,none⟩))
theorem lies_at {T n o d:Nat} (hd:P.depth=d+1) (hT:P.cellsOf T=2) (ho:o%2=0) (hn:o+2<=n):liesAt P P.depth T (n/P.cellsOf T) o T 1=true:=by
 have hs:sameLayout P P.depth T T=true:=by
  rw[hd]; unfold sameLayout; simp
 have hr:rowAt P (sameLayout P P.depth · T) P.depth T (n/2) o 1=true:=by
  conv=>lhs; arg 3; rw[hd]
  unfold rowAt;simp only[hT,ho,hs];have:o/2+1<=n/2:=by omega
  simp[this]
 rw[hT,hd];rw[hd]at hr;unfold liesAt;rw[hd,hr,Bool.true_or]
theorem headB_locp (T b:Nat):LocP fun s=>headB T b s:=
 LocP.read (b:=b) (lo:=0) (hi:=1) fun o=>match o with
  | some (.cells e z n ro c)=>bif Nat.beq e T&&Nat.beq z 2&&Nat.blt 0 n&&!ro then(c.get 0).bind fun t=>t.get 0 else none
  | _=>none
theorem headB_lg (T b:Nat):Lg.LocP fun s=>headB T b s:=
 Lg.LocP.read (b:=b) (lo:=0) (hi:=1) fun o=>match o with
  | some (.cells e z n ro c)=>bif Nat.beq e T&&Nat.beq z 2&&Nat.blt 0 n&&!ro then(c.get 0).bind fun t=>t.get 0 else none
  | _=>none
theorem headB_fz {F:Fz.Fz} (T b:Nat):Fz.LocP F fun s=>headB T b s:=
 Fz.LocP.read (b:=b) (lo:=0) (hi:=1) (fun o=>match o with
  | some (.cells e z n ro c)=>bif Nat.beq e T&&Nat.beq z 2&&Nat.blt 0 n&&!ro then(c.get 0).bind fun t=>t.get 0 else none
  | _=>none) fun e z n c a h=>by
   dsimp only at h ⊢;rw[Bool.not_true,Bool.and_false]at h;cases h
theorem ql7 (T:Nat) (args:List V):LocP fun s=>(qb4 T).run args s:=by
 unfold qb4;dsimp only;split
 . refine Loc.cond (Loc.bind (headB_locp _ _) fun v=>?_) Loc.none
   dsimp only;split
   . exact Loc.bindS (loc_stK _ _ _ _) (LocP.ret _)
   . exact Loc.cond (LocP.ret _) Loc.none
   . exact Loc.none
 . exact Loc.none
theorem kfCopyCheck_lg (T:Nat) (args:List V):Lg.LocP fun s=>(qb4 T).run args s:=by
 unfold qb4;dsimp only;split
 . refine Lg.Loc.cond (Lg.Loc.bind (headB_lg _ _) fun v=>?_) Lg.Loc.none
   dsimp only;split
   . exact Lg.Loc.bindS (Lg.loc_stK _ _ _ _) (Lg.LocP.ret _)
   . exact Lg.Loc.cond (Lg.LocP.ret _) Lg.Loc.none
   . exact Lg.Loc.none
 . exact Lg.Loc.none
theorem kfCopyCheck_fz {F:Fz.Fz} (T:Nat) (args:List V):Fz.LocP F fun s=>(qb4 T).run args s:=by
 unfold qb4;dsimp only;split
 . refine Fz.Loc.cond (Fz.Loc.bind (headB_fz _ _) fun v=>?_) Fz.Loc.none
   dsimp only;split
   . exact Fz.Loc.bindS (Fz.loc_stK _ _ _ _) (Fz.LocP.ret _)
   . exact Fz.Loc.cond (Fz.LocP.ret _) Fz.Loc.none
   . exact Fz.Loc.none
 . exact Fz.Loc.none
section
variable {E:Env} {w0:Base} {ρ:Rho} {s:St} {w:World}
theorem store_one {cb o:Nat} {v x:Value} {w w':World} (hc:w.cell? ⟨cb,o,none⟩=some x) (hf:w.frozen? ⟨cb,o,none⟩=false) (hv:v.oneCell'=true) (h:(storeCells ⟨cb,o,none⟩ [v] 0).run P w=.ok () w'):w'=w.setCell ⟨cb,o,none⟩ v:=by
 have:=run_storeCells_cells (P:=P) cb o [v] 0 w (fun j hj=>by
  have:j=0:=by simpa using hj
  subst this; simp[hc]) (fun j hj=>by
  have:j=0:=by simpa using hj
  subst this; simpa using hf) (fun u hu=>by rw[List.mem_singleton.1 hu]; exact hv)
 rw[this]at h;have:=(Result.ok.inj h).2;rw[<- this];rfl
theorem copyCheck_well {T:Nat} {f:FuncId} (h:BuildOk P T f):KnWell P E f (qb4 T):=by
 refine⟨ql7 T,fun w0 ρ s w args cargs e s' hR hv hg=>?_⟩;unfold qb4 at hg;dsimp only at hg;split at hg
 . rename_i b o
   obtain⟨l'⟩:=cargs;cases hv with
   | cons hp ht=>
   cases ht;cases ho:Nat.beq o 0 with
   | false=>rw[ho]at hg; cases hg
   | true=>
   rw[ho,cT]at hg;rw[Ev.beq_true]at ho;subst ho;simp only[oI]at hg;obtain⟨⟨v,s1⟩,hh,hg⟩:=hg;dsimp only at hg;unfold headB at hh;simp only[oI,oS,pM]at hh;obtain⟨v',hh,rfl,rfl⟩:=hh;split at hh
   . rename_i e' z n ro c hb
     cases hc:(Nat.beq e' T&&Nat.beq z 2&&Nat.blt 0 n&&!ro)with
     | false=>rw[hc]at hh; cases hh
     | true=>
     rw[hc,cT]at hh;simp only[bA,Ev.beq_true,blt_true,Bool.not_eq_true']at hc;obtain⟨⟨⟨rfl,rfl⟩,hn⟩,rfl⟩:=hc;simp only[oI]at hh;obtain⟨t,ht,hv0⟩:=hh;cases hp with
     | @ptr _ _ cb sh sz hρ=>
     obtain⟨cs,fr,hcr⟩:=qbk hR hb hρ;have hroom:=hcr.room;have hsize:=hcr.size;have hal:=hcr.al;obtain⟨_,hfree⟩:=hcr.own rfl;have hin:sh<cs.size:=by omega
     have hcell:w.cell? ⟨cb,sh+0,none⟩=some cs[sh]:=by
      unfold World.cell?;simp only[hcr.heap,Nat.add_zero];simp[hin]
     have hvr:VRel ρ v' cs[sh]:=hcr.cell 0 v' cs[sh] (by unfold qbs; rw[Nat.zero_div,ht]; exact hv0) (by omega) (by rw[Nat.add_zero,Array.getElem?_eq_getElem hin])
     have hshape:w.shape? cb=some (e',cs.size):=by
      unfold World.shape?;rw[hcr.heap]
     have hfz:w.frozen? ⟨cb,sh+0,none⟩=false:=by
      unfold World.frozen?;simp only[hcr.heap,Nat.add_zero];have:=hfree.not (i:=sh) (by omega);simp only[Bool.and_eq_false_iff,decide_eq_false_iff_not];omega
     have hR1:Rel E w0 ρ (s.note b 0 1 false) w:=hR.note _ _ _ _;split at hg
     . simp only[oI,oS,pM]at hg
       obtain⟨s2,hst,rfl,rfl⟩:=hg;have hpr:VRel ρ (.ptr b 0) (.pointer (some ⟨cb,sh+0,none⟩)):=.ptr hρ
       obtain⟨w',hrun,hR'⟩:=stK_sim (P:=P) hR1 hst hρ (c:=[.pointer (some ⟨cb,sh+0,none⟩)]) ⟨rfl,fun x hx=>by rw[List.mem_singleton.1 hx]; rfl,fun i u hi cv hcv=>by
        cases i with
        | zero=>
         have hi':some (V.ptr b 0)=some u:=hi;cases hi';cases hcv;exact hpr
        | succ i=>simp at hcv⟩ (o:=sh) (i:=0) (by omega)
       generalize cs[sh]=x at hvr hcell;cases hvr;have hw':w'=w.setCell ⟨cb,sh+0,none⟩ (.pointer (some ⟨cb,sh+0,none⟩)):=store_one hcell hfz rfl hrun;refine(h.fresh cb (sh+0) cs.size w hcell hshape (by omega) (by omega) hfz).mono fun ce w2 hce=>?_;obtain⟨rfl,rfl⟩:=hce;rw[<- hw'];exact⟨ρ,_,rfl,Rho.le_refl ρ,.tuple .nil,hR'⟩
     . rename_i b' o'
       cases hbo:(Nat.beq b' b&&Nat.beq o' 0)with
       | false=>rw[hbo]at hg; cases hg
       | true=>
       rw[hbo]at hg;simp only[bA,Ev.beq_true]at hbo;obtain⟨rfl,rfl⟩:=hbo;simp only[cT,oS,pM]at hg;obtain⟨rfl,rfl⟩:=hg;generalize cs[sh]=x at hvr hcell;cases hvr with
       | @ptr _ _ cb2 sh2 sz2 hρ2=>
       have hq:=hρ.symm.trans hρ2;simp only[oS,pM]at hq;obtain⟨rfl,rfl,rfl⟩:=hq;refine(h.used cb (sh+0) w hcell).mono fun ce w2 hce=>?_;obtain⟨rfl,rfl⟩:=hce;exact⟨ρ,_,rfl,Rho.le_refl ρ,.tuple .nil,hR1⟩
     . cases hg
   . cases hh
 . cases hg
end
end Go.Proofs.YtpgegoeghaplkaaGreatDoor.Ev
namespace Go.Proofs.YtpgegoeghaplkaaGreatDoor.Ev
open Go.Shelf Go.RowKit Go.Proofs
variable {P:Program} {ρ:Ren}
theorem lies_bytes {e:TypeId} (hc:P.cellsOf e=1) (count o n:Nat) (hn:o+n<=count):liesAt P P.depth e count o e n=true:=by
 have hd:P.depth=(2*(P.types.size+Made.depth)+1)+1:=rfl;rw[hd];simp only[liesAt,Bool.or_eq_true]
 left
 rw[hd];simp[rowAt,hc,hn,sameLayout,Nat.mod_one]
theorem qo2 (w:World) (pt it ty e:TypeId) (hp:P.underlying pt=some (.pointer e)) (hc:P.cellsOf e=1) (g o cells:Nat) (hsh:w.shape? g=some (e,cells)) (l:List UInt8) (h0:l≠[]) (hn:o+l.length<=cells) (h63:l.length<=9223372036854775807)
 (hcell:∀j x,l[j]?=some x->w.cell? ((⟨g,o,none⟩:Addr).add j)=some (.int .u8 x.toNat)) :
 (Builtin.unsafeString_ #[pt,it] ty #[.pointer (some ⟨g,o,none⟩),.int .i64 l.length]).run P w=.ok (.string ⟨l.toArray⟩) (w.freeze ⟨g,o,none⟩ l.length):=by
 have hl:l.length≠0:=by simpa using h0
 have hlb:=Lib.run_loadBytes (P:=P) w l ⟨g,o,none⟩ .empty hcell;have hlies:=lies_bytes (P:=P) hc (cells/P.cellsOf e) o l.length (by rw[hc]; simpa using hn);have h63':¬(9223372036854775807:Int)<(l.length:Int):=by omega
 have hdef:Builtin.unsafeString_ #[pt,it] ty #[.pointer (some ⟨g,o,none⟩),.int .i64 l.length] =
  (do
   let n <- asInt (.int .i64 l.length)
   if n < 0 then runtimePanic (.error "unsafe.String: len out of range")
   if n > IntKind.i64.max then unsupported (.unsafePointer "String: a length above the largest int")
   if n=0 then pure (.string .empty)
   else if <- variablesAt ⟨g,o,none⟩ (<- elemOf pt) n.toNat then do
    let s <- loadBytes ⟨g,o,none⟩ .empty n.toNat
    freeze ⟨g,o,none⟩ n.toNat
    pure (.string s)
   else unsupported (.unsafePointer "String: not so many bytes at ptr")) := rfl
 rw[hdef];have hmax:IntKind.i64.max=9223372036854775807:=rfl;have hneg:¬(l.length:Int)<0:=by omega
 simp[asInt,asIntOf,hmax,h63',hneg,hl,variablesAt,hsh,elemOf,run_underlying hp,hlies,hlb]
set_option maxHeartbeats 2000000 in
set_option maxRecDepth 100000 in
theorem string_some (L:Lays.n169 P ρ) (X:Builder.Extra P ρ) (b o g so cap cells:Nat) (l:List UInt8) (w:World) (hb:w.cell? ⟨b,o+1,none⟩=some (.slice (some ⟨g,so,none⟩) l.length cap)) (hsh:w.shape? g=some (ρ.t 5,cells)) (h0:l≠[]) (hn:so+l.length<=cells) (h63:l.length<=9223372036854775807) (hcap:cap≠0)
 (hcell:∀j x,l[j]?=some x->w.cell? ((⟨g,so,none⟩:Addr).add j)=some (.int .u8 x.toNat)) :
 Calls P (ρ.f 169) #[.pointer (some ⟨b,o,none⟩)] w fun e w'=>e=.returned (.string ⟨l.toArray⟩)/\w'=w.drew.freeze ⟨g,so,none⟩ l.length:=by
 have c1:w.drew.cell? ⟨b,o+1,none⟩=some (.slice (some ⟨g,so,none⟩) l.length cap):=hb
 have hSD:(Builtin.unsafeSliceData_ #[(ρ.t 37)] (ρ.t 127) #[.slice (some ⟨g,so,none⟩) l.length cap]).run P w.drew=.ok (.pointer (some ⟨g,so,none⟩)) w.drew:=
  Lib.run_unsafeSliceData_row _ _ _ _ _ _ hcap
 have hUS:(Builtin.unsafeString_ #[(ρ.t 127),(ρ.t 3)] (ρ.t 9) #[.pointer (some ⟨g,so,none⟩),.int .i64 l.length]).run P w.drew=.ok (.string ⟨l.toArray⟩) (w.drew.freeze ⟨g,so,none⟩ l.length):=
  qo2 w.drew (ρ.t 127) (ρ.t 3) (ρ.t 9) (ρ.t 5) L.t127 X.cellsByte g so cells hsh l h0 hn h63 hcell
 have mixed:=L.mixed;have t72:=L.t72; have a72:=L.a72; have z72:=L.z72; have v72:=L.v72; have u72:=run_underlying L.t72;have t70:=L.t70; have a70:=L.a70; have z70:=L.z70; have v70:=L.v70; have u70:=run_underlying L.t70;have t37:=L.t37; have a37:=L.a37; have z37:=L.z37; have v37:=L.v37; have u37:=run_underlying L.t37;have t127:=L.t127; have a127:=L.a127; have z127:=L.z127; have v127:=L.v127; have u127:=run_underlying L.t127;have t3:=L.t3; have a3:=L.a3; have z3:=L.z3; have v3:=L.v3; have u3:=run_underlying L.t3;have t9:=L.t9; have a9:=L.a9; have z9:=L.z9; have v9:=L.v9; have u9:=run_underlying L.t9;have t5:=X.t5; have a5:=X.a5; have z5:=X.z5; have v5:=X.v5; have u5:=run_underlying X.t5
 go_enter L.f169,Body.n169_ntmps ρ
 go_wp2
 go_region_o
 all_goals (go_wp2; go_ret; exact⟨rfl,rfl⟩)
set_option maxHeartbeats 2000000 in
set_option maxRecDepth 100000 in
theorem string_none (L:Lays.n169 P ρ) (X:Builder.Extra P ρ) (b o:Nat) (w:World) (hb:w.cell? ⟨b,o+1,none⟩=some (.slice none 0 0)) :
 Calls P (ρ.f 169) #[.pointer (some ⟨b,o,none⟩)] w fun e w'=>e=.returned (.string ⟨#[]⟩)/\w'=w.drew:=by
 have hUS:=Any.unsafeString_none L X;have c1:w.drew.cell? ⟨b,o+1,none⟩=some (.slice none 0 0):=hb;have hSD:(Builtin.unsafeSliceData_ #[(ρ.t 37)] (ρ.t 127) #[.slice none 0 0]).run P w.drew=.ok (.pointer none) w.drew:=rfl;have mixed:=L.mixed;have t72:=L.t72; have a72:=L.a72; have z72:=L.z72; have v72:=L.v72; have u72:=run_underlying L.t72;have t70:=L.t70; have a70:=L.a70; have z70:=L.z70; have v70:=L.v70; have u70:=run_underlying L.t70;have t37:=L.t37; have a37:=L.a37; have z37:=L.z37; have v37:=L.v37; have u37:=run_underlying L.t37;have t127:=L.t127; have a127:=L.a127; have z127:=L.z127; have v127:=L.v127; have u127:=run_underlying L.t127;have t3:=L.t3; have a3:=L.a3; have z3:=L.z3; have v3:=L.v3; have u3:=run_underlying L.t3;have t9:=L.t9; have a9:=L.a9; have z9:=L.z9; have v9:=L.v9; have u9:=run_underlying L.t9;have t5:=X.t5; have a5:=X.a5; have z5:=X.z5; have v5:=X.v5; have u5:=run_underlying X.t5
 go_enter L.f169,Body.n169_ntmps ρ
 go_wp2
 go_region_o
 all_goals (go_wp2; go_ret; exact⟨rfl,rfl⟩)
end Go.Proofs.YtpgegoeghaplkaaGreatDoor.Ev
namespace Go.Proofs.YtpgegoeghaplkaaGreatDoor.Ev
open Go.Shelf Go.RowKit Go.Proofs
def u8Of (v:V):Option UInt8:=match v with
 | .int .u8 (.ofNat k)=>bif Nat.blt k 256 then some (UInt8.ofNat k)else none
 | _=>none
def u8sOf:List (Tr V)->Option (List UInt8)
 | []=>some []
 | t::l=>(t.get 0).bind fun v=>(u8Of v).bind fun x=>(u8sOf l).bind fun q=>some (x::q)
theorem u8sOf_row:∀l:List UInt8,u8sOf (l.map qbb)=some l
 | []=>rfl
 | x::l=>by
  have hx:u8Of (.int .u8 (.ofNat x.toNat))=some x:=by
   show(bif Nat.blt x.toNat 256 then some (UInt8.ofNat x.toNat)else none)=_;rw[blt_true.2 x.toNat_lt,cT,UInt8.ofNat_toNat]
  show((some (V.int .u8 (.ofNat x.toNat))).bind fun v=>(u8Of v).bind fun x=>(u8sOf (l.map qbb)).bind fun q=>some (x::q))=_;rw[oB,hx,oB,u8sOf_row l];rfl
def ownB (U r:Nat) (s:St):Option (Unit×St):=
 (match s.heap.get r with
  | some (.cells e z n ro c)=>bif Nat.beq e U&&Nat.beq z 1&&!ro then some ()else none
  | _=>none).bind fun u=>some (u,s.note r 0 1 false)
def strAt (U r off n:Nat) (s:St):Option (En×St):=
 (ownB U r s).bind fun q=>(ldN r 1 n off q.2).bind fun k=>(u8sOf k.1).bind fun l=>some (.ret (sv l),setO k.2 r .dead)
def qdm (U:Nat):KF:=⟨fun args s=>match args with
 | [.ptr b o]=>bif Nat.beq o 0 then(ld s b 1).bind fun p=>match p.1 with
  | .nilslice=>some (.ret (sv []),p.2)
  | .oslice r off n z=>bif Nat.beq z 1&&Nat.blt 0 n then strAt U r off n p.2 else none
  | _=>none
  else none
 | _=>none⟩
theorem ownB_locp (U r:Nat):LocP fun s=>ownB U r s:=
 LocP.read (b:=r) (lo:=0) (hi:=1) fun o=>match o with
  | some (.cells e z n ro c)=>bif Nat.beq e U&&Nat.beq z 1&&!ro then some ()else none
  | _=>none
theorem ownB_lg (U r:Nat):Lg.LocP fun s=>ownB U r s:=
 Lg.LocP.read (b:=r) (lo:=0) (hi:=1) fun o=>match o with
  | some (.cells e z n ro c)=>bif Nat.beq e U&&Nat.beq z 1&&!ro then some ()else none
  | _=>none
theorem ownB_fz {F:Fz.Fz} (U r:Nat):Fz.LocP F fun s=>ownB U r s:=
 Fz.LocP.read (b:=r) (lo:=0) (hi:=1) (fun o=>match o with
  | some (.cells e z n ro c)=>bif Nat.beq e U&&Nat.beq z 1&&!ro then some ()else none
  | _=>none) fun e z n c a h=>by
   dsimp only at h ⊢;rw[Bool.not_true,Bool.and_false]at h;cases h
theorem strAt_locp (U r off n:Nat):LocP fun s=>strAt U r off n s:=by
 unfold strAt;refine Loc.bind (ownB_locp U r) fun u=>?_;dsimp only;refine Loc.bind (loc_ldN _ _ _ _) fun k=>?_;dsimp only;exact Loc.opt (o:=u8sOf k) fun l=>loc_setRet r .dead _
theorem strAt_lg (U r off n:Nat):Lg.LocP fun s=>strAt U r off n s:=by
 unfold strAt;refine Lg.Loc.bind (ownB_lg U r) fun u=>?_;dsimp only;refine Lg.Loc.bind (Lg.loc_ldN _ _ _ _) fun k=>?_;dsimp only;exact Lg.Loc.opt (o:=u8sOf k) fun l=>Lg.loc_setRet r .dead _
theorem strAt_fz {F:Fz.Fz} (U r off n:Nat):Fz.LocP F fun s=>strAt U r off n s:=by
 by_cases hr:r=F.b
 . intro s q hq t hA
   exfalso;unfold strAt ownB at hq;dsimp only at hq;rw[hr,hA.fs]at hq;dsimp only at hq;rw[Bool.not_true,Bool.and_false]at hq;cases hq
 . unfold strAt
   refine Fz.Loc.bind (ownB_fz U r) fun u=>?_;dsimp only;refine Fz.Loc.bind (Fz.loc_ldN _ _ _ _) fun k=>?_;dsimp only;exact Fz.Loc.opt (o:=u8sOf k) fun l=>Fz.loc_setRet hr .dead _
theorem kfString_locp (U:Nat) (args:List V):LocP fun s=>(qdm U).run args s:=by
 unfold qdm;dsimp only;split
 . refine Loc.cond (Loc.bind (loc_ld _ _) fun v=>?_) Loc.none
   dsimp only;split
   . exact LocP.ret _
   . exact Loc.cond (strAt_locp _ _ _ _) Loc.none
   . exact Loc.none
 . exact Loc.none
theorem kfString_lg (U:Nat) (args:List V):Lg.LocP fun s=>(qdm U).run args s:=by
 unfold qdm;dsimp only;split
 . refine Lg.Loc.cond (Lg.Loc.bind (Lg.loc_ld _ _) fun v=>?_) Lg.Loc.none
   dsimp only;split
   . exact Lg.LocP.ret _
   . exact Lg.Loc.cond (strAt_lg _ _ _ _) Lg.Loc.none
   . exact Lg.Loc.none
 . exact Lg.Loc.none
theorem kfString_fz {F:Fz.Fz} (U:Nat) (args:List V):Fz.LocP F fun s=>(qdm U).run args s:=by
 unfold qdm;dsimp only;split
 . refine Fz.Loc.cond (Fz.Loc.bind (Fz.loc_ld _ _) fun v=>?_) Fz.Loc.none
   dsimp only;split
   . exact Fz.LocP.ret _
   . exact Fz.Loc.cond (strAt_fz _ _ _ _) Fz.Loc.none
   . exact Fz.Loc.none
 . exact Fz.Loc.none
structure StringOk (P:Program) (U f:Nat):Prop where
 full:∀(b o g so cap cells:Nat) (l:List UInt8) (w:World),w.cell? ⟨b,o+1,none⟩=some (.slice (some ⟨g,so,none⟩) l.length cap)->w.shape? g=some (U,cells)->l≠[]->so+l.length<=cells->l.length<=9223372036854775807->cap≠0->
  (∀j x,l[j]?=some x->w.cell? ((⟨g,so,none⟩:Addr).add j)=some (.int .u8 x.toNat))->
  Calls P f #[.pointer (some ⟨b,o,none⟩)] w fun e w'=>e=.returned (.string ⟨l.toArray⟩)/\w'=w.drew.freeze ⟨g,so,none⟩ l.length
 empty:∀(b o:Nat) (w:World),w.cell? ⟨b,o+1,none⟩=some (.slice none 0 0)->Calls P f #[.pointer (some ⟨b,o,none⟩)] w fun e w'=>e=.returned (.string ⟨#[]⟩)/\w'=w.drew
theorem stringOk_of {P:Program} {ρ:Ren} (L:Lays.n169 P ρ) (X:Builder.Extra P ρ):StringOk P (ρ.t 5) (ρ.f 169):=
 ⟨fun b o g so cap cells l w h1 h2 h3 h4 h5 h6 h7=>string_some L X b o g so cap cells l w h1 h2 h3 h4 h5 h6 h7,fun b o w h=>string_none L X b o w h⟩
section
variable {P:Program} {E:Env} {w0:Base} {ρ:Rho} {s:St} {w:World}
theorem bytes_rel:∀{ts:List (Tr V)} {c:List Value} {l:List UInt8},ERels ρ 1 ts c->u8sOf ts=some l->c=l.map fun x=>Value.int .u8 x.toNat
 | _,_,l,.nil,h=>by
  simp only[u8sOf,oS]at h;subst h; rfl
 | _,_,l,.cons (t:=t) (c:=c) (l:=ts) (cl:=cl) h1 r,h=>by
  unfold u8sOf at h;simp only[oI,oS]at h;obtain⟨v,hv,x,hx,q,hq,rfl⟩:=h;have ih:=bytes_rel r hq;have hl:=h1.len
  match c,hl with
  | [cv],_=>
   have hvr:=h1.rel 0 v hv cv rfl;unfold u8Of at hx;split at hx
   . rename_i k
     cases hk:Nat.blt k 256 with
     | false=>rw[hk]at hx; cases hx
     | true=>
      rw[hk]at hx;simp only[cT,oS]at hx;rw[blt_true]at hk;subst hx;cases hvr;rw[ih];show [Value.int .u8 (.ofNat k)]++_=_;rw[List.map_cons,show(UInt8.ofNat k).toNat=k from by rw[UInt8.toNat_ofNat']; omega];rfl
   . cases hx
theorem ldN_bound {b:Nat}:∀(n off:Nat) (s:St) {l:List (Tr V)} {s':St},ldN b 1 n off s=some (l,s')->0<n->∃e z m ro c,s.heap.get b=some (.cells e z m ro c)/\off+n<=z*m/\z*m<big
 | 0,_,_,_,_,_,h=>by omega
 | n+1,off,s,l,s',h,_=>by
  unfold ldN at h;simp only[oI]at h;obtain⟨⟨t,s1⟩,hk,h⟩:=h;obtain⟨e,z,m,ro,c,hb,h1,h2,_,rfl⟩:=ldK_inv hk;cases n with
  | zero=>exact⟨e,z,m,ro,c,hb,by omega,h2⟩
  | succ n=>
   dsimp only at h;obtain⟨⟨l2,s2⟩,h3,_⟩:=h;obtain⟨e',z',m',ro',c',hb',h1',h2'⟩:=ldN_bound (n+1) (off+1) _ h3 (by omega);rw[qan,hb]at hb';simp only[oS,O.cells.injEq]at hb';obtain⟨rfl,rfl,rfl,rfl,rfl⟩:=hb';exact⟨e,z,m,ro,c,hb,by omega,h2⟩
theorem upd_freeze {cg:Nat} {cs:Array Value} {e:TypeId} {fr:Nat×Nat} (h:w.heap[cg]?=some (.cells cs e fr)) (o n:Nat) (hn:n≠0):∃fr',Upd w cg (.cells cs e fr') (w.drew.freeze ⟨cg,o,none⟩ n):=by
 obtain⟨lo,hi⟩:=fr
 have hlt:cg<w.heap.size:=by
  rcases Nat.lt_or_ge cg w.heap.size with q|q
  . exact q
  . rw[Array.getElem?_eq_none q]at h; cases h
 refine⟨if lo==hi then(o,o+n)else(min lo o,max hi (o+n)),?_,fun j hj=>?_,?_,?_,?_,?_⟩
 all_goals unfold World.freeze
 all_goals rw[iN hn]
 . show(w.heap.modify cg _)[cg]?=_
   rw[Array.getElem?_modify,iP rfl,h];rfl
 . show(w.heap.modify cg _)[j]?=_
   rw[Array.getElem?_modify,iN (fun q=>hj q.symm)]
 . show(w.heap.modify cg _).size=_
   rw[Array.size_modify]
 . rfl
 . rfl
 . rfl
theorem string_well {U:Nat} {f:FuncId} (h:StringOk P U f):KnWell P E f (qdm U):=by
 refine⟨kfString_locp U,fun w0 ρ s w args cargs e s' hR hv hg=>?_⟩;unfold qdm at hg;dsimp only at hg;split at hg
 . rename_i b o
   obtain⟨l'⟩:=cargs;cases hv with
   | cons hp ht=>
   cases ht;cases ho:Nat.beq o 0 with
   | false=>rw[ho]at hg; cases hg
   | true=>
   rw[ho,cT]at hg;rw[Ev.beq_true]at ho;subst ho;simp only[oI]at hg;obtain⟨⟨v,s1⟩,hh,hg⟩:=hg;dsimp only at hg;cases hp with
   | @ptr _ _ cb sh sz hρ=>
   obtain⟨cv,hcell,hvr,_,hsame⟩:=ld_sim hR hh hρ;have hR1:=hR.same hsame;split at hg
   . simp only[oS,pM]at hg
     obtain⟨rfl,rfl⟩:=hg;cases hvr;refine(h.empty cb (sh+0) w hcell).mono fun ce w2 hce=>?_;obtain⟨rfl,rfl⟩:=hce;exact⟨ρ,_,rfl,Rho.le_refl ρ,.str ⟨#[]⟩,hR1.drew _⟩
   . rename_i r off n z
     cases hz:(Nat.beq z 1&&Nat.blt 0 n)with
     | false=>rw[hz]at hg; cases hg
     | true=>
     rw[hz,cT]at hg;simp only[bA,Ev.beq_true,blt_true]at hz;obtain⟨rfl,hn0⟩:=hz;unfold strAt at hg;simp only[oI,oS,pM]at hg;obtain⟨⟨u,s2⟩,how,⟨ts,s3⟩,hld,l,hl,rfl,rfl⟩:=hg;dsimp only at hld hl;unfold ownB at how;simp only[oI,oS,pM]at how;obtain⟨u',how,_,rfl⟩:=how;cases hvr with
     | @oslice _ _ _ _ cap cg shg szg a hρg hle hz1 hsz ha=>
     split at how
     . rename_i e' z' n' ro c hbg
       cases hc:(Nat.beq e' U&&Nat.beq z' 1&&!ro)with
       | false=>rw[hc]at how; cases how
       | true=>
       simp only[bA,Ev.beq_true,Bool.not_eq_true']at hc;obtain⟨⟨rfl,rfl⟩,rfl⟩:=hc;obtain⟨cs,fr,hcr⟩:=qbk hR1 hbg hρg;have hR2:Rel E w0 ρ (s1.note r 0 1 false) w:=hR1.note _ _ _ _;obtain⟨cc,hcells,hER,hlen,hsame3⟩:=ldN_sim hρg n off _ s3 ts hR2 hld;have hR3:=hR2.same hsame3;have hcc:=bytes_rel hER hl;have hccl:=hER.length;have haa:=ha (by omega);subst haa
       have hll:l.length=n:=by
        have:=congrArg List.length hcc;rw[lM]at this;omega
       have hl0:l≠[]:=fun e=>by rw[e]at hll; simp at hll; omega
       have hshape:w.shape? cg=some (e',cs.size):=by
        unfold World.shape?;rw[hcr.heap]
       have hsize:=hcr.size
       have hbytes:∀j x,l[j]?=some x->w.cell? ((⟨cg,shg+off,none⟩:Addr).add j)=some (.int .u8 x.toNat):=fun j x hx=>by
        have:=hcells j (.int .u8 x.toNat) (by rw[hcc,List.getElem?_map,hx]; rfl);have hadd:(⟨cg,shg+off,none⟩:Addr).add j=⟨cg,shg+off+j,none⟩:=by unfold Addr.add; split<;>simp_all
        rw[hadd]; exact this
       have hb3:s3.heap.get r=some (.cells e' 1 n' false c):=by rw[hsame3.heap,qan]; exact hbg
       rw[<- hll]at hcell hle
       have h63:l.length<=9223372036854775807:=by
        obtain⟨e2,z2,m2,ro2,c2,_,q1,q2⟩:=ldN_bound n off _ hld hn0;have:big=1099511627776:=rfl;omega
       refine(h.full cb (sh+0) cg (shg+off) cap cs.size l w hcell hshape hl0 (by omega) h63 (by omega) hbytes).mono fun ce w2 hce=>?_;obtain⟨rfl,rfl⟩:=hce;have hup:∃fr',Upd w cg (.cells cs e' fr') (w.drew.freeze ⟨cg,shg+off,none⟩ l.length):=upd_freeze hcr.heap _ _ (fun e=>hl0 (List.length_eq_zero_iff.1 e));obtain⟨fr',hu⟩:=hup;refine⟨ρ,_,rfl,Rho.le_refl ρ,?_,?_⟩
       . exact .str ⟨l.toArray⟩
       . exact(hR3.note r 0 big true).write (o:=.cells e' 1 n' false c) (o':=.dead) (by rw[qan]; exact hb3) rfl hρg hu trivial
     . cases how
   . cases hg
 . cases hg
end
end Go.Proofs.YtpgegoeghaplkaaGreatDoor.Ev
namespace Go.Proofs.YtpgegoeghaplkaaGreatDoor.Ev
abbrev z64q:List V:=[.int .u32 0,.int .u32 0,.int .u32 0,.int .u32 0,.int .u32 0,.int .u32 0,.int .u32 0,.int .u32 0,.int .u32 0,.int .u32 0,.int .u32 0,.int .u32 0,.int .u32 0,.int .u32 0,.int .u32 0,.int .u32 0,.int .u32 0,.int .u32 0,.int .u32 0,.int .u32 0,.int .u32 0,.int .u32 0,.int .u32 0,.int .u32 0,.int .u32 0,.int .u32 0,.int .u32 0,.int .u32 0,.int .u32 0,.int .u32 0,.int .u32 0,.int .u32 0,.int .u32 0,.int .u32 0,.int .u32 0,.int .u32 0,.int .u32 0,.int .u32 0,.int .u32 0,.int .u32 0,.int .u32 0,.int .u32 0,.int .u32 0,.int .u32 0,.int .u32 0,.int .u32 0,.int .u32 0,.int .u32 0,.int .u32 0,.int .u32 0,.int .u32 0,.int .u32 0,.int .u32 0,.int .u32 0,.int .u32 0,.int .u32 0,.int .u32 0,.int .u32 0,.int .u32 0,.int .u32 0,.int .u32 0,.int .u32 0,.int .u32 0,.int .u32 0]
end Go.Proofs.YtpgegoeghaplkaaGreatDoor.Ev
end
