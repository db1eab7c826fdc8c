/-
  THE EVALUATOR AND ITS SOUNDNESS: what it says of a call holds of the call in the model,in whatever world,on whatever tape,part 4 of 4 (no condition).
-/
import Derived.Test.YtafbipadnnmccaaDoorEv3
import Derived.Shelf.Strings.Builder1
import Derived.Lib.UnsafeStr
namespace Go.Proofs.YtafbipadnnmccaaDoor.Ev.Fz
open Go.Proofs.YtafbipadnnmccaaDoor.Ev
structure Fz where
 b:Nat
 e:TypeId
 z:Nat
 n:Nat
 c:Tr (Tr V)
structure Same (F:Fz) (s t:St):Prop where
 next:t.next=s.next
 heap:∀x,x≠F.b->t.heap.get x=s.heap.get x
 fs:s.heap.get F.b=some (.cells F.e F.z F.n true F.c)
 ft:t.heap.get F.b=some (.cells F.e F.z F.n false F.c)
 lt:F.b<s.next
def Wd (F:Fz) (d:List LE):Prop:=∀e∈d,e.w=false\/e.b≠F.b
structure Ok (F:Fz) (s s' t t':St):Prop where
 same:Same F s' t'
 ons:s'.on=s.on
 ont:t'.on=t.on
 log:∃d,(s.on=true->s'.log=d++s.log)/\(t.on=true->t'.log=d++t.log)/\Wd F d
theorem Ok.refl {F:Fz} {s t:St} (h:Same F s t):Ok F s s t t:=⟨h,rfl,rfl,[],fun _=>rfl,fun _=>rfl,fun _ h=>by cases h⟩
theorem Ok.trans {F:Fz} {s s1 s2 t t1 t2:St} (h:Ok F s s1 t t1) (k:Ok F s1 s2 t1 t2):Ok F s s2 t t2:=by
 obtain⟨d1,a1,b1,c1⟩:=h.log;obtain⟨d2,a2,b2,c2⟩:=k.log;refine⟨k.same,k.ons.trans h.ons,k.ont.trans h.ont,d2++d1,fun ho=>?_,fun ho=>?_,fun e he=>?_⟩
 . rw[a2 (h.ons.trans ho),a1 ho,List.append_assoc]
 . rw[b2 (h.ont.trans ho),b1 ho,List.append_assoc]
 . rcases List.mem_append.1 he with h|h
   . exact c2 e h
   . exact c1 e h
def Loc {β:Type} (F:Fz) (st:β->St) (up:β->St->β) (f:St->Option β):Prop:=
 ∀s r,f s=some r->∀t,Same F s t->∃t',f t=some (up r t')/\Ok F s (st r) t t'
abbrev LocP {α:Type} (F:Fz) (f:St->Option (α×St)):Prop:=Loc F Prod.snd upP f
abbrev LocS (F:Fz) (f:St->Option St):Prop:=Loc F id upS f
abbrev LocN (F:Fz) (f:St->Option Nx):Prop:=Loc F Nx.st Nx.up f
variable {F:Fz}
section
variable {α β γ:Type} {st:β->St} {up:β->St->β} {st1:γ->St} {up1:γ->St->γ}
theorem Loc.none:Loc F st up fun _=>none:=fun _ _ h=>by cases h
theorem Loc.bindG (hup:∀r,up1 r (st1 r)=r) {f:St->Option γ} {g:γ->Option β} (hf:Loc F st1 up1 f) (hg:∀r,Loc F st up fun s=>g (up1 r s)):Loc F st up fun s=>(f s).bind g:=by
 intro s r h;simp only[oI]at h;obtain⟨q,h1,h2⟩:=h;intro t hA;obtain⟨t1,e1,A1⟩:=hf s _ h1 t hA;obtain⟨t2,e2,A2⟩:=hg q (st1 q) r (by simp only[hup]; exact h2) t1 A1.same;exact⟨t2,by simp only[e1,oB]; exact e2,A1.trans A2⟩
theorem Loc.bind {f:St->Option (α×St)} {g:α×St->Option β} (hf:LocP F f) (hg:∀a,Loc F st up fun s=>g (a,s)):Loc F st up fun s=>(f s).bind g:=
 Loc.bindG (up1:=upP) (fun _=>rfl) hf fun r=>hg r.1
theorem Loc.bindS {f:St->Option St} {g:St->Option β} (hf:LocS F f) (hg:Loc F st up g):Loc F st up fun s=>(f s).bind g:=
 Loc.bindG (up1:=upS) (fun _=>rfl) hf fun _=>hg
theorem Loc.opt {o:Option α} {g:α->St->Option β} (hg:∀a,Loc F st up (g a)):Loc F st up fun s=>o.bind fun a=>g a s:=by
 cases o with
 | none=>exact Loc.none
 | some a=>exact hg a
theorem Loc.cond {c:Bool} {f g:St->Option β} (hf:Loc F st up f) (hg:Loc F st up g):Loc F st up fun s=>bif c then f s else g s:=by
 cases c
 . exact hg
 . exact hf
theorem Loc.of_eq {f g:St->Option β} (h:∀s,f s=g s) (hg:Loc F st up g):Loc F st up f:=by
 rw[show f=g from funext h]; exact hg
theorem LocP.ret (a:α):LocP F fun s=>some (a,s):=fun s r h=>by
 simp only[oS]at h;subst h;exact fun t hA=>⟨t,rfl,Ok.refl hA⟩
theorem LocS.ret:LocS F fun s=>some s:=fun s r h=>by
 simp only[oS]at h;subst h;exact fun t hA=>⟨t,rfl,Ok.refl hA⟩
theorem LocN.ret (v:V):LocN F fun s=>some (.val v s):=fun s r h=>by
 simp only[oS]at h;subst h;exact fun t hA=>⟨t,rfl,Ok.refl hA⟩
theorem LocN.vS {f:St->Option (V×St)} (h:LocP F f):LocN F fun s=>vS (f s):=Loc.bind (g:=fun p=>some (Nx.val p.1 p.2)) h fun _=>LocN.ret _
theorem LocN.uS {f:St->Option St} (h:LocS F f):LocN F fun s=>uS (f s):=Loc.bindS (g:=fun s=>some (Nx.val (.tuple []) s)) h (LocN.ret _)
theorem LocN.pS (o:Option V):LocN F fun s=>pS o s:=Loc.opt (g:=fun v s=>some (Nx.val v s)) fun _=>LocN.ret _
end
theorem note_on' (s:St) (b lo hi:Nat) (x:Bool):(s.note b lo hi x).on=s.on:=by unfold St.note; cases s; rename_i h n on l; cases on<;>rfl
theorem note_log (s:St) (b lo hi:Nat) (x:Bool) (h:s.on=true):(s.note b lo hi x).log=[⟨b,lo,hi,x⟩]++s.log:=by
 unfold St.note; rw[h]; rfl
theorem qhr {s t:St} (h:Same F s t) (b lo hi:Nat) {x:Bool} (hx:x=false\/b≠F.b):Ok F s (s.note b lo hi x) t (t.note b lo hi x):=by
 refine⟨⟨by rw[qcl,qcl]; exact h.next,fun y hy=>by rw[qaj,qaj]; exact h.heap y hy,by rw[qaj]; exact h.fs,by rw[qaj]; exact h.ft,by rw[qcl]; exact h.lt⟩,note_on' ..,note_on' ..,[⟨b,lo,hi,x⟩],note_log s b lo hi x,note_log t b lo hi x,fun e he=>?_⟩;rw[List.mem_singleton.1 he];exact hx
theorem put_ok {s t:St} (h:Same F s t) {b:Nat} (hb:b≠F.b) (o:O):Ok F s (s.put b o) t (t.put b o):=by
 refine⟨⟨h.next,fun y hy=>?_,?_,?_,h.lt⟩,rfl,rfl,[],fun _=>rfl,fun _=>rfl,fun _ h=>by cases h⟩
 . rw[qe3,qe3]
   by_cases e:y=b
   . rw[iP e,iP e]
   . rw[iN e,iN e]; exact h.heap y hy
 . rw[qe3,iN (Ne.symm hb)]; exact h.fs
 . rw[qe3,iN (Ne.symm hb)]; exact h.ft
theorem LocP.read {α:Type} {b lo hi:Nat} (k:Option O->Option α) (hk:∀e z n c a,k (some (.cells e z n true c))=some a->k (some (.cells e z n false c))=some a):LocP F fun s=>(k (s.heap.get b)).bind fun a=>some (a,s.note b lo hi false):=by
 intro s r h;simp only[oI,oS]at h;obtain⟨a,ha,rfl⟩:=h;refine fun t hA=>⟨t.note b lo hi false,?_,qhr hA b lo hi (.inl rfl)⟩
 have:k (t.heap.get b)=some a:=by
  by_cases e:b=F.b
  . subst e
    rw[hA.fs]at ha;rw[hA.ft];exact hk _ _ _ _ _ ha
  . rw[hA.heap b e]; exact ha
 simp only[this,oB]
theorem LocS.write {b lo hi:Nat} (k:Option O->Option O) (hk:∀e z n c,k (some (.cells e z n true c))=none):LocS F fun s=>(k (s.heap.get b)).bind fun o=>some ((s.note b lo hi true).put b o):=by
 intro s r h;simp only[oI,oS]at h;obtain⟨o,ho,rfl⟩:=h;intro t hA
 have hb:b≠F.b:=fun e=>by
  subst e;rw[hA.fs,hk]at ho;cases ho
 refine⟨(t.note b lo hi true).put b o,?_,(qhr hA b lo hi (.inr hb)).trans (put_ok (qhr hA b lo hi (.inr hb)).same hb o)⟩;simp only[hA.heap b hb,ho,oB]
theorem LocS.setO {b:Nat} (hb:b≠F.b) (o:O):LocS F fun s=>some (setO s b o):=fun s r h=>by
 simp only[oS]at h;subst h;exact fun t hA=>⟨Ev.setO t b o,rfl,(qhr hA b 0 big (.inr hb)).trans (put_ok (qhr hA b 0 big (.inr hb)).same hb o)⟩
theorem nw_ok {s t:St} (h:Same F s t) (o:O):Ok F s (nw s o) t (nw t o):=by
 have hb:s.next≠F.b:=Nat.ne_of_gt h.lt
 have h1:=qhr h s.next 0 big (x:=true) (.inr hb)
 have h2:=h1.trans (put_ok h1.same hb o);unfold nw;rw[h.next];exact⟨⟨rfl,h2.same.heap,h2.same.fs,h2.same.ft,Nat.lt_succ_of_lt h.lt⟩,h2.ons,h2.ont,h2.log⟩
theorem LocP.nw {α:Type} (k:Nat->α) (o:Nat->O):LocP F fun s=>some (k s.next,nw s (o s.next)):=fun s r h=>by
 simp only[oS]at h;subst h;exact fun t hA=>⟨Ev.nw t (o s.next),by simp only[hA.next],nw_ok hA _⟩
theorem LocN.nw (k:Nat->V) (o:Nat->O):LocN F fun s=>some (.val (k s.next) (nw s (o s.next))):=
 Loc.of_eq (fun _=>rfl) (LocN.vS (LocP.nw k o))
theorem Loc.bindGet {β:Type} {st:β->St} {up:β->St->β} (b:Nat) {g:O×St->Option β} (hc:∀e z n ro c s,g (.cells e z n ro c,s)=Option.none) (hg:b≠F.b->∀o,Loc F st up fun s=>g (o,s)):Loc F st up fun s=>(qjg s b).bind g:=by
 intro s r h t hA;have h:((s.heap.get b).bind fun o=>some (o,s.note b 0 big false)).bind g=some r:=h;simp only[oI,Prod.exists,oS,pM]at h;obtain⟨o,s1,⟨o',ho,rfl,rfl⟩,h⟩:=h
 have hb:b≠F.b:=fun e=>by
  subst e;rw[hA.fs]at ho;cases ho;rw[hc]at h;cases h
 have h1:=qhr hA b 0 big (x:=false) (.inl rfl);obtain⟨t',e1,A1⟩:=hg hb o' _ _ h _ h1.same;refine⟨t',?_,h1.trans A1⟩;show((t.heap.get b).bind fun o=>some (o,t.note b 0 big false)).bind g=_;rw[hA.heap b hb,ho];exact e1
theorem loc_ldK (b off k:Nat):LocP F fun s=>ldK s b off k:=
 Loc.of_eq (fun s=>by
  unfold ldK;split
  . rename_i e esz n ro c h
    cases hc:(Nat.ble (off+k) (esz*n)&&Nat.blt (esz*n) big)
    . rw[h]; simp only[hc]; rfl
    . rw[h]; simp only[hc,cT]
  . rename_i h
    cases ho:s.heap.get b with
    | none=>rfl
    | some o=>cases o<;>first|rfl|exact absurd ho (h _ _ _ _ _))
  (LocP.read (b:=b) (lo:=off) (hi:=off+k) (fun o=>match o with
   | some (.cells _ esz n _ c)=>bif Nat.ble (off+k) (esz*n)&&Nat.blt (esz*n) big then qfl c esz off k else none
   | _=>none) fun _ _ _ _ _ h=>h)
theorem loc_ld (b off:Nat):LocP F fun s=>ld s b off:=
 Loc.of_eq (fun s=>by
  unfold ld;split
  . rename_i e esz n ro c h
    cases hc:(Nat.blt off (esz*n)&&Nat.blt (esz*n) big)
    . rw[h]; simp only[hc]; rfl
    . rw[h]; simp only[hc,cT]
      cases c.get (off/esz)with
      | none=>rfl
      | some t=>simp only[oB]
  . rename_i h
    cases ho:s.heap.get b with
    | none=>rfl
    | some o=>cases o<;>first|rfl|exact absurd ho (h _ _ _ _ _))
  (LocP.read (b:=b) (lo:=off) (hi:=off+1) (fun o=>match o with
   | some (.cells _ esz n _ c)=>bif Nat.blt off (esz*n)&&Nat.blt (esz*n) big then(c.get (off/esz)).bind fun t=>t.get (off%esz)else none
   | _=>none) fun _ _ _ _ _ h=>h)
theorem loc_sizeB (b:Nat):LocP F fun s=>qjz s b:=
 Loc.of_eq (fun s=>by
  unfold qjz;split
  . rename_i e esz n ro c h
    cases hc:(Nat.blt (esz*n) big)
    . rw[h]; simp only[hc]; rfl
    . rw[h]; simp only[hc,cT,oB]
  . rename_i h
    cases ho:s.heap.get b with
    | none=>rfl
    | some o=>cases o<;>first|rfl|exact absurd ho (h _ _ _ _ _))
  (LocP.read (b:=b) (lo:=big-1) (hi:=big) (fun o=>match o with
   | some (.cells _ esz n _ _)=>bif Nat.blt (esz*n) big then some (esz*n)else none
   | _=>none) fun _ _ _ _ _ h=>h)
theorem loc_stK (b off k:Nat) (t:Tr V):LocS F fun s=>stK s b off k t:=
 Loc.of_eq (fun s=>by
  unfold stK;split
  . rename_i e esz n ro c h
    cases hc:(Nat.ble (off+k) (esz*n)&&Nat.blt (esz*n) big&&!ro)
    . rw[h]; simp only[hc]; rfl
    . rw[h]; simp only[hc,cT]
      cases qeq c esz off k t<;>rfl
  . rename_i h
    cases ho:s.heap.get b with
    | none=>rfl
    | some o=>cases o<;>first|rfl|exact absurd ho (h _ _ _ _ _))
  (LocS.write (b:=b) (lo:=off) (hi:=off+k) (fun o=>match o with
   | some (.cells e esz n ro c)=>bif Nat.ble (off+k) (esz*n)&&Nat.blt (esz*n) big&&!ro then(qeq c esz off k t).bind fun c=>some (.cells e esz n false c)else none
   | _=>none) fun _ _ _ _=>by simp only[Bool.not_true,Bool.and_false,cF])
theorem loc_ldN (b k:Nat):∀(n off:Nat),LocP F fun s=>ldN b k n off s
 | 0,_=>LocP.ret []
 | n+1,off=>by
  unfold ldN
  exact Loc.bind (loc_ldK b off k) fun a=>by
   dsimp only;exact Loc.bind (loc_ldN b k n (off+k)) fun _=>by dsimp only; exact LocP.ret _
theorem loc_stN (b k:Nat):∀(l:List (Tr V)) (off:Nat),LocS F fun s=>stN b k l off s
 | [],_=>LocS.ret
 | t::l,off=>Loc.bindS (g:=fun s=>stN b k l (off+k) s) (loc_stK b off k t) (loc_stN b k l (off+k))
theorem loc_loadV (E:Env) (t:TypeId) (b off:Nat):LocP F fun s=>qjv E t b off s:=by
 unfold qjv;refine Loc.opt fun g=>Loc.cond ?_ (loc_ld b off);refine Loc.opt fun n=>Loc.bind (loc_ldK b off n) fun _=>by dsimp only; exact LocP.ret _
theorem loc_storeV (E:Env) (t:TypeId) (b off:Nat) (v:V):LocS F fun s=>qhh E t b off v s:=by
 unfold qhh;exact Loc.opt fun n=>Loc.cond (loc_stK b off n _) Loc.none
theorem loc_sliceV (E:Env) (t:TypeId) (x:V) (lo hi mx:Option V):LocP F fun s=>qao E t x lo hi mx s:=by
 unfold qao;refine Loc.opt fun d=>?_;cases d<;>try exact Loc.none
 case string=>cases x<;>cases mx<;>first|exact Loc.none|exact Loc.opt fun _=>LocP.ret _
 case array=>
  cases x<;>try exact Loc.none
  exact Loc.opt fun _=>Loc.opt fun _=>LocP.ret _
 case slice=>
  cases x<;>try exact Loc.none
  case slice=>exact Loc.opt fun _=>Loc.opt fun _=>LocP.ret _
  case oslice b off len z=>
   refine Loc.opt fun z'=>Loc.cond ?_ Loc.none;refine Loc.bind (loc_sizeB b) fun k=>?_;dsimp only;refine Loc.opt fun p=>?_;cases mx with
   | some _=>exact LocP.ret _
   | none=>exact Loc.cond (LocP.ret _) (Loc.cond (LocP.ret _) Loc.none)
  case eslice=>exact Loc.opt fun _=>Loc.opt fun _=>LocP.ret _
  case nilslice=>exact Loc.opt fun _=>Loc.opt fun _=>LocP.ret _
  case list z l=>
   refine Loc.opt fun z'=>?_;cases mx with
   | some _=>exact Loc.none
   | none=>exact Loc.cond (Loc.opt fun _=>LocP.ret _) Loc.none
theorem loc_firstV (size n:Nat) (x:V):LocP F fun s=>qb7 size n x s:=by
 cases x<;>try exact Loc.none
 case str=>exact Loc.cond (LocP.ret _) Loc.none
 case slice=>exact loc_ldN _ _ _ _
 case oslice=>exact loc_ldN _ _ _ _
 case eslice=>exact Loc.cond (LocP.ret _) Loc.none
 case nilslice=>exact Loc.cond (LocP.ret _) Loc.none
 case list=>exact Loc.cond (LocP.ret _) Loc.none
theorem loc_growV (elem:TypeId) (size n b off len:Nat) (l:List (Tr V)):LocP F fun s=>qho elem size n b off len l s:=by
 intro s r h t hA;unfold qho at h;simp only[qcp]at h;split at h
 . rename_i e esz m ro c hb
   cases h1:(ro||!Nat.beq e elem)with
   | true=>rw[h1]at h; cases h
   | false=>
   rw[h1]at h;simp only[cF]at h
   have hb':b≠F.b:=fun e=>by
    subst e;rw[hA.fs]at hb;cases hb;cases h1
   cases h2:(Nat.beq esz size&&Nat.beq off 0&&Nat.beq m len&&Nat.blt (esz*m) big)with
   | true=>
    rw[h2]at h;simp only[cT]at h
    have hl:LocP F fun s=>some (V.oslice s.next 0 (len+n) size,nw (setO s b .dead) (.cells elem size (len+n) false (addL c l len))):=by
     refine Loc.of_eq (g:=fun s=>((fun s=>some (setO s b .dead)) s).bind fun s=>some (V.oslice s.next 0 (len+n) size,nw s (.cells elem size (len+n) false (addL c l len)))) (fun s=>?_) (Loc.bindS (LocS.setO hb' .dead) (LocP.nw (fun k=>V.oslice k 0 (len+n) size) fun _=>_));simp only[oB];have:(setO s b .dead).next=s.next:=by show(s.note b 0 big true).next=_; unfold St.note; cases s.on<;>rfl
     rw[this]
    obtain⟨t',e1,A1⟩:=hl s r h t hA;refine⟨t',?_,A1⟩;unfold qho;simp only[qcp];rw[hA.heap b hb',hb];simp only[h1,h2,cT,cF];exact e1
   | false=>
    rw[h2]at h;simp only[cF]at h;cases h3:(Nat.beq esz size&&Nat.beq (off%size) 0)with
    | false=>rw[h3]at h; cases h
    | true=>
    rw[h3]at h;simp only[cT]at h
    have hl:LocP F fun s=>(ldN b size len off s).bind fun q=>some (V.oslice q.2.next 0 (len+n) size,qar (setO q.2 b .dead) elem size (q.1++l)):=by
     refine Loc.bind (loc_ldN b size len off) fun a=>?_;refine Loc.of_eq (g:=fun s=>((fun s=>some (setO s b .dead)) s).bind fun s=>some (V.oslice s.next 0 (len+n) size,qar s elem size (a++l))) (fun s=>?_) (Loc.bindS (LocS.setO hb' .dead) (LocP.nw (fun k=>V.oslice k 0 (len+n) size) fun _=>_));simp only[oB];have:(setO s b .dead).next=s.next:=by show(s.note b 0 big true).next=_; unfold St.note; cases s.on<;>rfl
     rw[this]
    obtain⟨t',e1,A1⟩:=hl s r h t hA;refine⟨t',?_,A1⟩;unfold qho;simp only[qcp];rw[hA.heap b hb',hb];simp only[h1,h2,h3,cF,cT];exact e1
 . cases h
theorem loc_appendV (elem:TypeId) (size n:Nat) (x y:V):LocP F fun s=>qdj elem size n x y s:=by
 unfold qdj;refine Loc.bind (loc_firstV size n y) fun l=>?_;dsimp only;cases x<;>try exact Loc.none
 case slice b off len cap=>
  refine Loc.cond ?_ ?_
  . exact Loc.bindS (loc_stN b size l _) (LocP.ret _)
  . exact Loc.bind (loc_firstV size len _) fun a=>by dsimp only; exact LocP.nw (fun k=>V.oslice k 0 (len+n) size) fun _=>_
 case oslice b off len z=>
  refine Loc.cond ?_ Loc.none;refine Loc.bind (loc_sizeB b) fun a=>?_;dsimp only;refine Loc.cond ?_ (loc_growV _ _ _ _ _ _ _);exact Loc.bindS (loc_stN b size l _) (LocP.ret _)
 case eslice=>exact Loc.cond (LocP.ret _) Loc.none
 case nilslice=>exact Loc.cond (LocP.ret _) (LocP.nw (fun k=>V.oslice k 0 n size) fun _=>_)
theorem loc_lookupV (E:Env) (t:TypeId) (x k:V) (ok:Bool):LocP F fun s=>qen E t x k ok s:=by
 unfold qen;refine Loc.opt fun d=>?_;cases d<;>try exact Loc.none
 rename_i kt et;refine Loc.opt fun d=>Loc.cond ?_ Loc.none
 refine Loc.bind (f:=fun s=>match x with
  | .nilmap=>some ([],s)
  | .map r=>(qjg s r).bind fun p=>match p.1 with
   | .map es _=>some (es,p.2)
   | _=>none
  | _=>none) ?_ fun es=>?_
 . cases x<;>try exact Loc.none
   . rename_i r
     refine Loc.bindGet r (fun _ _ _ _ _ _=>rfl) fun hb o=>?_;dsimp only;cases o<;>first|exact Loc.none|exact LocP.ret _
   . exact LocP.ret _
 . dsimp only
   refine Loc.opt fun q=>?_;cases q with
   | none=>exact Loc.opt fun z=>LocP.ret _
   | some q=>exact LocP.ret _
theorem loc_updateV (E:Env) (t:TypeId) (m k v:V):LocS F fun s=>qe5 E t m k v s:=by
 unfold qe5;refine Loc.opt fun d=>?_;cases d<;>try exact Loc.none
 rename_i kt et;refine Loc.opt fun d=>Loc.cond ?_ Loc.none;cases m<;>try exact Loc.none
 rename_i r;refine Loc.bindGet r (fun _ _ _ _ _ _=>rfl) fun hb o=>?_;dsimp only;cases o<;>try exact Loc.none
 rename_i es clock;refine Loc.opt fun q=>?_;cases q with
 | none=>exact LocS.setO hb _
 | some q=>exact LocS.setO hb _
theorem loc_setRet {α:Type} {r:Nat} (hb:r≠F.b) (o:O) (a:α):LocP F fun s=>some (a,setO s r o):=
 Loc.of_eq (g:=fun s=>((fun s=>some (setO s r o)) s).bind fun s=>some (a,s)) (fun _=>rfl) (Loc.bindS (LocS.setO hb o) (LocP.ret _))
theorem loc_entryV (E:Env) (t:TypeId) (m k:V):LocP F fun s=>qh6 E t m k s:=by
 unfold qh6;refine Loc.opt fun d=>?_;cases d<;>try exact Loc.none
 rename_i kt et;refine Loc.opt fun d=>Loc.cond ?_ Loc.none;cases m<;>try exact Loc.none
 rename_i r;refine Loc.bindGet r (fun _ _ _ _ _ _=>rfl) fun hb o=>?_;dsimp only;cases o<;>try exact Loc.none
 rename_i es clock;refine Loc.opt fun q=>?_;cases q with
 | none=>exact Loc.opt fun z=>loc_setRet hb _ _
 | some q=>exact Loc.opt fun z=>loc_setRet hb _ _
theorem loc_entryStoreV (m st v:V):LocS F fun s=>qbl m st v s:=by
 unfold qbl;cases m<;>try exact Loc.none
 cases st<;>try exact Loc.none
 rename_i r kk nn;cases nn<;>try exact Loc.none
 refine Loc.bindGet r (fun _ _ _ _ _ _=>rfl) fun hb o=>?_;dsimp only;cases o<;>try exact Loc.none
 exact Loc.opt fun q=>LocS.setO hb _
theorem loc_deleteV (E:Env) (t:TypeId) (m k:V):LocS F fun s=>qek E t m k s:=by
 unfold qek;refine Loc.opt fun d=>?_;cases d<;>try exact Loc.none
 rename_i kt et;refine Loc.opt fun d=>Loc.cond ?_ Loc.none;cases m<;>try exact Loc.none
 . rename_i r
   refine Loc.bindGet r (fun _ _ _ _ _ _=>rfl) fun hb o=>?_;dsimp only;cases o<;>try exact Loc.none
   rename_i es clock;refine Loc.opt fun q=>?_;cases q with
   | none=>exact LocS.setO hb _
   | some q=>exact LocS.setO hb _
 . exact LocS.ret
theorem loc_zerosAt (b off n:Nat):LocP F fun s=>qan s b off n:=
 Loc.of_eq (fun s=>by
  unfold qan;split
  . rename_i e esz m ro c h
    cases hc:(Nat.beq esz 1&&Nat.ble (off+n) m&&Nat.blt m big&&Nat.blt 0 n&&qdi c)
    . rw[h]; simp only[hc]; rfl
    . rw[h]; simp only[hc,cT,oB]
  . rename_i h
    cases ho:s.heap.get b with
    | none=>rfl
    | some o=>cases o<;>first|rfl|exact absurd ho (h _ _ _ _ _))
  (LocP.read (b:=b) (lo:=off) (hi:=off+n) (fun o=>match o with
   | some (.cells _ esz m _ c)=>bif Nat.beq esz 1&&Nat.ble (off+n) m&&Nat.blt m big&&Nat.blt 0 n&&qdi c then some (V.str n 0)else none
   | _=>none) fun _ _ _ _ _ h=>h)
theorem zerosAt_none {s t:St} {b off n:Nat} (h:qan s b off n=none) (hA:Same F s t):qan t b off n=none:=by
 by_cases e:b=F.b
 . subst e
   unfold qan at h ⊢;rw[hA.fs]at h;rw[hA.ft];simp only at h ⊢;cases hx:(Nat.beq F.z 1&&Nat.ble (off+n) F.n&&Nat.blt F.n big&&Nat.blt 0 n&&qdi F.c)
   . rfl
   . rw[hx]at h; cases h
 . exact Lg.zerosAt_none h (.inr (hA.heap b e))
theorem loc_bytes (b off l c n:Nat):LocP F fun s=>qey (qan s b off n) ((qb7 1 n (.slice b off l c) s).bind fun p=>(qd0 p.1).bind fun q=>some (V.str q.1 q.2,p.2)):=by
 have hg:LocP F fun s=>(qb7 1 n (.slice b off l c) s).bind fun p=>(qd0 p.1).bind fun q=>some (V.str q.1 q.2,p.2):=Loc.bind (loc_firstV 1 n _) fun a=>by dsimp only; exact Loc.opt fun q=>LocP.ret _
 intro s r h t hA;dsimp only at h;cases hz:qan s b off n with
 | some q=>
  rw[hz]at h;simp only[qey,oS]at h;subst h;obtain⟨t',e1,A1⟩:=loc_zerosAt b off n s _ hz t hA;have e1':qan t b off n=some (upP q t'):=e1;exact⟨t',by dsimp only; rw[e1']; rfl,A1⟩
 | none=>
  rw[hz]at h;have h':((qb7 1 n (.slice b off l c) s).bind fun p=>(qd0 p.1).bind fun q=>some (V.str q.1 q.2,p.2))=some r:=h;obtain⟨t',e1,A1⟩:=hg s r h' t hA;refine⟨t',?_,A1⟩;have hno:qan t b off n=none:=zerosAt_none hz hA;dsimp only;rw[hno];exact e1
theorem loc_sameV (b:Nat):LocS F fun s=>sameV s b:=
 Loc.of_eq (fun s=>by
  unfold sameV;split
  . rename_i e esz m c h
    rw[h]; rfl
  . rename_i h
    cases ho:s.heap.get b with
    | none=>rfl
    | some o=>
     cases o<;>try rfl
     rename_i e esz m ro c;cases ro
     . exact absurd ho (h _ _ _ _)
     . rfl)
  (LocS.write (b:=b) (lo:=0) (hi:=big) (fun o=>match o with
   | some (.cells e esz m false c)=>some (.cells e esz m false c)
   | _=>none) fun _ _ _ _=>rfl)
theorem loc_liesV (E:Env) (u:TypeId) (b off:Nat):LocS F fun s=>liesV E u b off s:=
 Loc.of_eq (g:=fun s=>(((match s.heap.get b with
  | some (.cells e esz m _ _)=>(qam E e).bind fun z=>bif Nat.beq z esz&&Nat.blt off (esz*m)&&Nat.blt (esz*m) big&&qhp e (off%esz) u E.lie then some ()else none
  | _=>none:Option Unit)).bind fun a=>some (a,s.note b off (off+1) false)).bind fun p=>some p.2) (fun s=>by
  unfold liesV;cases s.heap.get b with
  | none=>rfl
  | some o=>
   cases o<;>try rfl
   rename_i e esz m ro c;show(qam E e).bind _=(((qam E e).bind _).bind _).bind _;cases qam E e with
   | none=>rfl
   | some z=>
    simp only[oB]
    cases(Nat.beq z esz&&Nat.blt off (esz*m)&&Nat.blt (esz*m) big&&qhp e (off%esz) u E.lie)<;>rfl)
  (Loc.bind (LocP.read (b:=b) (lo:=off) (hi:=off+1) (fun o=>match o with
   | some (.cells e esz m _ _)=>(qam E e).bind fun z=>bif Nat.beq z esz&&Nat.blt off (esz*m)&&Nat.blt (esz*m) big&&qhp e (off%esz) u E.lie then some ()else none
   | _=>none) fun _ _ _ _ _ h=>h) fun _=>LocS.ret)
theorem loc_liesB (E:Env) (u:TypeId) (b off n:Nat):LocS F fun s=>ql7 E u b off n s:=
 Loc.of_eq (g:=fun s=>(((match s.heap.get b with
  | some (.cells e esz m false _)=>(qam E e).bind fun z=>bif Nat.beq e u&&Nat.beq z 1&&Nat.beq esz 1&&Nat.ble (off+n) m&&Nat.blt m big then some ()else none
  | _=>none:Option Unit)).bind fun a=>some (a,s.note b off (off+1) false)).bind fun p=>some p.2) (fun s=>by
  unfold ql7;cases s.heap.get b with
  | none=>rfl
  | some o=>
   cases o<;>try rfl
   rename_i e esz m ro c;cases ro<;>try rfl
   show(qam E e).bind _=(((qam E e).bind _).bind _).bind _;cases qam E e with
   | none=>rfl
   | some z=>
    simp only[oB]
    cases(Nat.beq e u&&Nat.beq z 1&&Nat.beq esz 1&&Nat.ble (off+n) m&&Nat.blt m big)<;>rfl)
  (Loc.bind (LocP.read (b:=b) (lo:=off) (hi:=off+1) (fun o=>match o with
   | some (.cells e esz m false _)=>(qam E e).bind fun z=>bif Nat.beq e u&&Nat.beq z 1&&Nat.beq esz 1&&Nat.ble (off+n) m&&Nat.blt m big then some ()else none
   | _=>none) fun _ _ _ _ _ h=>by cases h) fun _=>LocS.ret)
theorem Loc.bindLies {β:Type} {st:β->St} {up:β->St->β} (E:Env) (u:TypeId) (b off n:Nat) {g:St->Option β} (hg:b≠F.b->Loc F st up g):Loc F st up fun s=>(ql7 E u b off n s).bind g:=by
 intro s r h t hA
 have hb:b≠F.b:=fun e=>by
  subst e;have h':(ql7 E u F.b off n s).bind g=some r:=h;unfold ql7 at h';rw[hA.fs]at h';cases h'
 exact Loc.bindS (loc_liesB E u b off n) (hg hb) s r h t hA
theorem loc_unsafeV (E:Env) (ds dd:TypeDesc) (x:V):LocP F fun s=>qfi E ds dd x s:=by
 unfold qfi;cases x<;>try exact Loc.none
 refine Loc.cond ?_ (Loc.cond ?_ Loc.none)
 . refine Loc.opt fun t=>Loc.opt fun z=>Loc.cond Loc.none ?_
   exact Loc.bindS (loc_liesV _ _ _ _) (LocP.ret _)
 . refine Loc.opt fun t=>Loc.opt fun z=>?_
   exact Loc.bindS (loc_liesV _ _ _ _) (LocP.ret _)
theorem loc_convertV (E:Env) (src dst:TypeId) (x:V):LocP F fun s=>qbn E src dst x s:=by
 unfold qbn;refine Loc.opt fun ds=>Loc.opt fun dd=>Loc.cond (loc_unsafeV _ _ _ _) ?_
 have bytes:∀(x:V),LocP F fun s=>(match ds with
  | .slice e=>(und E e).bind fun
   | .int .u8=>(lenV x).bind fun n=>match x with
    | .str _ _=>none
    | .slice b off l c=>qey (qan s b off n) ((qb7 1 n (.slice b off l c) s).bind fun p=>(qd0 p.1).bind fun q=>some (.str q.1 q.2,p.2))
    | x=>(qb7 1 n x s).bind fun p=>(qd0 p.1).bind fun q=>some (V.str q.1 q.2,p.2)
   | _=>none
  | _=>none):=by
  intro x;cases ds<;>try exact Loc.none
  rename_i e;refine Loc.opt fun d=>?_;cases d<;>try exact Loc.none
  rename_i k;cases k<;>try exact Loc.none
  refine Loc.opt fun n=>?_
  cases x<;>first
   | exact Loc.none
   | exact loc_bytes _ _ _ _ _
   | exact Loc.bind (loc_firstV 1 n _) fun a=>by dsimp only; exact Loc.opt fun q=>LocP.ret _
 cases dd<;>try (cases x<;>exact Loc.none)
 . cases x<;>first|exact Loc.none|exact LocP.ret _
 . cases x<;>first|exact LocP.ret _|exact bytes _
 . cases x<;>try exact Loc.none
   . refine Loc.opt fun d=>?_
     cases d<;>try exact Loc.none
     rename_i k;cases k<;>try exact Loc.none
     exact LocP.nw (fun k=>V.oslice k 0 _ 1) fun _=>_
   . refine Loc.cond ?_ Loc.none
     refine Loc.opt fun d=>?_;cases d<;>try exact Loc.none
     rename_i k;cases k<;>try exact Loc.none
     exact Loc.bindS (loc_sameV _) (LocP.ret _)
theorem loc_lenAny (d:TypeDesc) (E:Env) (x:V):LocN F fun s=>lenAny d E x s:=by
 cases d<;>try exact Loc.none
 case array=>exact LocN.ret _
 case pointer e=>
  refine Loc.opt fun d=>?_;cases d<;>first|exact Loc.none|exact LocN.ret _
 case string=>cases x<;>first|exact Loc.none|exact LocN.ret _
 case slice=>cases x<;>first|exact Loc.none|exact LocN.ret _
 case map=>
  cases x<;>try exact Loc.none
  case nilmap=>exact LocN.ret _
  case map r=>
   refine Loc.bindGet r (fun _ _ _ _ _ _=>rfl) fun hb o=>?_;dsimp only;cases o<;>first|exact Loc.none|exact LocN.ret _
theorem loc_copyInto (size:Nat) (x:V) (n:Nat) (l:List (Tr V)):LocN F fun s=>qgp size x n l s:=by
 cases x<;>try exact Loc.none
 case slice=>exact Loc.bindS (loc_stN _ size l _) (LocN.ret _)
 case oslice=>exact Loc.bindS (loc_stN _ size l _) (LocN.ret _)
 case eslice=>exact LocN.ret _
 case nilslice=>exact LocN.ret _
theorem loc_extV (k:Nat) (args:List V):LocN F fun s=>extV k args s:=by
 unfold extV;split
 . split
   . refine Loc.cond ?_ Loc.none
     split<;>exact LocN.ret _
   . exact Loc.none
 . split
   . rename_i t r
     refine Loc.bindGet r (fun _ _ _ _ _ _=>rfl) fun hb o=>?_;dsimp only;cases o<;>first|exact Loc.none|exact LocN.nw (fun k=>V.iface t (V.map k)) fun _=>_
   . exact Loc.none
 . split
   . exact Loc.cond (LocN.ret _) Loc.none
   . exact Loc.none
 . split
   . exact LocN.ret _
   . exact Loc.none
 . refine Loc.cond ?_ Loc.none
   split
   . exact Loc.cond (LocN.nw (fun k=>V.oslice k 0 _ 1) fun _=>_) Loc.none
   . exact Loc.none
theorem LocN.enter (f:FuncId) (args:List V):LocN F fun s=>some (.enter f args s):=fun s r h=>by
 simp only[oS]at h;subst h;exact fun t hA=>⟨t,rfl,Ok.refl hA⟩
theorem LocN.round (f:Nat) (args:List V):LocN F fun s=>some (.round f args s):=fun s r h=>by
 simp only[oS]at h;subst h;exact fun t hA=>⟨t,rfl,Ok.refl hA⟩
theorem LocN.defer (d:AD):LocN F fun s=>some (.defer d s):=fun s r h=>by
 simp only[oS]at h;subst h;exact fun t hA=>⟨t,rfl,Ok.refl hA⟩
theorem LocN.recover:LocN F fun s=>some (.recover s):=fun s r h=>by
 simp only[oS]at h;subst h;exact fun t hA=>⟨t,rfl,Ok.refl hA⟩
theorem LocN.pan (v:V):LocN F fun s=>some (.pan v s):=fun s r h=>by
 simp only[oS]at h;subst h;exact fun t hA=>⟨t,rfl,Ok.refl hA⟩
theorem loc_callV (E:Env) (f:V) (args:List V):LocN F fun s=>qei E f args s:=by
 unfold qei;cases f<;>try exact Loc.none
 case yield l=>exact LocN.round _ _
 rename_i fn x y;cases fn<;>try exact Loc.none
 rename_i g;dsimp only;cases E.ext.get g with
 | some k=>exact loc_extV _ _
 | none=>exact Loc.cond (LocN.enter _ _) Loc.none
theorem loc_extendAt (E:Env) (e:TypeId) (size bytes:Nat) (x y:V):LocP F fun s=>qd9 E e size bytes x y s:=by
 unfold qd9;cases x<;>try exact Loc.none
 exact Loc.opt fun n=>Loc.cond (Loc.opt fun z=>Loc.cond (LocP.nw (fun k=>V.oslice k 0 n size) fun _=>_) Loc.none) Loc.none
theorem loc_builtinF (E:Env) (b:Builtin) (ts:List TypeId) (args:List Operand) (a:Ac):LocN F fun s=>(qa6 E b ts args).run a s:=by
 cases b<;>try exact Loc.none
 case append=>
  unfold qa6;dsimp only;split
  . refine Loc.opt fun q=>Loc.opt fun d2=>Loc.cond ?_ (Loc.cond ?_ Loc.none)
    . refine Loc.opt fun vx=>Loc.opt fun vy=>Loc.opt fun n=>Loc.opt fun m=>Loc.cond ?_ Loc.none
      exact LocN.vS (loc_appendV _ _ _ _ _)
    . exact Loc.opt fun vx=>Loc.opt fun vy=>LocN.vS (loc_extendAt _ _ _ _ _ _)
  . exact Loc.none
 case cap=>
  unfold qa6;dsimp only;split
  . refine Loc.opt fun d=>?_
    cases d<;>try exact Loc.none
    refine Loc.opt fun v=>?_;cases v<;>first|exact Loc.none|exact LocN.ret _
  . exact Loc.none
 case copy=>
  unfold qa6;dsimp only;split
  . refine Loc.opt fun q=>Loc.opt fun vx=>Loc.opt fun vy=>Loc.opt fun m=>Loc.opt fun k=>?_
    exact Loc.bind (loc_firstV _ _ _) fun l=>by dsimp only; exact loc_copyInto _ _ _ _
  . exact Loc.none
 case delete=>
  unfold qa6;dsimp only;split
  . exact Loc.opt fun m=>Loc.opt fun k=>LocN.uS (loc_deleteV _ _ _ _)
  . exact Loc.none
 case len=>
  unfold qa6;dsimp only;split
  . exact Loc.opt fun d=>Loc.opt fun v=>loc_lenAny _ _ _
  . exact Loc.none
 case unsafeSliceData=>
  unfold qa6;dsimp only;split
  . refine Loc.opt fun v=>?_
    cases v<;>first|exact Loc.none|exact LocN.ret _|exact Loc.cond (LocN.ret _) Loc.none
  . exact Loc.none
 case unsafeString=>
  unfold qa6;dsimp only;split
  . refine Loc.opt fun d=>Loc.opt fun u=>Loc.opt fun p=>Loc.opt fun vn=>Loc.opt fun n=>?_
    cases p<;>first|exact Loc.none|exact Loc.cond (LocN.ret _) Loc.none|skip
    refine Loc.cond (LocN.ret _) (Loc.cond ?_ Loc.none);refine Loc.bindLies _ _ _ _ _ fun hb=>?_;refine Loc.bind (loc_ldN _ 1 _ _) fun l=>?_;dsimp only;refine Loc.opt fun k=>?_;exact Loc.of_eq (g:=fun s=>((fun s=>some (setO s _ .dead)) s).bind fun s=>some (Nx.val (.str k.1 k.2) s)) (fun _=>rfl) (Loc.bindS (LocS.setO hb _) (LocN.ret _))
  . exact Loc.none
 case max=>
  unfold qa6;dsimp only;split
  . exact Loc.opt fun v=>Loc.opt fun vs=>LocN.pS _
  . exact Loc.none
 case min=>
  unfold qa6;dsimp only;split
  . exact Loc.opt fun v=>Loc.opt fun vs=>LocN.pS _
  . exact Loc.none
 case panic=>
  unfold qa6;dsimp only;split
  . refine Loc.opt fun v=>?_
    cases v<;>first|exact Loc.none|exact LocN.pan _
  . exact Loc.none
 case recover=>exact LocN.recover
theorem loc_opF (E:Env) (op:Op) (a:Ac):LocN F fun s=>(opF E op).run a s:=by
 cases op<;>try exact Loc.none
 case move=>exact LocN.pS _
 case assign=>exact LocN.pS _
 case pick=>
  refine Loc.opt fun v=>?_;cases v<;>try exact Loc.none
  exact Loc.cond (LocN.pS _) (LocN.pS _)
 case alloc t=>exact Loc.opt fun z=>LocN.nw (fun k=>V.ptr k 0) fun _=>_
 case box t x=>exact Loc.opt fun v=>Loc.cond Loc.none (LocN.nw (fun k=>V.ptr k 0) fun _=>_)
 case build=>exact Loc.opt fun v=>LocN.pS _
 case buildSlice t len parts=>
  refine Loc.opt fun q=>Loc.cond ?_ Loc.none;refine Loc.opt fun z=>Loc.opt fun ps=>Loc.cond ?_ Loc.none;exact Loc.opt fun l=>LocN.nw (fun k=>V.slice k 0 len len) fun _=>_
 case load=>
  refine Loc.opt fun v=>?_;cases v<;>try exact Loc.none
  . exact LocN.vS (loc_loadV _ _ _ _)
  . exact Loc.cond (LocN.ret _) Loc.none
 case store=>
  refine Loc.opt fun v=>?_;cases v<;>try exact Loc.none
  exact Loc.opt fun v=>LocN.uS (loc_storeV _ _ _ _ _)
 case nilCheck=>exact Loc.opt fun v=>Loc.cond (LocN.ret _) Loc.none
 case binOp=>exact Loc.opt fun v=>Loc.opt fun u=>LocN.pS _
 case unOp=>exact Loc.opt fun v=>LocN.pS _
 case convert=>exact Loc.opt fun v=>LocN.vS (loc_convertV _ _ _ _)
 case makeInterface=>exact Loc.opt fun d=>Loc.cond (Loc.opt fun v=>LocN.ret _) Loc.none
 case makeFunc=>exact Loc.opt fun d=>Loc.opt fun v=>LocN.ret _
 case makeMap t r=>
  cases r with
  | none=>exact LocN.nw (fun k=>V.map k) fun _=>_
  | some x=>exact Loc.opt fun d=>Loc.opt fun v=>Loc.cond (LocN.nw (fun k=>V.map k) fun _=>_) Loc.none
 case makeSlice=>
  refine Loc.opt fun q=>Loc.opt fun vl=>Loc.opt fun n=>Loc.opt fun vc=>Loc.opt fun m=>Loc.cond ?_ Loc.none;exact Loc.opt fun z=>Loc.cond (LocN.nw (fun k=>V.slice k 0 n m) fun _=>_) Loc.none
 case slice=>exact Loc.opt fun v=>Loc.opt fun l=>Loc.opt fun h=>Loc.opt fun m=>LocN.vS (loc_sliceV _ _ _ _ _ _)
 case fieldAddr=>
  refine Loc.opt fun p=>Loc.cond Loc.none (Loc.opt fun v=>?_);cases v<;>try exact Loc.none
  . exact LocN.ret _
  . rename_i u
    cases u<;>first|exact Loc.none|exact Loc.opt fun _=>LocN.ret _
 case field=>
  refine Loc.opt fun p=>Loc.opt fun v=>?_;cases v<;>first|exact Loc.none|exact LocN.pS _
 case indexAddr=>
  refine Loc.opt fun d=>Loc.opt fun vi=>Loc.opt fun n=>Loc.opt fun v=>?_;cases d<;>try exact Loc.none
  . refine Loc.opt fun z=>?_
    cases v<;>first|exact Loc.none|exact Loc.cond (LocN.ret _) Loc.none|exact Loc.cond (Loc.opt fun _=>LocN.ret _) Loc.none
  . refine Loc.opt fun z=>?_
    cases v<;>try exact Loc.none
    . exact Loc.cond (LocN.ret _) Loc.none
    . rename_i u
      cases u<;>first|exact Loc.none|exact Loc.cond (Loc.opt fun _=>LocN.ret _) Loc.none
 case index=>
  refine Loc.opt fun d=>Loc.opt fun vi=>Loc.opt fun n=>Loc.opt fun v=>?_;cases d<;>try exact Loc.none
  . cases v<;>first|exact Loc.none|exact Loc.cond (LocN.ret _) Loc.none
  . cases v<;>first|exact Loc.none|exact Loc.opt fun z=>Loc.cond (LocN.pS _) Loc.none
 case lookup=>exact Loc.opt fun m=>Loc.opt fun k=>LocN.vS (loc_lookupV _ _ _ _ _)
 case mapUpdate=>exact Loc.opt fun m=>Loc.opt fun k=>Loc.opt fun v=>LocN.uS (loc_updateV _ _ _ _ _)
 case insert=>exact Loc.opt fun m=>Loc.opt fun k=>Loc.opt fun v=>LocN.uS (loc_updateV _ _ _ _ _)
 case mapEntry=>exact Loc.opt fun m=>Loc.opt fun k=>LocN.vS (loc_entryV _ _ _ _)
 case entryStore=>exact Loc.opt fun m=>Loc.opt fun k=>Loc.opt fun v=>LocN.uS (loc_entryStoreV _ _ _)
 case typeAssert x xt asserted ok=>
  refine Loc.opt fun d=>Loc.cond (Loc.opt fun v=>?_) Loc.none;have no:LocN F fun s=>qcv E asserted ok s:=Loc.cond (Loc.opt fun z=>LocN.ret _) Loc.none;cases v<;>try exact Loc.none
  . exact Loc.cond (LocN.ret _) no
  . exact no
 case range=>
  refine Loc.opt fun d=>?_;cases d<;>try exact Loc.none
  refine Loc.opt fun v=>?_;cases v<;>first|exact Loc.none|exact LocN.nw (fun k=>V.ptr k 0) fun _=>_
 case next=>
  refine Loc.cond (Loc.opt fun v=>?_) Loc.none;cases v<;>try exact Loc.none
  rename_i b off;refine Loc.cond ?_ Loc.none;refine Loc.bindGet b (fun _ _ _ _ _ _=>rfl) fun hb o=>?_;dsimp only;cases o<;>try exact Loc.none
  refine Loc.cond ?_ (LocN.ret _);exact Loc.of_eq (fun _=>rfl) (LocN.vS (loc_setRet hb _ _))
 case extract=>
  refine Loc.opt fun v=>?_;cases v<;>first|exact Loc.none|exact LocN.pS _
 case panic=>
  refine Loc.opt fun v=>?_;cases v<;>first|exact Loc.none|exact LocN.pan _
 case call c=>
  unfold opF;dsimp only;cases c.callee with
  | builtin b=>exact loc_builtinF _ _ _ _ _
  | value f=>exact Loc.opt fun fv=>Loc.opt fun vs=>loc_callV _ _ _
  | invoke x n=>exact Loc.none
 case defer c=>
  unfold opF;dsimp only;cases c.callee with
  | builtin b=>exact Loc.none
  | value f=>
   refine Loc.opt fun fv=>?_;cases fv<;>first|exact Loc.none|exact Loc.opt fun vs=>LocN.defer _
  | invoke x n=>exact Loc.none
abbrev LocX (F:Fz) (f:St->Option (X×Ac×St)):Prop:=Loc F (fun r=>r.2.2) upX f
abbrev LocM (F:Fz) (f:St->Option (X×Ac×Md×St)):Prop:=Loc F (fun r=>r.2.2.2) upM f
section
variable {β γ:Type} {st:β->St} {up:β->St->β} {st1:γ->St} {up1:γ->St->γ}
theorem Loc.bindN {f:St->Option Nx} {g:Nx->Option β} (hf:LocN F f) (hg:∀r:Nx,Loc F st up fun s=>g (r.up s)):Loc F st up fun s=>(f s).bind g:=Loc.bindG nx_up hf hg
theorem Loc.bindX {f:St->Option (X×Ac×St)} {g:X×Ac×St->Option β} (hf:LocX F f) (hg:∀x a,Loc F st up fun s=>g (x,a,s)):Loc F st up fun s=>(f s).bind g:=
 Loc.bindG (up1:=upX) (fun _=>rfl) hf fun r=>hg r.1 r.2.1
theorem Loc.bindM {f:St->Option (X×Ac×Md×St)} {g:X×Ac×Md×St->Option β} (hf:LocM F f) (hg:∀x a m,Loc F st up fun s=>g (x,a,m,s)):Loc F st up fun s=>(f s).bind g:=
 Loc.bindG (up1:=upM) (fun _=>rfl) hf fun r=>hg r.1 r.2.1 r.2.2.1
end
theorem LocX.ret (x:X) (a:Ac):LocX F fun s=>some (x,a,s):=fun s r h=>by
 simp only[oS]at h;subst h;exact fun t hA=>⟨t,rfl,Ok.refl hA⟩
theorem LocM.ret (x:X) (a:Ac) (m:Md):LocM F fun s=>some (x,a,m,s):=fun s r h=>by
 simp only[oS]at h;subst h;exact fun t hA=>⟨t,rfl,Ok.refl hA⟩
def EVLoc (F:Fz) (self:EV):Prop:=(∀f args,LocP F fun s=>self.f f args s)/\∀l args,LocP F fun s=>self.r l args s
def CFLoc (F:Fz) (c:CF):Prop:=∀self,EVLoc F self->∀a,LocX F fun s=>c.run self a s
theorem loc_afterOp {self:EV} (hs:EVLoc F self) (p:PF) (a:Ac) (nx:Nx):LocX F fun s=>qay p self a (nx.up s):=by
 cases nx with
 | val v s0=>
  simp only[Nx.up,qay,qbh,qal];exact Loc.opt fun a'=>LocX.ret _ _
 | enter f args s0=>
  simp only[Nx.up,qay,qal];refine Loc.bind (hs.1 f args) fun e=>?_;cases e with
  | ret v=>
   simp only[qbf,qbh,qal];exact Loc.opt fun a'=>LocX.ret _ _
  | pan v=>exact LocX.ret _ _
 | round f args s0=>
  simp only[Nx.up,qay,qal];refine Loc.bind (hs.2 f args) fun e=>?_;cases e with
  | ret v=>
   simp only[qbf,qbh,qal];exact Loc.opt fun a'=>LocX.ret _ _
  | pan v=>exact LocX.ret _ _
 | defer d s0=>
  simp only[Nx.up,qay];cases a.round with
  | none=>exact Loc.opt fun a'=>LocX.ret _ _
  | some l=>exact Loc.none
 | recover s0=>exact Loc.none
 | pan v s0=>exact LocX.ret _ _
theorem loc_op1 (E:Env) (ops:Array Oper) (o:Oper):CFLoc F (op1 E ops o):=fun self hs a=>by
 refine Loc.opt fun b=>Loc.cond ?_ (Loc.opt fun a'=>LocX.ret _ _);exact Loc.bindN (loc_opF E o.op a) fun nx=>loc_afterOp hs _ _ nx
theorem loc_skip:CFLoc F ⟨skipC⟩:=fun _ _ _=>LocX.ret _ _
theorem loc_seqC {x y:CF} (hx:CFLoc F x) (hy:CFLoc F y):CFLoc F ⟨seqC x y⟩:=fun self hs a=>by
 refine Loc.bindX (hx self hs a) fun e a'=>?_;cases e with
 | norm=>exact hy self hs a'
 | _=>exact LocX.ret _ _
theorem loc_opsL (E:Env) (ops:Array Oper):∀l,CFLoc F (opsL E ops l)
 | []=>loc_skip
 | o::l=>loc_seqC (loc_op1 E ops o) (loc_opsL E ops l)
def DFLoc (F:Fz) (d:DF):Prop:=∀self,EVLoc F self->∀a s r,d.run self a s=some r->∀t,Same F s t->∃t',d.run self a t=some (r.1,r.2.1,t',r.2.2.2)/\Same F r.2.2.1 t'/\∀L∈r.2.2.2,Wd F L
theorem loc_drawNil:DFLoc F ⟨drawNil⟩:=fun _ _ a s r h t hA=>by
 have h':some (X.norm,a,s,[])=some r:=h;simp only[oS]at h';subst h';exact⟨t,rfl,hA,fun _ h=>by cases h⟩
theorem loc_drawC {x:CF} {k:DF} (hx:CFLoc F x) (hk:DFLoc F k):DFLoc F ⟨qg3 x k⟩:=fun self hs a s r h t hA=>by
 have h':qg3 x k self a s=some r:=h;unfold qg3 at h';simp only[oI]at h';obtain⟨⟨x1,a1,s1⟩,h1,h2⟩:=h';obtain⟨t1,e1,A1⟩:=hx self hs a _ _ h1 {t with on:=true,log:=[]} ⟨hA.next,hA.heap,hA.fs,hA.ft,hA.lt⟩;obtain⟨d,l1,l2,l3⟩:=A1.log;have hl1:s1.log=d:=by have:=l1 rfl; simpa using this
 have hl2:t1.log=d:=by have:=l2 rfl; simpa using this
 have hrun:∀R,qcj k self (x1,a1,t1)=some R->qg3 x k self a t=some R:=fun R hR=>by
  unfold qg3;have e1':x.run self a {t with on:=true,log:=[]}=some (x1,a1,t1):=e1;rw[e1']; exact hR
 cases x1 with
 | norm=>
  simp only[qcj,oI,oS]at h2;obtain⟨q,h3,rfl⟩:=h2;obtain⟨t2,e2,A2,w2⟩:=hk self hs a1 s1 q h3 t1 A1.same;refine⟨t2,hrun _ ?_,A2,fun L hL=>?_⟩
  . show((k.run self a1 t1).bind _)=_
    rw[e2,hl1,hl2]; rfl
  . rcases List.mem_cons.1 hL with rfl|hL
    . rw[hl1]; exact l3
    . exact w2 L hL
 | exit id=>
  simp only[qcj,oS]at h2;subst h2;exact⟨t1,hrun _ (by simp only[qcj,hl1,hl2]),A1.same,fun L hL=>by rw[List.mem_singleton.1 hL,hl1]; exact l3⟩
 | ret=>
  simp only[qcj,oS]at h2;subst h2;exact⟨t1,hrun _ (by simp only[qcj,hl1,hl2]),A1.same,fun L hL=>by rw[List.mem_singleton.1 hL,hl1]; exact l3⟩
 | pan v=>
  simp only[qcj,oS]at h2;subst h2;exact⟨t1,hrun _ (by simp only[qcj,hl1,hl2]),A1.same,fun L hL=>by rw[List.mem_singleton.1 hL,hl1]; exact l3⟩
theorem loc_opsD (E:Env) (ops:Array Oper):∀l,DFLoc F (opsD E ops l)
 | []=>loc_drawNil
 | o::l=>loc_drawC (loc_op1 E ops o) (loc_opsD E ops l)
theorem qic:∀(ls:List (List LE)) (l:List LE),qfq ls l=qfq ls []++l
 | [],l=>rfl
 | x::ls,l=>by
  show qfq ls (x++l)=qfq ls (x++[])++l;rw[qic ls (x++l),qic ls (x++[]),List.append_nil,List.append_assoc]
theorem joinL_mem:∀{ls:List (List LE)} {e:LE},e∈qfq ls []->∃L∈ls,e∈L
 | [],e,h=>by cases h
 | x::ls,e,h=>by
  have h':e∈qfq ls (x++[]):=h;rw[qic,List.append_nil]at h';rcases List.mem_append.1 h' with h|h
  . obtain⟨L,h1,h2⟩:=joinL_mem h
    exact⟨L,mO _ h1,h2⟩
  . exact⟨x,List.mem_cons_self ..,h⟩
theorem relog_ok {s t s1 t1:St} (h:Same F s1 t1) {ls:List (List LE)} (hw:∀L∈ls,Wd F L):Ok F s (qb5 s s1 ls) t (qb5 t t1 ls):=by
 have hs:∀u v:St,(qb5 u v ls).on=u.on/\(qb5 u v ls).heap=v.heap/\(qb5 u v ls).next=v.next/\(u.on=true->(qb5 u v ls).log=qfq ls []++u.log):=fun u v=>by
  unfold qb5;cases hu:u.on
  . exact⟨rfl,rfl,rfl,fun h=>by cases h⟩
  . exact⟨rfl,rfl,rfl,fun _=>qic ls u.log⟩
 obtain⟨a1,a2,a3,a4⟩:=hs s s1;obtain⟨b1,b2,b3,b4⟩:=hs t t1;refine⟨⟨by rw[a3,b3]; exact h.next,fun x hx=>by rw[a2,b2]; exact h.heap x hx,by rw[a2]; exact h.fs,by rw[b2]; exact h.ft,by rw[a3]; exact h.lt⟩,a1,b1,_,a4,b4,fun e he=>?_⟩;obtain⟨L,h1,h2⟩:=joinL_mem he;exact hw L h1 e h2
theorem loc_drawnC (pl:Plan) {f:DF} (hf:DFLoc F f):CFLoc F ⟨qjd pl f⟩:=fun self hs a=>by
 refine Loc.cond ?_ Loc.none;intro s r h;simp only[oI]at h;obtain⟨q,hq,h⟩:=h;have hq':f.run self a s=some q:=hq
 have key:∃e a',r=(e,a',qb5 s q.2.2.1 q.2.2.2)/\∀t t',qb9 pl a t (q.1,q.2.1,t',q.2.2.2)=some (e,a',qb5 t t' q.2.2.2):=by
  obtain⟨e,a1,s1,ls⟩:=q;cases e with
  | norm=>
   simp only[qb9]at h ⊢;cases hc:(qae ls pl.prs&&Nat.beq a1.defers.length a.defers.length)with
   | false=>rw[hc]at h; cases h
   | true=>
    rw[hc]at h;simp only[cT,oS]at h;exact⟨.norm,_,h.symm,fun _ _=>rfl⟩
  | pan v=>
   simp only[qb9]at h ⊢;cases hc:(qae ls pl.prs&&Nat.beq a1.defers.length a.defers.length)with
   | false=>rw[hc]at h; cases h
   | true=>
    rw[hc]at h;simp only[cT,oI,oS]at h;obtain⟨a2,hp,h⟩:=h;exact⟨.pan v,a2,h.symm,fun _ _=>by rw[hp]; rfl⟩
  | exit id=>simp[qb9]at h
  | ret=>simp[qb9]at h
 obtain⟨e,a',rfl,hend⟩:=key;intro t hA;obtain⟨t1,e1,A1,w1⟩:=hf self hs a s q hq' t hA;refine⟨qb5 t t1 q.2.2.2,?_,relog_ok A1 w1⟩;have e1':f.run self a t=some (q.1,q.2.1,t1,q.2.2.2):=e1;simp only[e1',oB];exact hend t t1
theorem loc_setX (x:X) (a:Ac) {l:Nat} (hb:l≠F.b) (o:O):LocX F fun s=>some (x,a,setO s l o):=Loc.of_eq (g:=fun s=>((fun s=>some (setO s l o)) s).bind fun s=>some (x,a,s)) (fun _=>rfl) (Loc.bindS (LocS.setO hb o) (LocX.ret _ _))
theorem loc_endLoop (l:Nat) (a:Ac):LocX F fun s=>endLoop l a s:=by
 unfold endLoop;refine Loc.bindGet l (fun _ _ _ _ _ _=>rfl) fun hb o=>?_;dsimp only;cases o<;>try exact Loc.none
 rename_i st pend tmps n params assign body;refine Loc.cond Loc.none ?_;cases pend with
 | none=>exact loc_setX _ _ hb _
 | some c=>cases c<;>first|exact Loc.none|exact loc_setX _ _ hb _
theorem loc_rangeCall {self:EV} (hs:EVLoc F self) (l:Nat) (a:Ac) (nx:Nx):LocX F fun s=>rangeCall self l a (nx.up s):=by
 cases nx<;>try exact Loc.none
 case enter f args s0=>
  refine Loc.bind (hs.1 f args) fun e=>?_;cases e with
  | ret v=>exact loc_endLoop l a
  | pan v=>exact LocX.ret _ _
theorem loc_rangeC (E:Env) (f:Operand) (params:List Nat) (assign body:Code):CFLoc F ⟨qdr E f params assign body⟩:=fun self hs a=>by
 show LocX F fun s=>qdr E f params assign body self a s;obtain⟨tm,nn,df,rd⟩:=a;unfold qdr;cases rd with
 | none=>
  dsimp only;refine Loc.opt fun fv=>?_
  have h2:LocP F fun s=>some (s.next,nw (nw s .defb) (.loop 0 none (qd6 params assign body tm) nn params assign body)):=
   Loc.of_eq (g:=fun s=>((fun s=>some (s.next,nw s .defb)) s).bind fun p=>((fun s=>some (s.next,nw s (.loop 0 none (qd6 params assign body tm) nn params assign body))) p.2).bind fun q=>some (p.1,q.2)) (fun _=>rfl)
    (Loc.bind (LocP.nw (fun k=>k) fun _=>.defb) fun k=>by
     dsimp only
     exact Loc.bind (LocP.nw (fun k=>k) fun _=>.loop 0 none (qd6 params assign body tm) nn params assign body) fun _=>by dsimp only; exact LocP.ret k)
  refine Loc.of_eq (g:=fun s=>((fun s=>some (s.next,nw (nw s .defb) (.loop 0 none (qd6 params assign body tm) nn params assign body))) s).bind fun p=>(qei E fv [.yield (p.1+1)] p.2).bind
   (rangeCall self (p.1+1) {tmps:=tm,n:=nn,defers:={mark:=some p.1,f:=.func 0,captured:=[],args:=[]}::df,round:=none})) (fun _=>rfl) ?_
  exact Loc.bind h2 fun k=>by dsimp only; exact Loc.bindN (loc_callV E fv _) fun nx=>loc_rangeCall hs _ _ nx
 | some l0=>
  dsimp only;refine Loc.bindGet l0 (fun _ _ _ _ _ _=>rfl) fun hb o=>?_;dsimp only;cases o<;>try exact Loc.none
  refine Loc.opt fun fv=>?_;refine Loc.of_eq (g:=fun s=>((fun s=>some (s.next,nw s (.loop 0 none (qd6 params assign body tm) nn params assign body))) s).bind fun p=>(qei E fv [.yield p.1] p.2).bind (rangeCall self p.1 {tmps:=tm,n:=nn,defers:=df,round:=some l0})) (fun _=>rfl) ?_;exact Loc.bind (LocP.nw (fun k=>k) fun _=>.loop 0 none (qd6 params assign body tm) nn params assign body) fun k=>by dsimp only; exact Loc.bindN (loc_callV E fv _) fun nx=>loc_rangeCall hs _ _ nx
theorem loc_loopC {x:CF} (hx:CFLoc F x):∀n,CFLoc F ⟨qie x n⟩
 | 0=>fun _ _ _=>Loc.none
 | n+1=>fun self hs a=>by
  refine Loc.bindX (hx self hs a) fun e a'=>?_;cases e with
  | norm=>exact loc_loopC hx n self hs a'
  | _=>exact LocX.ret _ _
theorem loc_comp (E:Env):∀c,CFLoc F (qd3 E c)
 | .skip=>loc_skip
 | .region _ ops false=>loc_opsL E ops _
 | .region _ ops true=>loc_drawnC _ (loc_opsD E ops _)
 | .seq x y=>loc_seqC (loc_comp E x) (loc_comp E y)
 | .cond c x y=>fun self hs a=>by
  refine Loc.opt fun v=>?_;cases v<;>try exact Loc.none
  exact Loc.cond (loc_comp E x self hs a) (loc_comp E y self hs a)
 | .block id x=>fun self hs a=>by
  refine Loc.bindX (loc_comp E x self hs a) fun e a'=>?_;cases e<;>exact LocX.ret _ _
 | .loop x=>loc_loopC (loc_comp E x) qa2
 | .rangeFunc f ps x y=>loc_rangeC E f ps.toList x y
 | .exit id=>fun _ _ _=>LocX.ret _ _
 | .scope x=>loc_comp E x
 | .label _=>loc_skip
 | .goto _=>fun _ _ _=>Loc.none
 | .ret=>fun _ _ _=>LocX.ret _ _
 | .refuse _=>fun _ _ _=>Loc.none
theorem loc_opsS (E:Env) {self:EV} (hs:EVLoc F self) (ops:Array Oper):∀(l:List Oper) (a:Ac) (m:Md),LocM F fun s=>opsS E self ops l a m s
 | [],a,m=>LocM.ret _ _ _
 | o::l,a,m=>by
  unfold opsS;refine Loc.cond (Loc.opt fun a'=>loc_opsS E hs ops l _ _) ?_;refine Loc.bindX (loc_op1 E ops o {self with r:=fun _ _ _=>none} ⟨hs.1,fun _ _=>Loc.none⟩ a) fun e a'=>?_;cases e with
  | norm=>exact loc_opsS E hs ops l a' m
  | _=>exact LocM.ret _ _ _
theorem loc_evS (E:Env) {self:EV} (hs:EVLoc F self):∀(d:Nat) (c:Code) (a:Ac) (m:Md),LocM F fun s=>evS E self d c a m s
 | 0,_,_,_=>Loc.none
 | d+1,c,a,m=>by
  have other:LocM F fun s=>((qd3 E c).run self a s).bind fun(x,a,s)=>some (x,a,m,s):=
   Loc.bindX (loc_comp E c self hs a) fun e a'=>LocM.ret _ _ _
  cases c<;>try exact other
  case seq x y=>
   refine Loc.bindM (loc_evS E hs d x a m) fun e a' m'=>?_;cases e with
   | norm=>exact loc_evS E hs d y a' m'
   | _=>exact LocM.ret _ _ _
  case cond c x y=>
   refine Loc.opt fun v=>?_;cases v<;>try exact Loc.none
   exact loc_evS E hs d _ a m
  case region id ops draw=>
   cases draw with
   | false=>exact loc_opsS E hs ops _ a m
   | true=>exact other
theorem loc_resultsV (E:Env) (a:Ac):∀l,LocP F fun s=>qap E a l s
 | []=>LocP.ret _
 | .tmp t::l=>by
  unfold qap;exact Loc.opt fun v=>Loc.bind (loc_resultsV E a l) fun vs=>by dsimp only; exact LocP.ret _
 | .cell t ty::l=>by
  unfold qap;refine Loc.opt fun v=>?_;cases v<;>try exact Loc.none
  refine Loc.bind (loc_loadV E ty _ _) fun u=>?_;dsimp only;exact Loc.bind (loc_resultsV E a l) fun vs=>by dsimp only; exact LocP.ret _
theorem loc_leaves (E:Env) {self:EV} (hs:EVLoc F self) (fn:Func) (a:Ac):∀(ds:List AD) (m:Md),LocP F fun s=>qba E self fn a ds m s
 | [],m=>by
  cases m with
  | ret=>exact Loc.bind (loc_resultsV E a _) fun vs=>by dsimp only; exact LocP.ret _
  | pan v=>exact LocP.ret _
  | got v=>exact Loc.none
 | d::ds,m=>by
  unfold qba;cases d.mark with
  | some r=>
   dsimp only;refine Loc.bindGet r (fun _ _ _ _ _ _=>rfl) fun hb o=>?_;dsimp only;cases o<;>try exact Loc.none
   exact Loc.of_eq (g:=fun s=>((fun s=>some (setO s r .dead)) s).bind fun s=>qba E self fn a ds m s) (fun _=>rfl) (Loc.bindS (LocS.setO hb .dead) (loc_leaves E hs fn a ds m))
  | none=>
  dsimp only;cases d.f<;>try exact Loc.none
  refine Loc.opt fun g=>Loc.opt fun c=>Loc.cond ?_ Loc.none;refine Loc.bindM (loc_evS E hs 50 c _ m) fun e a' m'=>?_;dsimp only;refine Loc.cond ?_ Loc.none;exact Loc.bind (loc_resultsV E a' _) fun vs=>by dsimp only; exact loc_leaves E hs fn a ds _
def KnLoc (F:Fz) (K:FuncId->Option KF):Prop:=∀f g,K f=some g->∀args,LocP F fun s=>g.run args s
theorem loc_stepF (E:Env) {K:FuncId->Option KF} (hK:KnLoc F K) {self:EV} (hs:EVLoc F self) (f:FuncId) (args:List V):LocP F fun s=>qj7 E K self f args s:=by
 unfold qj7 fnOf;cases hg:K f with
 | some g=>exact hK f g hg args
 | none=>
 cases hf:E.fns.get f with
 | none=>exact Loc.none
 | some fn=>
 cases hb:fn.body with
 | none=>simp only[oB,hb]; exact Loc.none
 | some c=>
 simp only[oB,hb];refine Loc.cond ?_ Loc.none;refine Loc.bindX (loc_comp E c self hs _) fun e a'=>?_;cases e with
 | norm=>exact loc_leaves E hs fn a' a'.defers .ret
 | ret=>exact loc_leaves E hs fn a' a'.defers .ret
 | pan v=>exact loc_leaves E hs fn a' a'.defers (.pan v)
 | exit id=>exact Loc.none
theorem loc_endRound (l st:Nat) (pend:Option Code) (back:Bool):LocP F fun s=>endRound l st pend back s:=by
 unfold endRound;refine Loc.bindGet l (fun _ _ _ _ _ _=>rfl) fun hb o=>?_;dsimp only;cases o<;>try exact Loc.none
 exact loc_setRet hb _ _
theorem loc_roundEnd (l:Nat) (x:X) (a:Ac):LocP F fun s=>qd1 l (x,a,s):=by
 unfold qd1;dsimp only;refine Loc.cond ?_ Loc.none;cases x with
 | norm=>exact loc_endRound _ _ _ _
 | ret=>exact loc_endRound _ _ _ _
 | exit id=>exact loc_endRound _ _ _ _
 | pan v=>exact Loc.none
theorem loc_roundBody (E:Env) {self:EV} (hs:EVLoc F self) (l:Nat) (body:Code) (x:X) (a:Ac):LocP F fun s=>qdh E self l body (x,a,s):=by
 unfold qdh;cases x<;>try exact Loc.none
 dsimp only;refine Loc.bindGet l (fun _ _ _ _ _ _=>rfl) fun hb o=>?_;dsimp only;cases o<;>try exact Loc.none
 rename_i st pend tmps n params assign body';refine Loc.cond ?_ Loc.none;refine Loc.of_eq (g:=fun s=>((fun s=>some (setO s l (.loop 2 pend tmps n params assign body'))) s).bind fun s=>((qd3 E body).run self a s).bind (qd1 l)) (fun _=>rfl) ?_;exact Loc.bindS (LocS.setO hb _) (Loc.bindX (loc_comp E body self hs a) fun e a'=>loc_roundEnd l e a')
theorem loc_stepR (E:Env) {self:EV} (hs:EVLoc F self) (l:Nat) (args:List V):LocP F fun s=>stepR E self l args s:=by
 unfold stepR;refine Loc.bindGet l (fun _ _ _ _ _ _=>rfl) fun hb o=>?_;dsimp only;cases o<;>try exact Loc.none
 refine Loc.opt fun t=>?_;exact Loc.bindX (loc_comp E _ self hs _) fun e a'=>loc_roundBody E hs l _ e a'
theorem loc_ev (E:Env) {K:FuncId->Option KF} (hK:KnLoc F K):∀n,EVLoc F (ev E K n)
 | 0=>⟨fun _ _=>Loc.none,fun _ _=>Loc.none⟩
 | n+1=>⟨fun f args=>loc_stepF E hK (loc_ev E hK n) f args,fun l args=>loc_stepR E (loc_ev E hK n) l args⟩
theorem knLoc_nil:KnLoc F (fun _=>Option.none):=fun _ _ h=>by cases h
theorem KnLoc.add {K:FuncId->Option KF} (h:KnLoc F K) (f:FuncId) {g:KF} (hg:∀args,LocP F fun s=>g.run args s):KnLoc F (knAdd K f g):=fun x y hx=>by
 unfold knAdd at hx;cases hb:Nat.beq x f with
 | true=>
  rw[hb]at hx;simp only[cT,oS]at hx;subst hx;exact hg
 | false=>rw[hb]at hx; exact h x y hx
theorem ev_log {E:Env} {K:FuncId->Option KF} (hK:KnLoc F K) (hL:Lg.KnLoc K) {n:Nat} {f:FuncId} {args:List V} {s t u:St} {e:En} {r:En×St} (hA:Same F s t) (h:(ev E K n).f f args s=some r) (ht:(ev E K n).f f args t=some (e,u)):∃L,(ev E K n).f f args (t.lg [])=some (e,u.lg L)/\Wd F L:=by
 obtain⟨L,h1⟩:=Lg.ev_lg hL ht [];obtain⟨t',h2,h3⟩:=(loc_ev E hK n).1 f args s r h (t.lg []) ⟨hA.next,hA.heap,hA.fs,hA.ft,hA.lt⟩;refine⟨L,h1,?_⟩;have e1:upP r t'=(e,u.lg L):=Option.some.inj (h2.symm.trans h1);have e2:t'=u.lg L:=(Prod.mk.inj e1).2;obtain⟨d,_,l2,l3⟩:=h3.log;have:=l2 rfl;rw[e2]at this
 have hd:L=d:=by
  have h':L=d++[]:=this;rw[List.append_nil]at h';exact h'
 rw[hd]; exact l3
end Go.Proofs.YtafbipadnnmccaaDoor.Ev.Fz
namespace Go.Proofs.YtafbipadnnmccaaDoor.Ev
open Go.RowKit Go.Maps Go.Sort Go.Shelf Go.Proofs
section
end
section
variable {P:Program} {E:Env} {w0:Base} {ρ:Rho} {s:St} {w w':World}
end
end Go.Proofs.YtafbipadnnmccaaDoor.Ev
namespace Go.Proofs.YtafbipadnnmccaaDoor.Ev
open Go.Shelf Go.RowKit Go.Proofs
variable {P:Program} {ρ:Ren}
section
variable {E:Env} {w0:Base} {ρ:Rho} {s:St} {w:World}
end
end Go.Proofs.YtafbipadnnmccaaDoor.Ev
namespace Go.Proofs.YtafbipadnnmccaaDoor.Ev
open Go.Shelf Go.RowKit Go.Proofs
variable {P:Program} {ρ:Ren}
end Go.Proofs.YtafbipadnnmccaaDoor.Ev
namespace Go.Proofs.YtafbipadnnmccaaDoor.Ev
open Go.Shelf Go.RowKit Go.Proofs
section
variable {P:Program} {E:Env} {w0:Base} {ρ:Rho} {s:St} {w:World}
end
end Go.Proofs.YtafbipadnnmccaaDoor.Ev
