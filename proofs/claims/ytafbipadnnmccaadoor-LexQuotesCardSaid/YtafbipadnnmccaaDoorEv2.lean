/-
  THE EVALUATOR AND ITS SOUNDNESS: what it says of a call holds of the call in the model,in whatever world,on whatever tape,part 2 of 3 (no condition).
-/
import Derived.Test.YtafbipadnnmccaaDoorEv1
import Derived.Laws.BytesString
import Derived.Lib.Bytealg
import Derived.Lib.UnsafeStr
import Derived.Orders
import Derived.OrdersIn
import Derived.RangeFuncRecord
noncomputable section
namespace Go.Proofs.YtafbipadnnmccaaDoor.Ev
open Go.RowKit
section
variable {P:Program} {E:Env} {w0:Base} {ρ:Rho} {s:St} {w:World} {a:Ac} {ca:Act}
theorem copyAt_sim (hE:EnvOk P E) (hR:Rel E w0 ρ s w) {t ty elem:TypeId} {ts:List TypeId} {size:Nat} {x y:V} {cx cy:Value} {nx:Nx}
 (ht:und E t=some (.slice elem)) (hsz:sizeT E elem=some size) (hx:VRel ρ x cx) (hy:VRel ρ y cy) (h:copyAt size x y s=some nx) :
 qb5 P E w0 ρ (do pure (Next.value (<- Builtin.copy_ (t::ts).toArray ty #[cx,cy]))) w nx:=by
 unfold copyAt at h;simp only[oI,Prod.exists]at h;obtain⟨m,hm,k,hk,l,s1,hl,h⟩:=h;obtain⟨cl,hf,he,hll,hs1⟩:=qf3 (P:=P) hR hy hk (Nat.min_le_left k m) hl;have hR1:=hR.same hs1;have hlen:=lenV_sim (P:=P) (w:=w) hy hk;have hclen:=he.length;rw[hll]at hclen
 have fin:∀{base:Option Addr} {cap:Nat} {w':World} {s':St},(match base with|some ad=>storeCells ad cl|none=>(pure ():Sem Unit)).run P w=.ok () w'->Rel E w0 ρ s' w'->
  qb5 P E w0 ρ (do pure (Next.value (<- Builtin.copy_ (t::ts).toArray ty #[.slice base m cap,cy]))) w (.val (.int .i64 (.ofNat (Nat.min k m))) s'):=by
  intro base cap w' s' hst hR';refine qaj (cv:=goInt (Nat.min k m)) ?_ (Rho.le_refl ρ) (.int _ _) hR';unfold Builtin.copy_;have e0:(t::ts).toArray[0]?=some t:=by simp
  simp only[e0,show(#[Value.slice base m cap,cy]:Array Value)[0]?=some (.slice base m cap)from rfl,show(#[Value.slice base m cap,cy]:Array Value)[1]?=some cy from rfl];rw[qa0 (qal hE ht w)];simp only[];rw[qa0 hlen,qa0 (qap hE hsz w),qa0 (hf w.drawn)];cases base with
  | none=>simp only[Sem.run_pure,Result.ok.injEq,true_and]at hst; subst hst; rfl
  | some ad=>simp only at hst ⊢; rw[qa0 hst]; rfl
 have empty:m=0->cl=[]/\l=[]:=fun h0=>by
  have:Nat.min k m=0:=by subst h0; exact Nat.min_zero k
  exact⟨List.eq_nil_of_length_eq_zero (by rw[hclen,show min k m=0 from this]; simp),List.eq_nil_of_length_eq_zero (by rw[hll]; exact this)⟩
 unfold qin at h;cases hx<;>simp only[lenV,oS,reduceCtorEq]at hm
 case str=>cases h
 case list=>cases h
 case nilslice=>
  simp only[oS]at h;subst h; subst hm;exact fin (base:=none) rfl hR1
 case eslice ad cap=>
  simp only[oS]at h;subst h; subst hm;obtain⟨hc0,_⟩:=empty rfl;exact fin (base:=some ad) (by rw[hc0]; rfl) hR1
 case slice b off len cap cb sh sz ad hρ hl' ha=>
  subst hm;simp only[oI,oS]at h;obtain⟨s2,hst,rfl⟩:=h;rcases Nat.eq_zero_or_pos cap with h0|h0
  . obtain⟨hc0,hl0⟩:=empty (by omega)
    rw[hl0]at hst;simp only[stN,oS]at hst;subst hst;exact fin (base:=some ad) (by rw[hc0]; rfl) hR1
  . obtain⟨w',hr,hR'⟩:=stN_sim (P:=P) hρ (sh+off) l cl off 0 s1 s2 w hR1 he hst (by omega)
    have had:=ha (by omega);subst had;exact fin (base:=some ⟨cb,sh+off,none⟩) hr hR'
 case oslice b off len z cap cb sh sz ad hρ hl' hz hcap ha=>
  subst hm;simp only[oI,oS]at h;obtain⟨s2,hst,rfl⟩:=h;rcases Nat.eq_zero_or_pos cap with h0|h0
  . obtain⟨hc0,hl0⟩:=empty (by omega)
    rw[hl0]at hst;simp only[stN,oS]at hst;subst hst;exact fin (base:=some ad) (by rw[hc0]; rfl) hR1
  . obtain⟨w',hr,hR'⟩:=stN_sim (P:=P) hρ (sh+off) l cl off 0 s1 s2 w hR1 he hst (by omega)
    have had:=ha (by omega);subst had;exact fin (base:=some ⟨cb,sh+off,none⟩) hr hR'
theorem bCopy_sim (hE:EnvOk P E) (hR:Rel E w0 ρ s w) (hA:ARel ρ a ca) {t ty:TypeId} {ts:List TypeId} {x y:Operand} {nx:Nx} (h:bCopy E t x y a s=some nx) :
 qb5 P E w0 ρ (do pure (Next.value (<- Builtin.copy_ (t::ts).toArray ty #[ca.eval x,ca.eval y]))) w nx:=by
 unfold bCopy at h;simp only[oI,Prod.exists]at h;obtain⟨e,size,bytes,hq,vx,hx,vy,hy,h⟩:=h;obtain⟨h1,h2,h3⟩:=qel hq;exact copyAt_sim hE hR h1 h2 (qa7 hR hA hx) (qa7 hR hA hy) h
theorem packV_ok:∀{l:List (Tr V)} {cl:List Value} {q:Nat×Nat},ERels ρ 1 l cl->qdw l=some q->∃bs:List UInt8,cl=bs.map (fun b=>Value.int .u8 (b.toNat:Int))/\q.1=bs.length/\q.2=qb0 bs
 | [],cl,q,he,h=>by
  cases he;simp only[qdw,oS]at h;subst h;exact⟨[],rfl,rfl,rfl⟩
 | t::l,cl,q,he,h=>by
  cases he with
  | @cons _ c _ cl' hc r=>
  simp only[qdw,oI,oS]at h;obtain⟨v,hv,m,hm,p,hp,rfl⟩:=h;obtain⟨bs,rfl,h1,h2⟩:=packV_ok r hp
  obtain⟨cv,rfl⟩:∃cv,c=[cv]:=by
   have:=hc.len
   match c,this with
   | [cv],_=>exact⟨cv,rfl⟩
  have hrel:=hc.rel 0 v hv cv (by simp)
  have hm':v=.int .u8 (.ofNat m)/\m<256:=by
   cases v<;>try (simp only[byteOf,reduceCtorEq]at hm; done)
   rename_i kk nn;cases kk<;>cases nn<;>simp only[byteOf,reduceCtorEq]at hm;rename_i mm;cases hc:Nat.blt mm 256 with
   | false=>rw[hc]at hm; cases hm
   | true=>
    rw[hc]at hm;simp only[cT,oS]at hm;subst hm;exact⟨rfl,blt_true.1 hc⟩
  obtain⟨rfl,hlt⟩:=hm';cases hrel;have hb:(UInt8.ofNat m).toNat=m:=by simp; omega
  refine⟨UInt8.ofNat m::bs,?_,by simp[h1],by simp[qb0,hb,h2]⟩;simp only[List.map_cons,hb,List.singleton_append];rfl
theorem foldl_push (bs:List UInt8):∀r:ByteArray,((bs.map fun b=>(b.toNat:Int)).foldl (fun(r:ByteArray) (n:Int)=>r.push (UInt8.ofNat n.toNat)) r).data.toList=r.data.toList++bs:=by
 induction bs with
 | nil=>intro r; simp
 | cons b bs ih=>
  intro r;simp only[List.map_cons,List.foldl_cons];rw[ih];simp
theorem push_modify (w:World) (cs:Array Value) (e:TypeId):({w with heap:=w.heap.push (.cells cs e)}:World).freeze {block:=w.heap.size,off:=cs.size} 1={w with heap:=w.heap.push (.cells cs e (cs.size,cs.size+1))}:=by
 unfold World.freeze;simp only[Nat.one_ne_zero,if_false]
 congr 1
 apply Array.ext_getElem?;intro i;rw[Array.getElem?_modify,Array.getElem?_push,Array.getElem?_push];by_cases h:w.heap.size=i
 . subst h; simp
 . rw[iN h,iN (fun h'=>h h'.symm),iN (fun h'=>h h'.symm)]
theorem qng {s':St} {b off n:Nat} {v:V} (h:qb4 s b off n=some (v,s')) :
 ∃e m ro t,s.heap.get b=some (.cells e 1 m ro (.all t))/\off+n<=m/\m<big/\t.get 0=some (.int .u8 (.ofNat 0))/\v=.str n 0/\s'=s.note b off (off+n) false:=by
 unfold qb4 at h;split at h
 . rename_i e esz m ro c hb
   cases hc:(Nat.beq esz 1&&Nat.ble (off+n) m&&Nat.blt m big&&Nat.blt 0 n&&qfh c)with
   | false=>rw[hc]at h; cases h
   | true=>
    rw[hc]at h;simp only[bA,beq_true,ble_true,blt_true]at hc;obtain⟨⟨⟨⟨rfl,h1⟩,h2⟩,_⟩,h3⟩:=hc;simp only[cT,oS,pM]at h;unfold qfh at h3;split at h3
    . rename_i t
      split at h3
      . rename_i mm hm
        have:=Nat.eq_of_beq_eq_true h3;subst this;exact⟨e,m,ro,t,hb,h1,h2,hm,h.1.symm,h.2.symm⟩
      . cases h3
    . cases h3
 . cases h
theorem ldN_all {b:Nat} {e:TypeId} {m:Nat} {ro:Bool} {t:Tr V} (hm:m<big):∀(n off:Nat) (s:St),s.heap.get b=some (.cells e 1 m ro (.all t))->off+n<=m->∃s1,ldN b 1 n off s=some (List.replicate n t,s1)
 | 0,off,s,_,_=>⟨s,rfl⟩
 | n+1,off,s,hb,hle=>by
  have hk:ldK s b off 1=some (t,s.note b off (off+1) false):=by
   unfold ldK;rw[hb];simp only[Nat.one_mul];rw[ble_true.2 (show off+1<=m by omega),blt_true.2 hm];simp only[Bool.and_self,cT]
   have:qg1 (.all t) 1 off 1=some t:=by
    unfold qg1;rw[Nat.beq_refl,Nat.mod_one];rfl
   rw[this]; rfl
  obtain⟨s1,h1⟩:=ldN_all hm n (off+1) (s.note b off (off+1) false) (by rw[qam]; exact hb) (by omega);exact⟨s1,by simp only[ldN,hk,oB,h1,List.replicate_succ]⟩
theorem qmn {t:Tr V} (ht:t.get 0=some (.int .u8 (.ofNat 0))):∀n,qdw (List.replicate n t)=some (n,0)
 | 0=>rfl
 | n+1=>by simp only[List.replicate_succ,qdw,ht,oB,byteOf,qmn ht n]; rfl
theorem rowAt_lift {p:Program} {fits:TypeId->Bool}:∀{d:Nat} {e count off r:Nat},rowAt p fits d e 1 r 1=true->r<p.cellsOf e->off%p.cellsOf e=r->off/p.cellsOf e<count->rowAt p fits d e count off 1=true
 | 0,_,_,_,_,h,_,_,_=>by simp[rowAt]at h
 | d+1,e,count,off,r,h,hr,ho,hc=>by
  have hs:¬p.cellsOf e=0:=by omega
  have h0:r/p.cellsOf e=0:=Nat.div_eq_of_lt hr;have h1:r%p.cellsOf e=r:=Nat.mod_eq_of_lt hr;simp only[rowAt,iN hs,h0,h1]at h;simp only[rowAt,iN hs,ho];simp only[Bool.or_eq_true,bA,decide_eq_true_eq]at h ⊢;rcases h with⟨⟨h,_⟩,h2⟩|⟨_,h⟩
  . exact .inl ⟨⟨h,hc⟩,h2⟩
  . exact .inr ⟨hc,h⟩
theorem liesAt_of {p:Program} {d e count off u n:Nat} (hd:0<d) (h:rowAt p (sameLayout p p.depth · u) p.depth e count off n=true):liesAt p d e count off u n=true:=by
 obtain⟨d,rfl⟩:∃d',d=d'+1:=⟨d-1,by omega⟩
 simp only[liesAt,h,Bool.true_or]
theorem lieIn_mem {e r u:Nat}:∀{l:List (Nat×Nat×Nat)},qkm e r u l=true->(e,r,u)∈l
 | [],h=>by simp[qkm]at h
 | p::l,h=>by
  simp only[qkm,Bool.or_eq_true,bA,beq_true]at h;rcases h with⟨h1,h2,h3⟩|h
  . rw[<- h1,<- h2,<- h3]; exact List.mem_cons_self ..
  . exact mO _ (lieIn_mem h)
theorem cellsOf_ok (hE:EnvOk P E) {t:TypeId} {n:Nat} (h:sizeT E t=some n):P.cellsOf t=n:=by
 unfold sizeT at h;simp only[oI,oS]at h;obtain⟨i,hi,rfl⟩:=h;simp[Program.cellsOf,hE.tys t i hi]
theorem ql8 {cb:Nat} {cs:Array Value} {e:TypeId} {fr:Nat×Nat} (h:w.heap[cb]?=some (.cells cs e fr)):w.shape? cb=some (e,cs.size):=by
 unfold World.shape?; rw[h]
theorem run_seenAt {cb o:Nat} {cs:Array Value} {e:TypeId} {fr:Nat×Nat} (h:w.heap[cb]?=some (.cells cs e fr)):(Conv.seenAt ⟨cb,o,none⟩).run P w=.ok ⟨cb,o,none⟩ w:=by
 simp[Conv.seenAt,viewAt,Sem.run_bind,run_shape,ql8 h]
theorem run_cellsIn {cb:Nat} {cs:Array Value} {e:TypeId} {fr:Nat×Nat} (h:w.heap[cb]?=some (.cells cs e fr)):(cellsIn cb).run P w=.ok (some cs.size) w:=by
 simp[cellsIn,Sem.run_bind,run_shape,ql8 h]
theorem qgy {cb o:Nat} {cs:Array Value} {e u:TypeId} {fr:Nat×Nat} (n:Nat) (h:w.heap[cb]?=some (.cells cs e fr)):(variablesAt ⟨cb,o,none⟩ u n).run P w=.ok (liesAt P P.depth e (cs.size/P.cellsOf e) o u n) w:=by
 simp[variablesAt,Sem.run_bind,run_shape,run_program,ql8 h]
theorem liesV_sim (hE:EnvOk P E) (hR:Rel E w0 ρ s w) {u:TypeId} {b off cb sh sz:Nat} (hρ:ρ b=some (cb,sh,sz)) {s':St} (h:liesV E u b off s=some s') :
 ∃cs e fr,w.heap[cb]?=some (.cells cs e fr)/\sh+off<cs.size/\liesAt P P.depth e (cs.size/P.cellsOf e) (sh+off) u 1=true/\Rel E w0 ρ s' w:=by
 unfold liesV at h;split at h
 . rename_i e esz m ro c hb
   simp only[oI]at h;obtain⟨z,hz,h⟩:=h;cases hc:(Nat.beq z esz&&Nat.blt off (esz*m)&&Nat.blt (esz*m) big&&qkm e (off%esz) u E.lie)with
   | false=>rw[hc]at h; cases h
   | true=>
    rw[hc]at h;simp only[cT,oS]at h;subst h;simp only[bA,beq_true,blt_true]at hc;obtain⟨⟨⟨rfl,hlt⟩,_⟩,hli⟩:=hc;obtain⟨cs,fr,hcr⟩:=qb1 hR hb hρ;have hroom:=hcr.room;have hsz:=hcr.size
    have hzp:0<z:=by
     rcases Nat.eq_zero_or_pos z with h0|h0
     . rw[h0]at hlt; simp at hlt
     . exact h0
    have hcz:=cellsOf_ok hE hz;refine⟨cs,e,fr,hcr.heap,by omega,liesAt_of hE.depth (rowAt_lift (hE.lie _ (lieIn_mem hli)) ?_ ?_ ?_),hR.note ..⟩
    . rw[hcz]; exact Nat.mod_lt _ hzp
    . rw[hcz,Nat.add_mod,hcr.al,Nat.zero_add,Nat.mod_mod]
    . rw[hcz]
      have hq:=Nat.div_add_mod sh z;rw[hcr.al,Nat.add_zero]at hq;have e1:(sh+off)/z<sh/z+m:=(Nat.div_lt_iff_lt_mul hzp).2 (by rw[Nat.add_mul,Nat.mul_comm (sh/z) z,hq,Nat.mul_comm m z]; omega);have e2:sh/z+m<=cs.size/z:=(Nat.le_div_iff_mul_le hzp).2 (by rw[Nat.add_mul,Nat.mul_comm (sh/z) z,hq,Nat.mul_comm m z]; omega);omega
 . cases h
theorem unsafeV_sim (hE:EnvOk P E) (hR:Rel E w0 ρ s w) {src dst:TypeId} {ds dd:TypeDesc} (hds:und E src=some ds) (hdd:und E dst=some dd) {x v:V} {cx:Value} {s':St} (hx:VRel ρ x cx) (h:qid E ds dd x s=some (v,s')) :
 (convert src dst cx).run P w=.ok cx w/\VRel ρ v cx/\Rel E w0 ρ s' w:=by
 have hrs:=fun w=>qal hE hds w;have hrd:=fun w=>qal hE hdd w;unfold qid at h;cases x<;>simp only[reduceCtorEq]at h;rename_i b off;cases hx with
 | @ptr _ _ cb sh sz hρ=>
 cases hu:qcr dd with
 | true=>
  rw[hu]at h;have hdu:dd=.unsafePointer:=by cases dd<;>simp[qcr]at hu; rfl
  subst hdu;simp only[cT,oI]at h;obtain⟨t,ht,z,hz,h⟩:=h
  have hdt:ds=.pointer t:=by
   cases ds<;>simp[isPtrT]at ht;rw[ht]
  subst hdt;rcases qad z 0 with⟨h0,e0⟩|⟨h0,e0⟩
  . rw[h0]at h; cases h
  rw[h0]at h;simp only[cF,oI,oS,pM]at h;obtain⟨s1,hl,rfl,rfl⟩:=h;obtain⟨cs,e,fr,hheap,hlt,hlie,hR'⟩:=liesV_sim hE hR hρ hl;refine⟨?_,.ptr hρ,hR'⟩;unfold convert;rw[qa0 (hrs w),qa0 (hrd w)];show(Conv.unsafePointer src dst _).run P w=_;unfold Conv.unsafePointer;rw[qa0 (hrs w),qa0 (hrd w)];simp only[];rw[qa0 (run_seenAt hheap),qa0 (run_cellsIn hheap)];simp only[];rw[qa0 (qap hE hz w)];have h1:¬(sh+off≥cs.size):=by omega
  simp[e0,h1]
 | false=>
  rw[hu]at h;simp only[cF]at h;cases hu2:qcr ds with
  | false=>rw[hu2]at h; cases h
  | true=>
   rw[hu2]at h;have hdu:ds=.unsafePointer:=by cases ds<;>simp[qcr]at hu2; rfl
   subst hdu;simp only[cT,oI,oS,pM]at h;obtain⟨t,ht,z,hz,s1,hl,rfl,rfl⟩:=h
   have hdt:dd=.pointer t:=by
    cases dd<;>simp[isPtrT]at ht;rw[ht]
   subst hdt;obtain⟨cs,e,fr,hheap,hlt,hlie,hR'⟩:=liesV_sim hE hR hρ hl;refine⟨?_,.ptr hρ,hR'⟩;unfold convert;rw[qa0 (hrs w),qa0 (hrd w)];show(Conv.unsafePointer src dst _).run P w=_;unfold Conv.unsafePointer;rw[qa0 (hrs w),qa0 (hrd w)];simp only[];rw[qa0 (run_seenAt hheap),qa0 (qap hE hz w),qa0 (qgy 1 hheap),hlie];simp
theorem free_mark {fr:Nat×Nat} {lo sz:Nat} (h:Free fr lo sz):Free (if fr.1==fr.2 then(sz,sz+1)else(min fr.1 sz,max fr.2 (sz+1))) lo sz:=by
 unfold Free at h ⊢;by_cases e:fr.1=fr.2
 . simp[e]
 . have:(fr.1==fr.2)=false:=by simp[e]
   rw[this];simp only[Bool.false_eq_true,if_false];omega
theorem sameV_sim (hR:Rel E w0 ρ s w) {b cb sh sz:Nat} (hρ:ρ b=some (cb,sh,sz)) {s':St} (h:sameV s b=some s') (o:Nat):∃w',(markStringish ⟨cb,o,none⟩).run P w=.ok () w'/\Rel E w0 ρ s' w':=by
 unfold sameV at h;split at h
 . rename_i e esz m c hb
   simp only[oS]at h;subst h;obtain⟨cs,fr,hcr⟩:=qb1 hR hb hρ;obtain⟨hB,hfree⟩:=hcr.own rfl
   have hlt:cb<w.heap.size:=by
    rcases Nat.lt_or_ge cb w.heap.size with h|h
    . exact h
    . have:=hcr.heap; rw[Array.getElem?_eq_none h]at this; cases this
   have hu:Upd w cb (.cells cs e (if fr.1==fr.2 then(cs.size,cs.size+1)else(min fr.1 cs.size,max fr.2 (cs.size+1)))) (w.freeze ⟨cb,cs.size,none⟩ 1):=by
    unfold World.freeze;simp only[Nat.one_ne_zero,if_false];refine⟨?_,fun j hj=>?_,by simp,rfl,rfl,rfl⟩
    . show(w.heap.modify cb _)[cb]?=_
      rw[Array.getElem?_modify,iP rfl,hcr.heap];rfl
    . show(w.heap.modify cb _)[j]?=_
      rw[Array.getElem?_modify,iN (fun h=>hj h.symm)]
   refine⟨w.freeze ⟨cb,cs.size,none⟩ 1,by simp[markStringish,Sem.run_bind,run_shape,ql8 hcr.heap,run_freeze],?_⟩;have hb':(s.note b 0 big true).heap.get b=some (.cells e esz m false c):=by rw[qam]; exact hb
   refine(hR.note b 0 big true).write hb' rfl hρ hu ⟨cb,sh,sz,cs,_,hρ,hu.hit,hcr.size,hcr.room,hcr.al,hcr.old,fun _=>⟨hB,?_⟩,hcr.one,hcr.cell⟩;rw[hcr.size];exact free_mark hfree
 . cases h
theorem convertV_sim (hE:EnvOk P E) (hR:Rel E w0 ρ s w) {src dst:TypeId} {x v:V} {cx:Value} {s':St} (hx:VRel ρ x cx) (h:qc2 E src dst x s=some (v,s')) :
 ∃ρ' cv w',(convert src dst cx).run P w=.ok cv w'/\ρ.le ρ'/\VRel ρ' v cv/\Rel E w0 ρ' s' w':=by
 unfold qc2 at h;simp only[oI]at h;obtain⟨ds,hds,dd,hdd,h⟩:=h;have hrs:=fun w=>qal hE hds w;have hrd:=fun w=>qal hE hdd w;cases hun:(qcr ds||qcr dd)with
 | true=>
  rw[hun]at h;obtain⟨h1,h2,h3⟩:=unsafeV_sim hE hR hds hdd hx h;exact⟨ρ,cx,w,h1,Rho.le_refl ρ,h2,h3⟩
 | false=>
 rw[hun]at h;clear hun;simp only[cF]at h;split at h
 . rename_i k k' n
   simp only[oS,pM]at h;obtain⟨rfl,rfl⟩:=h;cases hx;refine⟨ρ,.int k (k.wrap n),w,?_,Rho.le_refl ρ,by rw[qbt]; exact .int _ _,hR⟩;unfold convert;rw[qa0 (hrs w),qa0 (hrd w)];cases ds<;>rfl
 . simp only[oS,pM]at h
   obtain⟨rfl,rfl⟩:=h;cases hx with
   | str str=>
   refine⟨ρ,.string str,w,?_,Rho.le_refl ρ,.str str,hR⟩;unfold convert;rw[qa0 (hrs w),qa0 (hrd w)];cases ds<;>rfl
 . rename_i k n
   simp only[oS,pM]at h;obtain⟨rfl,rfl⟩:=h;cases hx;refine⟨ρ,.string (Utf8.encode n),w,?_,Rho.le_refl ρ,.str _,hR⟩;unfold convert;rw[qa0 (hrs w),qa0 (hrd w)];cases ds<;>rfl
 . rename_i e l n
   simp only[oI]at h;obtain⟨de,hde,h⟩:=h
   have hu8:de=.int .u8/\v=.oslice s.next 0 l 1/\s'=qan s e 1 (qex l n):=by
    split at h
    . simp only[oS,pM]at h; exact⟨rfl,h.1.symm,h.2.symm⟩
    . cases h
   obtain⟨rfl,rfl,rfl⟩:=hu8;cases hx with
   | str str=>
   rw[qjy]
   have hel:(str.data.map fun b=>Value.int .u8 (b.toNat:Int))=(str.data.toList.map fun b=>Value.int .u8 (b.toNat:Int)).toArray:=by
    apply Array.ext'; simp
   let cap:=(Question.appendCap str.size 0 e).cut (w.tape w.drawn (.appendCap str.size 0 e))
   have hcap:str.size<=cap:=Nat.le_add_right _ _;have hsz:str.size=str.data.toList.length:=by simp
   let rest:List Value:=List.replicate (cap-str.size) (.int .u8 0)
   let cl:List Value:=str.data.toList.map fun b=>Value.int .u8 (b.toNat:Int)
   have hlen:(cl++rest).length=cap:=by simp only[cl,rest,lAq,lM,List.length_replicate]; omega
   obtain⟨hle,hR'⟩:=qee (elem:=e) (hR.drew (w.drawn+1)) (byteC_rel (ρ:=ρ) str.data.toList) ((cl++rest).length,(cl++rest).length+1) rest (.inr (lR _));refine⟨_,.slice (some ⟨w.heap.size,0,none⟩) str.size cap,_,?_,hle,?_,hR'⟩
   . unfold convert
     rw[qa0 (hrs w),qa0 (hrd w)]
     have hin:((do
      match <- underlying e with
      | .int .u8=>Conv.stringToBytes e str
      | .int .i32=>Conv.stringToRunes e str
      | _ => stuck "Convert: string to a slice of what?") : Sem Value).run P w = .ok (.slice (some ⟨w.heap.size, 0, none⟩) str.size cap)
       {w with drawn:=w.drawn+1,heap:=w.heap.push (.cells (cl++rest).toArray e ((cl++rest).length,(cl++rest).length+1))}:=by
      rw[qa0 (qal hE hde w)];show(Conv.stringToBytes e str).run P w=_;unfold Conv.stringToBytes;rw[qa0 (show(choose (.appendCap str.size 0 e)).run P w=.ok cap {w with drawn:=w.drawn+1} by simp[Question.forced,cap])]
      have harr:(str.data.map fun b=>Value.int .u8 (b.toNat:Int))++Array.replicate (cap-str.size) (.int .u8 0)=(cl++rest).toArray:=by
       apply Array.ext'; simp[cl,rest]
      simp only[harr];rw[qa0 (show(newRow e (cl++rest).toArray).run P {w with drawn:=w.drawn+1}=.ok ⟨w.heap.size,0,none⟩ {w with drawn:=w.drawn+1,heap:=w.heap.push (.cells (cl++rest).toArray e)}from rfl)]
      have hsh:({w with drawn:=w.drawn+1,heap:=w.heap.push (.cells (cl++rest).toArray e)}:World).shape? w.heap.size=some (e,(cl++rest).toArray.size):=by
       show(match(w.heap.push (Obj.cells (cl++rest).toArray e))[w.heap.size]? with|some (.cells c elem _)=>some (elem,c.size)|_=>none)=_;rw[Array.getElem?_push,iP rfl]
      have hpm:=push_modify {w with drawn:=w.drawn+1} (cl++rest).toArray e;simp only[markStringish,Sem.run_bind,run_shape,Result.andThen_ok,hsh,run_freeze,Sem.run_pure];rw[hpm];simp
     cases ds<;>exact hin
   . exact .oslice (sh:=0) Rho.add_same (by omega) (by omega) (by rw[hlen]; omega) fun _=>rfl
 . -- a slice of bytes asg it is
   rename_i e b off l c;cases hsd:(Nat.beq src dst&&Nat.blt 0 c)with
   | false=>rw[hsd]at h; cases h
   | true=>
   rw[hsd]at h;simp only[bA,beq_true,blt_true]at hsd;obtain⟨rfl,hcp⟩:=hsd;have hdse:ds=.slice e:=by rw[hds]at hdd; simpa using hdd
   subst hdse;simp only[cT,oI]at h;obtain⟨de,hde,h⟩:=h;split at h
   case h_2=>cases h
   simp only[oI,oS,pM]at h;obtain⟨s1,hs1,rfl,rfl⟩:=h;cases hx with
   | slice hρ hl ha=>
   have had:=ha (by omega);subst had;obtain⟨w',hrun,hR'⟩:=sameV_sim (P:=P) hR hρ hs1 _;refine⟨ρ,_,w',?_,Rho.le_refl ρ,.slice hρ hl fun _=>rfl,hR'⟩;unfold convert;rw[qa0 (hrs w),qa0 (hrd w)];simp only[beq_self_eq_true];rw[qa0 (qal hE hde w)];simp only[];rw[qa0 hrun];rfl
 . rename_i hni hns hsi
   split at h
   . rename_i e
     simp only[oI]at h;obtain⟨de,hde,h⟩:=h;split at h
     . simp only[oI]at h
       obtain⟨n,hn,h⟩:=h;have hne:∀l m,x≠.str l m:=fun l m e=>hns l m e
       have hgen:((qb7 1 n x s).bind fun p=>(qdw p.1).bind fun q=>some (V.str q.1 q.2,p.2))=some (v,s')->∃l s1 q1 q2,qb7 1 n x s=some (l,s1)/\qdw l=some (q1,q2)/\v=.str q1 q2/\Rel E w0 ρ s' w:=fun h=>by
        simp only[oI,oS,pM,Prod.exists]at h;obtain⟨l,s1,hl,q1,q2,hq,rfl,rfl⟩:=h;obtain⟨cl,hf,he,hll,hs1⟩:=qf3 (P:=P) hR hx hn (lR n) hl;exact⟨l,s1,q1,q2,hl,hq,rfl,hR.same hs1⟩
       have hall:∃l s1 q1 q2,qb7 1 n x s=some (l,s1)/\qdw l=some (q1,q2)/\v=.str q1 q2/\Rel E w0 ρ s' w:=by
        split at h
        . cases h
        . rename_i b off ln cp
          cases hz:qb4 s b off n with
          | none=>rw[hz]at h; exact hgen h
          | some q=>
           rw[hz]at h;simp only[qhr,oS]at h;subst h;obtain⟨e',m,ro,t,hb,h1,h2,h3,rfl,rfl⟩:=qng hz;obtain⟨s1,hl⟩:=ldN_all h2 n off s hb h1;exact⟨_,s1,n,0,hl,qmn h3 n,rfl,hR.note ..⟩
        . exact hgen h
       obtain⟨l,s1,q1,q2,hl,hq,rfl,hR'⟩:=hall;obtain⟨cl,hf,he,hll,hs1⟩:=qf3 (P:=P) hR hx hn (lR n) hl;obtain⟨bs,rfl,h1,h2⟩:=packV_ok he hq
       have hstr:∀r:ByteArray,r.data.toList=bs->VRel ρ (.str q1 q2) (.string r):=fun r hr=>by
        have h1:q1=bs.length:=h1;have h2:q2=qb0 bs:=h2;rw[h1,h2,<- hr]; exact .str r
       have hin:∃r:ByteArray,(Conv.bytesToString cx).run P w=.ok (.string r) w/\r.data.toList=bs:=by
        cases hx<;>simp only[lenV,oS,reduceCtorEq]at hn
        case str=>exact absurd rfl (hne _ _)
        case nilslice=>
         subst hn;have hb0:bs=[]:=List.eq_nil_of_length_eq_zero (by have:=he.length; rw[hll]at this; simpa using this);exact⟨.empty,rfl,by rw[hb0]; rfl⟩
        case' list z len cap vs cvs ad hvs ht hln hcap hf2=>subst hln
        all_goals
         subst hn;have hld:(Builtin.firstCells 1 _ (.slice (some _) _ _)).run P w=.ok (bs.map fun b=>Value.int .u8 (b.toNat:Int)).toArray w:=hf w.drawn;have hld':=hld;simp only[Builtin.firstCells,Nat.mul_one]at hld';have hmm:(bs.map fun b=>Value.int .u8 (b.toNat:Int))=(bs.map fun b=>(b.toNat:Int)).map (Value.int .u8):=by simp
         rw[hmm]at hld';exact⟨_,run_bytesToString w _ _ _ _ hld',by rw[foldl_push]; rfl⟩
       obtain⟨r,hrun,hr⟩:=hin;refine⟨ρ,.string r,w,?_,Rho.le_refl ρ,hstr r hr,hR'⟩;unfold convert;rw[qa0 (hrs w),qa0 (hrd w)]
       have hin2:((do
        match <- underlying e with
        | .int .u8=>Conv.bytesToString cx
        | .int .i32=>Conv.runesToString cx
        | _ => stuck "Convert: a slice of what to string?") : Sem Value).run P w = .ok (.string r) w := by
        rw[qa0 (qal hE hde w)]; exact hrun
       cases hx<;>first
        | exact hin2
        | exact absurd rfl (hne _ _)
        | (simp only[lenV,reduceCtorEq]at hn; done)
     . cases h
   . cases h
 . cases h
end
section
variable {P:Program} {E:Env} {w0:Base} {ρ:Rho} {s:St} {w:World} {a:Ac} {ca:Act}
theorem oConvert_sim (hE:EnvOk P E) (hR:Rel E w0 ρ s w) (hA:ARel ρ a ca) {src dst:TypeId} {x:Operand} {nx:Nx} (h:qeg E src dst x a s=some nx) :
 qb5 P E w0 ρ (do pure (Next.value (<- convert src dst (ca.eval x)))) w nx:=by
 unfold qeg at h;simp only[oI]at h;obtain⟨v,hv,h⟩:=h;obtain⟨u,s',hu,rfl⟩:=qnd h;obtain⟨ρ',cv,w',h1,h2,h3,h4⟩:=convertV_sim hE hR (qa7 hR hA hv) hu;exact qaj h1 h2 h3 h4
theorem zeros_by {z:V} {cz:Value} {size n:Nat} {c:Tr (Tr V)} (hz:VRel ρ z cz) (ht:qaa z=false) (hs:z.size=size) (hc:∀off v,qbd c size off=some v->z.cells.get (off%size)=some v) :
 CRel ρ size n c ((Array.range (n*size)).map (cz.cells[·%cz.cells.size]!)).toList:=by
 have he:=hz.cells ht;have hcs:cz.cells.size=size:=by have:=he.len; rw[hs]at this; simpa using this
 have hget:∀(i:Nat) cv,((Array.range (n*size)).map (cz.cells[·%cz.cells.size]!)).toList[i]?=some cv->i<n*size/\cz.cells[i%size]?=some cv:=fun i cv hi=>by
  have hi':((Array.range (n*size)).map (cz.cells[·%cz.cells.size]!))[i]?=some cv:=by rw[Array.getElem?_toList]at hi; exact hi
  rw[Array.getElem?_map]at hi';by_cases hlt:i<n*size
  . have hr:(Array.range (n*size))[i]?=some i:=by simp[hlt]
    rw[hr]at hi';simp only[Option.map_some,oS,hcs]at hi';refine⟨hlt,?_⟩
    have hsp:0<size:=by
     rcases Nat.eq_zero_or_pos size with h0|h0
     . rw[h0]at hlt; simp at hlt
     . exact h0
    have hm:i%size<cz.cells.size:=by rw[hcs]; exact Nat.mod_lt _ hsp
    rw[getElem!_pos cz.cells (i%size) hm]at hi';rw[Array.getElem?_eq_getElem hm,hi']
  . have hr:(Array.range (n*size))[i]?=none:=by simp; omega
    rw[hr]at hi'; cases hi'
 refine⟨by simp[Nat.mul_comm],fun x hx=>?_,fun off v cv hlt hv hcv=>?_⟩
 . obtain⟨i,hi⟩:=List.getElem?_of_mem hx
   exact he.one x (List.mem_of_getElem? (by simpa using(hget i x hi).2))
 . exact he.rel _ v (hc off v hv) cv (by simpa using(hget off cv hcv).2)
theorem zeros_rel {z:V} {cz:Value} {size n:Nat} (hz:VRel ρ z cz) (ht:qaa z=false) (hs:z.size=size) :
 CRel ρ size n (Tr.tab n n fun _=>z.cells) ((Array.range (n*size)).map (cz.cells[·%cz.cells.size]!)).toList:=
 zeros_by hz ht hs fun off v hv=>by
  unfold qbd at hv;rw[Tr.get_tab _ _ _ _ (lR n)]at hv;split at hv
  . simpa only[oB]using hv
  . cases hv
theorem zeros_all {z:V} {cz:Value} {size n:Nat} (hz:VRel ρ z cz) (ht:qaa z=false) (hs:z.size=size) :
 CRel ρ size n (.all z.cells) ((Array.range (n*size)).map (cz.cells[·%cz.cells.size]!)).toList:=
 zeros_by hz ht hs fun off v hv=>by
  unfold qbd at hv;rw[Tr.get_all]at hv;simpa only[oB]using hv
theorem extend_sim (hE:EnvOk P E) (hR:Rel E w0 ρ s w) {t t2 ty e:TypeId} {ts:List TypeId} {d2:TypeDesc} {size bytes:Nat} {x y:V} {cx cy:Value} {v:V} {s':St}
 (ht:und E t=some (.slice e)) (ht2:und E t2=some d2) (hd2:qdt d2=false) (hsz:sizeT E e=some size) (hby:qk0 E e=some bytes) (hzf:qbl E e size=true)
 (hx:VRel ρ x cx) (hy:VRel ρ y cy) (h:qec E e size bytes x y s=some (v,s')) :
 qb5 P E w0 ρ (do pure (Next.value (<- Builtin.append_ (t::t2::ts).toArray ty #[cx,cy]))) w (.val v s'):=by
 have hsp:0<size:=by
  have h':=hzf;unfold qbl at h';split at h'
  . simp only[bA,blt_true]at h'; exact h'.2
  . cases h'
 unfold qec at h;cases hx<;>simp only[reduceCtorEq]at h;simp only[oI]at h;obtain⟨n,hn,h⟩:=h;obtain⟨k,rfl⟩:=qf8 hn;cases hy;cases hb:(Nat.blt 0 n&&Nat.blt (n*(bytes+size+1)) qai)with
 | false=>rw[hb]at h; cases h
 | true=>
 rw[hb]at h;simp only[bA,blt_true]at hb;simp only[cT,oI]at h;obtain⟨z,hz,h⟩:=h;rcases qad z.size size with⟨hzs,e1⟩|⟨hzs,e1⟩
 case inr=>rw[hzs]at h; cases h
 rw[hzs]at h;simp only[cT,oS,pM]at h;obtain⟨rfl,rfl⟩:=h;obtain⟨cz,hzrun,hzv,hzt⟩:=qdy hE hz;have hcr:=zeros_all (n:=n) (hzv ρ) hzt e1;obtain⟨i,hi,hib⟩:=qll hE hby;have hnn:n<1073741824:=Nat.lt_of_le_of_lt (Nat.le_mul_of_pos_right _ (by omega)) hb.2;have hnb:n*bytes<1073741824:=Nat.lt_of_le_of_lt (Nat.mul_le_mul_left _ (by omega)) hb.2;have hcs:cz.cells.size=size:=by have:=((hzv ρ).cells hzt).len; rw[e1]at this; simpa using this
 have hwn:IntKind.i64.wrap (Int.ofNat n)=n:=by
  rw[<- qbt]; show(bif Nat.blt n (qdu .i64)then Int.ofNat n else _)=_;rw[blt_true.2 (show n<qdu .i64 by show n<9223372036854775808; omega)]; rfl
 have hinfo:∀w1,(typeInfo e).run P w1=.ok i w1:=fun w1=>by simp[typeInfo,hi]
 have hgrow:¬(Builtin.nextslicecap n 0*i.bytes>2^48):=by
  rw[hib];have:=growslice_fits (need:=n) (old:=0) (bytes:=bytes) (by omega) (by omega);omega
 have hbig:¬(((n:Nat):Int)>IntKind.i64.max):=by
  have:IntKind.i64.max=9223372036854775807:=rfl;omega
 let newCap:=(Question.appendCap n 0 e).cut (w.tape w.drawn (.appendCap n 0 e))
 have hcap:n<=newCap:=Nat.le_add_right _ _
 let rest:=(Builtin.zeroCells cz.cells (newCap-n)).toList
 have hrest:rest.length=(newCap-n)*size:=by simp[rest,Builtin.zeroCells,hcs]
 obtain⟨hle,hR'⟩:=qe1 (elem:=e) (hR.drew (w.drawn+1)) hcr (0,0) rest (.inl rfl)
 have hlen:(((Array.range (n*size)).map (cz.cells[·%cz.cells.size]!)).toList++rest).length=newCap*size:=by
  rw[lAq,hrest];simp only[Array.toList_map,lM,Array.length_toList,Array.size_range];rw[<- Nat.add_mul]
  congr 1; omega
 refine qaj (cv:=.slice (some ⟨w.heap.size,0,none⟩) n newCap) ?_ hle (.oslice (sh:=0) Rho.add_same hcap hsp (by rw[hlen]; omega) fun _=>rfl) hR';unfold Builtin.append_;have e0:(t::t2::ts).toArray[0]?=some t:=by simp
 have e1':(t::t2::ts).toArray[1]?=some t2:=by simp
 simp only[e0,e1',show(#[Value.slice none 0 0,.int k (Int.ofNat n)]:Array Value)[0]?=some (.slice none 0 0)from rfl,show(#[Value.slice none 0 0,.int k (Int.ofNat n)]:Array Value)[1]?=some (.int k (Int.ofNat n))from rfl];rw[qa0 (qal hE ht w)];simp only[];rw[qa0 (qap hE hsz w),qa0 (qal hE ht2 w)];refine(qa0 (a:=true) (w':=w) (by cases d2<;>first|rfl|(simp[qdt]at hd2; done))).trans ?_;simp only[if_true];rw[qa0 (show(asInt (.int k (Int.ofNat n))).run P w=.ok (Int.ofNat n) w from rfl)];rw[hwn];have hnb2:((n:Nat):Int)*(i.bytes:Int)=((n*bytes:Nat):Int):=by rw[hib]; simp
 rw[iN (show ¬((n:Nat):Int)<0 by omega),qa0 (hinfo w),iN (show ¬((n:Nat):Int)*(i.bytes:Int)>2^48 by rw[hnb2]; omega)];refine(qa0 (a:=n) (w':=w) rfl).trans ?_;rw[Nat.zero_add];rw[iN (show ¬n<=0 by omega),qa0 (hinfo w),iN (fun h=>hbig h.1),qa0 (hinfo w),iN hgrow];rw[qa0 (show(choose (.appendCap n 0 e)).run P w=.ok newCap {w with drawn:=w.drawn+1} by simp[Question.forced,newCap])];rw[qa0 (hinfo _),qa0 (run_askRoom P _ _)];rw[qa0 (show(Builtin.firstCells size 0 (.slice none 0 0)).run P {w with drawn:=w.drawn+1}=.ok #[] {w with drawn:=w.drawn+1}from rfl)]
 have hns:¬(n*size=0):=by
  have:=Nat.mul_pos (show 0<n by omega) hsp;omega
 simp only[Bool.not_true,Bool.false_eq_true,if_false,iN hns];rw[qa0 (show(do pure (Builtin.zeroCells (<- zeroValue e).cells n):Sem (Array Value)).run P {w with drawn:=w.drawn+1}=.ok (Builtin.zeroCells cz.cells n) {w with drawn:=w.drawn+1} by rw[qa0 (hzrun _)]; rfl)];rw[qa0 (hzrun _)]
 have harr:#[]++Builtin.zeroCells cz.cells n++Builtin.zeroCells cz.cells (newCap-n)=(((Array.range (n*size)).map (cz.cells[·%cz.cells.size]!)).toList++rest).toArray:=by
  apply Array.ext';simp[rest,Builtin.zeroCells,hcs]
 rw[harr];simp only[newRow,Sem.run_bind,run_newObj,Result.andThen_ok,Sem.run_pure]
theorem bAppend_sim (hE:EnvOk P E) (hR:Rel E w0 ρ s w) (hA:ARel ρ a ca) {t t2 ty:TypeId} {ts:List TypeId} {x y:Operand} {nx:Nx} (h:qgc E t t2 x y a s=some nx) :
 qb5 P E w0 ρ (do pure (Next.value (<- Builtin.append_ (t::t2::ts).toArray ty #[ca.eval x,ca.eval y]))) w nx:=by
 unfold qgc at h;simp only[oI,Prod.exists]at h;obtain⟨e,size,bytes,hq,d2,hd2,h⟩:=h;obtain⟨h1,h2,h3⟩:=qel hq;cases hc:(qdt d2&&qbl E e size)with
 | false=>
  rw[hc]at h;simp only[cF]at h;cases hc2:(!qdt d2&&qbl E e size)with
  | false=>rw[hc2]at h; cases h
  | true=>
   rw[hc2]at h;simp only[cT,oI]at h;obtain⟨vx,hx,vy,hy,h⟩:=h;simp only[bA,Bool.not_eq_true']at hc2;obtain⟨v,s',hv,rfl⟩:=qnd h;exact extend_sim hE hR h1 hd2 hc2.1 h2 h3 hc2.2 (qa7 hR hA hx) (qa7 hR hA hy) hv
 | true=>
 rw[hc]at h;simp only[cT,oI]at h;obtain⟨vx,hx,vy,hy,h⟩:=h;simp only[bA]at hc;exact appendAt_sim hE hR h1 hd2 hc.1 h2 h3 hc.2 (qa7 hR hA hx) (qa7 hR hA hy) h
theorem oMakeSlice_sim (hE:EnvOk P E) (hR:Rel E w0 ρ s w) (hA:ARel ρ a ca) {t:TypeId} {l c:Operand} {nx:Nx} (h:qcu E t l c a s=some nx) :
 qb5 P E w0 ρ (do pure (Next.value (<- Instr.makeSlice t (ca.eval l) (ca.eval c)))) w nx:=by
 unfold qcu at h;simp only[oI,Prod.exists]at h;obtain⟨e,size,bytes,hq,vl,hvl,n,hn,vc,hvc,m,hm,h⟩:=h;obtain⟨h1,h2,h3⟩:=qel hq;obtain⟨kl,rfl⟩:=qf8 hn;obtain⟨kc,rfl⟩:=qf8 hm;have hrl:=qa7 hR hA hvl;have hrc:=qa7 hR hA hvc;generalize ca.eval l=cl at hrl ⊢;generalize ca.eval c=cc at hrc ⊢;cases hrl; cases hrc;unfold makeAt at h;cases hb:(Nat.ble n m&&Nat.blt (m*(bytes+size+1)) qai)with
 | false=>rw[hb]at h; cases h
 | true=>
 rw[hb]at h;simp only[bA,ble_true,blt_true]at hb;simp only[cT,oI]at h;obtain⟨z,hz,h⟩:=h;rcases qad z.size size with⟨hzs,e1⟩|⟨hzs,e1⟩
 case inr=>rw[hzs]at h; cases h
 rw[hzs]at h;simp only[cT,oS]at h;subst h;obtain⟨cz,hzrun,hzv,hzt⟩:=qdy hE hz;have hcr:=zeros_all (n:=m) (hzv ρ) hzt e1;obtain⟨hle,hR'⟩:=qe1 (elem:=e) hR hcr (0,0) [] (.inl rfl);obtain⟨i,hi,hib⟩:=qll hE h3;have hmm:m<1073741824:=Nat.lt_of_le_of_lt (Nat.le_mul_of_pos_right _ (by omega)) hb.2;have hmb:m*bytes<1073741824:=Nat.lt_of_le_of_lt (Nat.mul_le_mul_left _ (by omega)) hb.2;have hcs:cz.cells.size=size:=by have:=((hzv ρ).cells hzt).len; rw[e1]at this; simpa using this
 have hwn:IntKind.i64.wrap (Int.ofNat n)=n:=by
  rw[<- qbt]; show(bif Nat.blt n (qdu .i64)then Int.ofNat n else _)=_;rw[blt_true.2 (show n<qdu .i64 by show n<9223372036854775808; omega)]; rfl
 have hwm:IntKind.i64.wrap (Int.ofNat m)=m:=by
  rw[<- qbt]; show(bif Nat.blt m (qdu .i64)then Int.ofNat m else _)=_;rw[blt_true.2 (show m<qdu .i64 by show m<9223372036854775808; omega)]; rfl
 refine qaj (cv:=.slice (some ⟨w.heap.size,0,none⟩) n m) ?_ hle (.slice (sh:=0) Rho.add_same hb.1 fun _=>rfl) hR';unfold Instr.makeSlice;rw[qa0 (qal hE h1 w)];simp only[];have hai:∀(k:IntKind) (q:Nat),(asInt (.int k (Int.ofNat q))).run P w=.ok (Int.ofNat q) w:=fun k q=>rfl;rw[qa0 (hai kl n),qa0 (hai kc m),qa0 (show(typeInfo e).run P w=.ok i w by simp[typeInfo,hi])];rw[hwn,hwm]
 have hnot:¬((decide (((m:Nat):Int)<0)||decide ((i.bytes:Int)*(m:Nat)>2^48))=true\/decide (((n:Nat):Int)<0)=true\/decide (((n:Nat):Int)>(m:Nat))=true):=by
  rw[hib];simp only[Bool.or_eq_true,decide_eq_true_eq];have:((bytes:Int)*(m:Nat))=((m*bytes:Nat):Int):=by rw[Nat.mul_comm]; simp
  omega
 have hif:((((decide (((m:Nat):Int)<0)||decide ((i.bytes:Int)*(m:Nat)>2^48)))||decide (((n:Nat):Int)<0))||decide (((n:Nat):Int)>(m:Nat)))=false:=by
  rw[<- Bool.not_eq_true];intro hc;apply hnot;simpa [or_assoc]using hc
 rw[hif];simp only[Bool.false_eq_true,if_false];rw[qa0 (run_askRoom P _ _)];simp only[Int.toNat_natCast];rw[qa0 (qap hE h2 w)]
 have harr:∀z':Array Value,(m*size=0\/z'=cz.cells)->(Array.range (m*size)).map (z'[·%z'.size]!)=(((Array.range (m*size)).map (cz.cells[·%cz.cells.size]!)).toList++[]).toArray:=fun z' hz'=>by
  rw[List.append_nil,Array.toArray_toList];rcases hz' with h0|rfl
  . rw[h0]; simp
  . rfl
 by_cases hms:m*size=0
 . rw[iP hms]
   refine(qa0 (a:=#[]) (w':=w) rfl).trans ?_;rw[<- harr #[] (.inl hms)];rfl
 . rw[iN hms]
   rw[qa0 (hzrun w)];refine(qa0 (a:=cz.cells) (w':=w) rfl).trans ?_;rw[<- harr cz.cells (.inr rfl)];rfl
theorem setCells_spec (t:Tr V) (off:Nat):∀(k i:Nat) (acc acc':Tr V),qj6 t off k i acc=some acc'->∀y v,acc'.get y=some v->
 (off+i<=y/\y<off+i+k/\t.get (y-off)=some v)\/(¬(off+i<=y/\y<off+i+k)/\acc.get y=some v):=by
 intro k
 induction k with
 | zero=>
  intro i acc acc' h y v hv;simp only[qj6,oS]at h;subst h;exact .inr ⟨by omega,hv⟩
 | succ k ih=>
  intro i acc acc' h y v hv;simp only[qj6,oI,Tr.setC_eq]at h;obtain⟨u,hu,h⟩:=h;rcases ih _ _ _ h y v hv with⟨h1,h2,h3⟩|⟨h1,h2⟩
  . exact .inl ⟨by omega,by omega,h3⟩
  . rw[Tr.get_set]at h2
    by_cases e1:y=off+i
    . rw[iP e1]at h2
      exact .inl ⟨by omega,by omega,by rw[e1,show off+i-off=i by omega,hu]; exact h2⟩
    . rw[iN e1]at h2
      exact .inr ⟨by omega,h2⟩
theorem foldl_set (off:Nat):∀(l:List Value) (i:Nat) (cs:Array Value),let r:=(l.zipIdx i).foldl (fun cs (c,j)=>cs.setIfInBounds (off+j) c) cs
 r.size=cs.size/\∀j:Nat,r[j]?=if off+i<=j/\j<off+i+l.length/\j<cs.size then l[j-(off+i)]? else cs[j]?:=by
 intro l
 induction l with
 | nil=>intro i cs; refine⟨rfl,fun j=>?_⟩; rw[iN (by simp only[List.length_nil]; omega)]; rfl
 | cons v l ih=>
  intro i cs;obtain⟨h1,h2⟩:=ih (i+1) (cs.setIfInBounds (off+i) v);refine⟨by simpa using h1,fun j=>?_⟩;have:=h2 j;simp only[List.zipIdx_cons,List.foldl_cons]at this ⊢;rw[this];simp only[Array.size_setIfInBounds,List.length_cons];by_cases hj:off+(i+1)<=j/\j<off+(i+1)+l.length/\j<cs.size
  . rw[iP hj,iP (by omega)]
    obtain⟨d,rfl⟩:∃d,j=off+(i+1)+d:=⟨j-(off+(i+1)),by omega⟩
    rw[show off+(i+1)+d-(off+(i+1))=d by omega,show off+(i+1)+d-(off+i)=d+1 by omega]; simp
  . rw[iN hj]
    by_cases e:j=off+i
    . subst e
      by_cases hlt:off+i<cs.size
      . rw[iP ⟨lR _,by omega,hlt⟩,Array.getElem?_setIfInBounds,iP rfl,iP hlt]; simp
      . rw[iN (by omega),Array.getElem?_setIfInBounds,iP rfl,iN hlt,Array.getElem?_eq_none (by omega)]
    . rw[iN (by omega),Array.getElem?_setIfInBounds_ne (by omega)]
inductive PRels (ρ:Rho):List (Nat×V)->List (Nat×Value)->Prop where
 | nil:PRels ρ [] []
 | cons {i:Nat} {v:V} {cv:Value} {l:List (Nat×V)} {cl:List (Nat×Value)} (h:VRel ρ v cv) (t:PRels ρ l cl):PRels ρ ((i,v)::l) ((i,cv)::cl)
theorem qjq (hR:Rel E w0 ρ s w) (hA:ARel ρ a ca):∀{l:List (Nat×Operand)} {ps:List (Nat×V)},qei E a l=some ps->PRels ρ ps (l.map fun(i,x)=>(i,ca.eval x))
 | [],ps,h=>by simp only[qei,oS]at h; subst h; exact .nil
 | (i,x)::l,ps,h=>by
  simp only[qei,oI,oS]at h;obtain⟨v,hv,r,hr,rfl⟩:=h;exact .cons (qa7 hR hA hv) (qjq hR hA hr)
theorem fillV_sim {place:Nat->Option (Nat×Nat)} {cplace:Nat->Option (Nat×Nat)} (hp:∀i x,place i=some x->cplace i=some x) {n:Nat}:∀{ps:List (Nat×V)} {cps:List (Nat×Value)} {t t':Tr V} {cs:Array Value},
 PRels ρ ps cps->VRel ρ (.agg n t) (.agg cs)->fillV place n t ps=some t'->∃cs',Instr.fill cplace cs cps=some cs'/\VRel ρ (.agg n t') (.agg cs'):=by
 intro ps
 induction ps with
 | nil=>
  intro cps t t' cs hps hv h;cases hps;simp only[fillV,oS]at h;subst h;exact⟨cs,rfl,hv⟩
 | cons p ps ih=>
  intro cps t t' cs hps hv h;cases hps with
  | @cons i v cv _ cl hvv ht=>
  simp only[fillV,oI,Prod.exists]at h;obtain⟨off,size,hpl,h⟩:=h;cases hc:(Nat.beq v.size size&&Nat.ble (off+v.size) n&&!qaa v)with
  | false=>rw[hc]at h; cases h
  | true=>
  rw[hc]at h;simp only[bA,beq_true,ble_true,Bool.not_eq_true']at hc;obtain⟨⟨rfl,hle⟩,htup⟩:=hc;simp only[cT,oI]at h;obtain⟨t1,ht1,h⟩:=h;have he:=hvv.cells htup;have hcsz:cv.cells.size=v.size:=by simpa using he.len
  cases hv with
  | agg hn h1 hr=>
  obtain⟨hs1,hs2⟩:=foldl_set off cv.cells.toList 0 cs
  have hv1:VRel ρ (.agg n t1) (.agg ((cv.cells.toList.zipIdx 0).foldl (fun cs (c,j)=>cs.setIfInBounds (off+j) c) cs)):=by
   refine .agg (by rw[hs1]; exact hn) (fun j x hx=>?_) (fun j u hu x hx=>?_)
   . rw[hs2]at hx
     split at hx
     . exact he.one x (List.mem_of_getElem? hx)
     . exact h1 j x hx
   . rw[hs2]at hx
     rcases setCells_spec v.cells off v.size 0 t t1 ht1 j u hu with⟨h3,h4,h5⟩|⟨h3,h4⟩
     . rw[iP (by rw[he.len]; omega)]at hx
       exact he.rel _ u h5 x hx
     . rw[iN (by rw[he.len]; omega)]at hx
       exact hr j u h4 x hx
  obtain⟨cs',hf,hv2⟩:=ih ht hv1 h;refine⟨cs',?_,hv2⟩;unfold Instr.fill;rw[hp i _ hpl];simp only;rw[iN (by simp only[Bool.or_eq_true,decide_eq_true_eq,ne_eq]; omega)]
  have hzi:cv.cells.zipIdx.foldl (fun cs (c,j)=>cs.setIfInBounds (off+j) c) cs=(cv.cells.toList.zipIdx 0).foldl (fun cs (c,j)=>cs.setIfInBounds (off+j) c) cs:=by
   rw[<- Array.foldl_toList]; simp
  rw[hzi];exact hf
end
section
variable {P:Program} {E:Env} {w0:Base} {ρ:Rho} {s:St} {w:World} {a:Ac} {ca:Act}
theorem places_run (hE:EnvOk P E):∀(l:List Field),l.all (fun f=>(sizeT E f.type).isSome)=true->
 ∃ps:List (Nat×Nat),(l.mapM fun f=>do pure (f.offset,<- sizeOf f.type):Sem (List (Nat×Nat))).run P w=.ok ps w/\∀i:Nat,ps[i]?=(l[i]?).bind fun f=>(sizeT E f.type).bind fun n=>some (f.offset,n)
 | [],_=>⟨[],rfl,by simp⟩
 | f::l,h=>by
  simp only[List.all_cons,bA]at h;obtain⟨ps,h1,h2⟩:=places_run hE l h.2;obtain⟨n,hn⟩:=Option.isSome_iff_exists.1 h.1;refine⟨(f.offset,n)::ps,?_,fun i=>?_⟩
  . rw[List.mapM_cons]
    simp only[Sem.run_bind,qap hE hn w,Result.andThen_ok,Sem.run_pure];rw[h1];rfl
  . cases i with
    | zero=>simp[hn]
    | succ i=>simpa using h2 i
theorem oBuild_sim (hE:EnvOk P E) (hR:Rel E w0 ρ s w) (hA:ARel ρ a ca) {t:TypeId} {parts:Array (Nat×Operand)} {nx:Nx} (h:qhn E t parts.toList a s=some nx) :
 qb5 P E w0 ρ (do pure (Next.value (<- Instr.build t (parts.map fun(i,x)=>(i,ca.eval x))))) w nx:=by
 unfold qhn at h;simp only[oI]at h;obtain⟨ps,hps,h⟩:=h;obtain⟨v,hv,rfl⟩:=qhs h;have hpr:=qjq hR hA hps;unfold qab at hv;simp only[oI]at hv;obtain⟨z,hz,d,hd,hv⟩:=hv;obtain⟨cz,hzrun,hzv,hzt⟩:=qdy hE hz
 have hcells:VRel ρ (.agg z.size z.cells) (.agg cz.cells):=by
  have he:=(hzv ρ).cells hzt;have:=he.agg
  rwa [show cz.cells.toList.toArray=cz.cells from rfl]at this
 have hpl:(parts.map fun(i,x)=>(i,ca.eval x)).toList=parts.toList.map fun(i,x)=>(i,ca.eval x):=by simp
 split at hv
 . rename_i fields
   cases hall:fields.toList.all (fun f=>(sizeT E f.type).isSome)with
   | false=>rw[hall]at hv; cases hv
   | true=>
   rw[hall]at hv;simp only[cT,oI,oS]at hv;obtain⟨t',ht',rfl⟩:=hv;obtain⟨pls,hprun,hpget⟩:=places_run (w:=w) hE fields.toList hall
   have hparr:(fields.mapM fun f=>do pure (f.offset,<- sizeOf f.type):Sem (Array (Nat×Nat))).run P w=.ok pls.toArray w:=by
    rw[Array.mapM_eq_mapM_toList];simp only[Sem.run_map];rw[hprun];rfl
   obtain⟨cs',hf,hv'⟩:=fillV_sim (cplace:=fun i=>pls.toArray[i]?) (fun i x hx=>by
    have hx':(fields[i]?).bind (fun f=>(sizeT E f.type).bind fun n=>some (f.offset,n))=some x:=hx;simp only[List.getElem?_toArray]
    rw[hpget,Array.getElem?_toList]; exact hx') hpr hcells ht'
   refine qaj (cv:=.agg cs') ?_ (Rho.le_refl ρ) hv' hR;unfold Instr.build;rw[qa0 (hzrun w),qa0 (qal hE hd w)];simp only[];rw[qa0 hparr,hpl,hf];rfl
 . rename_i len elem
   simp only[oI,oS]at hv;obtain⟨k,hk,t',ht',rfl⟩:=hv;obtain⟨cs',hf,hv'⟩:=fillV_sim (cplace:=fun i=>some (i*k,k)) (fun i x hx=>hx) hpr hcells ht';refine qaj (cv:=.agg cs') ?_ (Rho.le_refl ρ) hv' hR;unfold Instr.build;rw[qa0 (hzrun w),qa0 (qal hE hd w)];simp only[];rw[qa0 (qap hE hk w),hpl,hf];rfl
 . cases hv
theorem fillE_sim {len size:Nat} (hsp:0<size):∀{ps:List (Nat×V)} {cps:List (Nat×Value)} {c c':Tr (Tr V)} {cs:Array Value},
 PRels ρ ps cps->CRel ρ size len c cs.toList->qgi len size c ps=some c'->∃cs',Instr.fill (fun i=>some (i*size,size)) cs cps=some cs'/\CRel ρ size len c' cs'.toList:=by
 intro ps
 induction ps with
 | nil=>
  intro cps c c' cs hps hv h;cases hps;simp only[qgi,oS]at h;subst h;exact⟨cs,rfl,hv⟩
 | cons p ps ih=>
  intro cps c c' cs hps hv h;cases hps with
  | @cons i v cv _ cl hvv ht=>
  simp only[qgi,Tr.setC_eq]at h;cases hc:(Nat.beq v.size size&&Nat.blt i len&&!qaa v)with
  | false=>rw[hc]at h; cases h
  | true=>
  rw[hc]at h;simp only[bA,beq_true,blt_true,Bool.not_eq_true']at hc;obtain⟨⟨hsz,hlt⟩,htup⟩:=hc;simp only[cT]at h;have he:=hvv.cells htup;rw[hsz]at he;have hlen:=he.len;have hcs:=hv.len;have hcsz:cs.size=size*len:=by simpa using hcs
  have hin:i*size+size<=size*len:=by
   have:=Nat.mul_le_mul_right size (show i+1<=len by omega);rw[Nat.succ_mul,Nat.mul_comm len]at this;exact this
  obtain⟨hs1,hs2⟩:=foldl_set (i*size) cv.cells.toList 0 cs
  have hv1:CRel ρ size len (c.set v.cells i) ((cv.cells.toList.zipIdx 0).foldl (fun cs (c,j)=>cs.setIfInBounds (i*size+j) c) cs).toList:=by
   have hget:∀(j:Nat) x,((cv.cells.toList.zipIdx 0).foldl (fun cs (c,j)=>cs.setIfInBounds (i*size+j) c) cs).toList[j]?=some x->
    (i*size<=j/\j<i*size+size/\cv.cells.toList[j-i*size]?=some x)\/(¬(i*size<=j/\j<i*size+size)/\cs.toList[j]?=some x):=fun j x hx=>by
    rw[Array.getElem?_toList,hs2]at hx;split at hx
    . rename_i hj
      exact .inl ⟨by omega,by omega,by simpa using hx⟩
    . rename_i hj
      have hjs:j<cs.size:=by
       rcases Nat.lt_or_ge j cs.size with h|h
       . exact h
       . rw[Array.getElem?_eq_none h]at hx; cases hx
      exact .inr ⟨by omega,by rw[Array.getElem?_toList]; exact hx⟩
   refine⟨by rw[Array.length_toList,hs1]; exact hcsz,fun x hx=>?_,fun off u x hlt' hu hx=>?_⟩
   . obtain⟨j,hj⟩:=List.getElem?_of_mem hx
     rcases hget j x hj with⟨_,_,h3⟩|⟨_,h3⟩
     . exact he.one x (List.mem_of_getElem? h3)
     . exact hv.one x (List.mem_of_getElem? h3)
   . have hdm:=Nat.div_add_mod' off size
     have hmlt:=Nat.mod_lt off hsp;unfold qbd at hu;rw[Tr.get_set]at hu;by_cases hq:off/size=i
     . rw[iP hq]at hu
       simp only[oB]at hu;rw[hq]at hdm;rcases hget off x hx with⟨h1,h2,h3⟩|⟨h1,h3⟩
       . exact he.rel _ u hu x (by rw[show off%size=off-i*size by omega]; exact h3)
       . omega
     . rw[iN hq]at hu
       rcases hget off x hx with⟨h1,h2,h3⟩|⟨h1,h3⟩
       . exfalso
         apply hq;apply Nat.le_antisymm
         . have:off/size<i+1:=by rw[Nat.div_lt_iff_lt_mul hsp,Nat.succ_mul]; omega
           omega
         . rw[Nat.le_div_iff_mul_le hsp]; exact h1
       . exact hv.rel off u x hlt' hu h3
  obtain⟨cs',hf,hv2⟩:=ih ht hv1 h;refine⟨cs',?_,hv2⟩;unfold Instr.fill;have hcvs:cv.cells.size=size:=by simpa using hlen
  simp only;rw[iN (by simp only[Bool.or_eq_true,decide_eq_true_eq,ne_eq]; omega)]
  have hzi:cv.cells.zipIdx.foldl (fun cs (c,j)=>cs.setIfInBounds (i*size+j) c) cs=(cv.cells.toList.zipIdx 0).foldl (fun cs (c,j)=>cs.setIfInBounds (i*size+j) c) cs:=by
   rw[<- Array.foldl_toList]; simp
  rw[hzi];exact hf
theorem qmi (hE:EnvOk P E) (hR:Rel E w0 ρ s w) (hA:ARel ρ a ca) {t:TypeId} {len:Nat} {parts:Array (Nat×Operand)} {nx:Nx} (h:qcd E t len parts.toList a s=some nx) :
 qb5 P E w0 ρ (do pure (Next.value (<- Instr.buildSlice t len (parts.map fun(i,x)=>(i,ca.eval x))))) w nx:=by
 unfold qcd at h;simp only[oI,Prod.exists]at h;obtain⟨e,size,bytes,hq,h⟩:=h;obtain⟨h1,h2,h3⟩:=qel hq;cases hb:Nat.ble (len*size) 65536 with
 | false=>rw[hb]at h; cases h
 | true=>
 rw[hb]at h;rw[ble_true]at hb;simp only[cT,oI]at h;obtain⟨z,hz,ps,hps,h⟩:=h;cases hc:(Nat.beq z.size size&&Nat.blt 0 size)with
 | false=>rw[hc]at h; cases h
 | true=>
 rw[hc]at h;simp only[bA,beq_true,blt_true]at hc;obtain⟨e1,hsp⟩:=hc;simp only[cT,oI,oS]at h;obtain⟨c',hc',rfl⟩:=h;obtain⟨cz,hzrun,hzv,hzt⟩:=qdy hE hz;have hpr:=qjq hR hA hps;have hpl:(parts.map fun(i,x)=>(i,ca.eval x)).toList=parts.toList.map fun(i,x)=>(i,ca.eval x):=by simp
 obtain⟨cs',hf,hcr⟩:=fillE_sim hsp hpr (zeros_rel (n:=len) (hzv ρ) hzt e1) hc';obtain⟨hle,hR'⟩:=qe1 (elem:=e) hR hcr (0,0) [] (.inl rfl);refine qaj (cv:=.slice (some ⟨w.heap.size,0,none⟩) len len) ?_ hle (.slice (sh:=0) Rho.add_same (lR _) fun _=>rfl) hR';unfold Instr.buildSlice;rw[qa0 (qal hE h1 w)];simp only[];rw[qa0 (qap hE h2 w)];rw[iN (by omega)]
 have harr:∀z':Array Value,(len*size=0\/z'=cz.cells)->(Array.range (len*size)).map (z'[·%z'.size]!)=(Array.range (len*size)).map (cz.cells[·%cz.cells.size]!):=fun z' hz'=>by
  rcases hz' with h0|rfl
  . rw[h0]; simp
  . rfl
 have hcs:(cs'.toList++[]).toArray=cs':=by simp
 rw[hcs];by_cases hms:len*size=0
 . rw[iP hms]
   refine(qa0 (a:=#[]) (w':=w) rfl).trans ?_;rw[harr #[] (.inl hms),hpl,hf];rfl
 . rw[iN hms,qa0 (hzrun w)]
   refine(qa0 (a:=cz.cells) (w':=w) rfl).trans ?_;rw[hpl,hf];rfl
theorem minV_sim {x y v:V} {cx cy:Value} (hx:VRel ρ x cx) (hy:VRel ρ y cy) (h:minV x y=some v):∃cv,(Builtin.min2 cx cy).run P w=.ok cv w/\VRel ρ v cv:=by
 cases hx<;>cases hy<;>simp only[minV,reduceCtorEq]at h;rename_i k p k' q;cases hk:ikEq k k' with
 | false=>rw[hk]at h; cases h
 | true=>
  rw[hk]at h;simp only[cT,oS]at h;subst h;refine⟨.int k (if q<p then q else p),rfl,?_⟩;rw[qg3];by_cases hlt:q<p
  . simp only[hlt,decide_true,cT,if_true]; exact .int _ _
  . simp only[hlt,decide_false,cF,if_false]; exact .int _ _
theorem maxV_sim {x y v:V} {cx cy:Value} (hx:VRel ρ x cx) (hy:VRel ρ y cy) (h:maxV x y=some v):∃cv,(Builtin.max2 cx cy).run P w=.ok cv w/\VRel ρ v cv:=by
 cases hx<;>cases hy<;>simp only[maxV,reduceCtorEq]at h;rename_i k p k' q;cases hk:ikEq k k' with
 | false=>rw[hk]at h; cases h
 | true=>
  rw[hk]at h;simp only[cT,oS]at h;subst h;refine⟨.int k (if q>p then q else p),rfl,?_⟩;rw[qg3];by_cases hlt:p<q
  . simp only[hlt,decide_true,cT,if_true]; exact .int _ _
  . simp only[hlt,decide_false,cF,if_false]; exact .int _ _
theorem foldV_sim {f:V->V->Option V} {g:Value->Value->Sem Value} (hfg:∀{x y v:V} {cx cy:Value},VRel ρ x cx->VRel ρ y cy->f x y=some v->∃cv,(g cx cy).run P w=.ok cv w/\VRel ρ v cv) :
 ∀{l:List V} {cl:List Value} {x v:V} {cx:Value},VRel ρ x cx->VRels ρ l cl->foldV f x l=some v->∃cv,(cl.foldlM g cx).run P w=.ok cv w/\VRel ρ v cv:=by
 intro l
 induction l with
 | nil=>
  intro cl x v cx hx hl h;cases hl;simp only[foldV,oS]at h;subst h;exact⟨cx,rfl,hx⟩
 | cons y l ih=>
  intro cl x v cx hx hl h;cases hl with
  | cons hy ht=>
  simp only[foldV,oI]at h;obtain⟨z,hz,h⟩:=h;obtain⟨cz,h1,h2⟩:=hfg hx hy hz;obtain⟨cv,h3,h4⟩:=ih h2 ht h;exact⟨cv,by rw[List.foldlM_cons,qa0 h1]; exact h3,h4⟩
theorem bFold_sim (hR:Rel E w0 ρ s w) (hA:ARel ρ a ca) {f:V->V->Option V} {g:Value->Value->Sem Value} (hfg:∀{x y v:V} {cx cy:Value},VRel ρ x cx->VRel ρ y cy->f x y=some v->∃cv,(g cx cy).run P w=.ok cv w/\VRel ρ v cv)
 {x:Operand} {l:List Operand} {nx:Nx} (h:qik E f x l a s=some nx):qb5 P E w0 ρ (do pure (Next.value (<- (l.map ca.eval).foldlM g (ca.eval x)))) w nx:=by
 unfold qik at h;simp only[oI]at h;obtain⟨v,hv,vs,hvs,h⟩:=h;obtain⟨u,hu,rfl⟩:=qhs h;obtain⟨cv,h1,h2⟩:=foldV_sim hfg (qa7 hR hA hv) (qe0 hR hA hvs) hu;exact qaj h1 (Rho.le_refl ρ) h2 hR
end
section
variable {P:Program} {E:Env} {w0:Base} {ρ:Rho} {s:St} {w:World} {a:Ac} {ca:Act}
theorem qci {s s':St} {b:Nat} {o:O} (h:qky s b=some (o,s')):s.heap.get b=some o/\s'=s.note b 0 big false:=by
 unfold qky at h;simp only[oI,oS,pM]at h;obtain⟨o',ho,rfl,rfl⟩:=h;exact⟨ho,rfl⟩
theorem setO_eq (s:St) (b:Nat) (o:O):setO s b o=(s.note b 0 big true).put b o:=rfl
theorem qmd (hR:Rel E w0 ρ s w) {r:Nat} {es:List ME} {clock:Nat} (h:s.heap.get r=some (.map es clock)) {cr sh sz:Nat} (hρ:ρ r=some (cr,sh,sz)) :
 ∃ces,w.heap[cr]?=some (.map ces clock)/\MERels ρ es ces.toList:=by
 obtain⟨cr',sh',sz',ces,hρ',hB,hw,hm⟩:=hR.obj _ _ h;rw[hρ]at hρ'; simp only[oS,pM]at hρ'; obtain⟨rfl,rfl,rfl⟩:=hρ';exact⟨ces,hw,hm⟩
theorem qhh (w:World) {cr:Nat} {o:Obj} (o':Obj) (h:w.heap[cr]?=some o):Upd w cr o' {w with heap:=w.heap.setIfInBounds cr o'}:=by
 have hlt:cr<w.heap.size:=by
  rcases Nat.lt_or_ge cr w.heap.size with h'|h'
  . exact h'
  . rw[Array.getElem?_eq_none h']at h; cases h
 exact⟨by simp[hlt],fun j hj=>Array.getElem?_setIfInBounds_ne (fun e=>hj e.symm),by simp,rfl,rfl,rfl⟩
theorem qe5 (hR:Rel E w0 ρ s w) {r:Nat} {es es':List ME} {clock clock':Nat} (h:s.heap.get r=some (.map es clock)) {cr sh sz:Nat} (hρ:ρ r=some (cr,sh,sz)) {ces':Array MapEntry} (hm:MERels ρ es' ces'.toList) :
 Rel E w0 ρ (setO (s.note r 0 big false) r (.map es' clock')) {w with heap:=w.heap.setIfInBounds cr (.map ces' clock')}:=by
 obtain⟨ces,hw,_⟩:=qmd hR h hρ;have hu:=qhh w (.map ces' clock') hw;obtain⟨cr',sh',sz',ces0,hρ',hB,hw',_⟩:=hR.obj _ _ h;rw[hρ]at hρ'; simp only[oS,pM]at hρ'; obtain⟨rfl,rfl,rfl⟩:=hρ';rw[setO_eq];have hR2:=(hR.note r 0 big false).note r 0 big true;have hb2:((s.note r 0 big false).note r 0 big true).heap.get r=some (.map es clock):=by rw[qam,qam]; exact h
 exact hR2.write hb2 rfl hρ hu ⟨cr,sh,sz,ces',hρ,hB,hu.hit,hm⟩
theorem qiw {d:TypeDesc} {k:V} {ck:Value} (hk:VRel ρ k ck) (hok:qkk d k=true):∀{es:List ME} {ces:List MapEntry} {i:Nat} {r:Option (Nat×V)},MERels ρ es ces->qme k es i=some r->
 ∃cr,Instr.findNow d ck ces i=some cr/\(match r,cr with|none,none=>True|some (j,v),some (j',cv)=>j=j'/\i<=j/\j<i+es.length/\VRel ρ v cv/\(∃e c,es[j-i]?=some e/\ces[j-i]?=some c/\VRel ρ e.k c.key/\Instr.sameBits 10000 c.key ck=true/\e.v=v/\c.val=cv/\e.born=c.born)|_,_=>False):=by
 intro es
 induction es with
 | nil=>
  intro ces i r hes h;cases hes;have hr:r=none:=by cases k<;>simp only[qme,oS]at h<;>exact h.symm
  subst hr;exact⟨none,rfl,trivial⟩
 | cons e es ih=>
  intro ces i r hes h;cases hes with
  | @cons _ c _ cl he ht=>
  have hek:=he.k
  have next:∀{r:Option (Nat×V)},qme k es (i+1)=some r->Instr.sameNow d ck c.key=some false->
   ∃cr,Instr.findNow d ck (c::cl) i=some cr/\(match r,cr with|none,none=>True|some (j,v),some (j',cv)=>j=j'/\i<=j/\j<i+(e::es).length/\VRel ρ v cv/\(∃e' c',(e::es)[j-i]?=some e'/\(c::cl)[j-i]?=some c'/\VRel ρ e'.k c'.key/\Instr.sameBits 10000 c'.key ck=true/\e'.v=v/\c'.val=cv/\e'.born=c'.born)|_,_=>False):=by
   intro r hr hs;obtain⟨cr,h1,h2⟩:=ih ht hr;refine⟨cr,by simp only[Instr.findNow,hs]; exact h1,?_⟩;cases r with
   | none=>cases cr<;>exact h2
   | some p=>
    cases cr with
    | none=>exact h2
    | some q=>
     obtain⟨h3,h4,h5,h6,e',c',h7,h8,h9⟩:=h2;refine⟨h3,by omega,by simp only[List.length_cons]; omega,h6,e',c',?_,?_,h9⟩
     . rw[show p.1-i=(p.1-(i+1))+1 by omega]; simpa using h7
     . rw[show p.1-i=(p.1-(i+1))+1 by omega]; simpa using h8
  have hit:Instr.sameNow d ck c.key=some true->Instr.sameBits 10000 c.key ck=true->
   ∃cr,Instr.findNow d ck (c::cl) i=some cr/\(match(some (i,e.v):Option (Nat×V)),cr with|none,none=>True|some (j,v),some (j',cv)=>j=j'/\i<=j/\j<i+(e::es).length/\VRel ρ v cv/\(∃e' c',(e::es)[j-i]?=some e'/\(c::cl)[j-i]?=some c'/\VRel ρ e'.k c'.key/\Instr.sameBits 10000 c'.key ck=true/\e'.v=v/\c'.val=cv/\e'.born=c'.born)|_,_=>False):=by
   intro hs hb;exact⟨some (i,c.val),by simp only[Instr.findNow,hs],rfl,lR _,by simp,he.v,e,c,by simp,by simp,hek,hb,rfl,rfl,he.born⟩
  cases k<;>cases d<;>simp only[qkk,Bool.false_eq_true]at hok
  . rename_i kk p kd
    simp only[qme]at h;cases hk;generalize hkc:c.key=ckey at hek;generalize hke:e.k=ek at hek h;cases hek<;>simp only[reduceCtorEq]at h;rename_i k' q;cases hkk:ikEq kk k' with
    | false=>rw[hkk]at h; cases h
    | true=>
     rw[hkk]at h;rw[ikEq_true]at hkk;subst hkk;simp only[cT,qk4]at h;by_cases hpq:p=q
     . subst hpq
       simp only[beq_self_eq_true,cT,oS]at h;subst h;exact hit (by rw[hkc]; simp[Instr.sameNow]) (by rw[hkc]; simp[Instr.sameBits])
     . rw[beq_eq_false_iff_ne.2 hpq]at h
       exact next h (by rw[hkc]; simp[Instr.sameNow,hpq])
  . simp only[qme]at h
    cases hk with
    | str str=>
    generalize hkc:c.key=ckey at hek;generalize hke:e.k=ek at hek h;cases hek<;>simp only[reduceCtorEq]at h;rename_i str2;rw[qn0]at h;by_cases hpq:str.data.toList=str2.data.toList
    . have hss:str2=str:=by
       obtain⟨⟨x⟩⟩:=str;obtain⟨⟨y⟩⟩:=str2;simp at hpq; subst hpq; rfl
      subst hss;simp only[beq_self_eq_true,cT,oS]at h;subst h;have hrefl:(str2==str2)=true:=by rw[beq_toListBytes]; simp
      exact hit (by rw[hkc]; simp[Instr.sameNow,hrefl]) (by rw[hkc]; simp[Instr.sameBits,hrefl])
    . rw[beq_eq_false_iff_ne.2 hpq]at h
      refine next h ?_
      rw[hkc];simp only[Instr.sameNow,oS];rw[beq_toListBytes,qcm,qcm,beq_eq_false_iff_ne];exact hpq
theorem qfk (hE:EnvOk P E) {kt:TypeId} {d:TypeDesc} {k:V} {ck:Value} (hd:und E kt=some d) (hk:VRel ρ k ck) (hok:qkk d k=true) (em:Bool):(Instr.checkKey em 10000 kt ck).run P w=.ok () w:=by
 unfold Instr.checkKey;rw[qa0 (qal hE hd w)];cases d<;>cases k<;>simp only[qkk,Bool.false_eq_true]at hok<;>cases hk<;>rfl
end
section
variable {P:Program} {E:Env} {w0:Base} {ρ:Rho} {s:St} {w:World} {a:Ac} {ca:Act}
theorem qcj {r:Nat} {es:Array MapEntry} {clock:Nat} (h:w.heap[r]?=some (.map es clock)):(getObj r).run P w=.ok (.map es clock) w:=by simp[getObj,Sem.run,h]
theorem qdb {r:Nat} {es:Array MapEntry} {clock:Nat} {o:Obj} (h:w.heap[r]?=some (.map es clock)):(setObj r o).run P w=.ok () {w with heap:=w.heap.setIfInBounds r o}:=by simp[setObj,Sem.run,h]
theorem qd3 (hE:EnvOk P E) {kt:TypeId} {d:TypeDesc} (hd:und E kt=some d) {ck:Value} {ces:List MapEntry} {r:Option (Nat×Value)} (h:Instr.findNow d ck ces 0=some r) :
 (Instr.findKey kt ck ces).run P w=.ok r w:=by
 unfold Instr.findKey;rw[qa0 (qal hE hd w)];simp[h]
theorem qf6 {old new:Value} (h:Instr.sameBits 10000 old new=true):(Instr.keyThatStays old new).run P w=.ok new w:=by
 simp[Instr.keyThatStays,h]
theorem MERels.get {es:List ME} {ces:List MapEntry} (h:MERels ρ es ces):∀(i:Nat) (e:ME) (c:MapEntry),es[i]?=some e->ces[i]?=some c->MERel ρ e c:=by
 induction h with
 | nil=>intro i e c h; simp at h
 | cons h t ih=>
  intro i e c h1 h2;cases i with
  | zero=>simp at h1 h2; subst h1; subst h2; exact h
  | succ i=>exact ih i e c (by simpa using h1) (by simpa using h2)
theorem MERels.snoc {es:List ME} {ces:List MapEntry} (h:MERels ρ es ces) {e:ME} {c:MapEntry} (he:MERel ρ e c):MERels ρ (es++[e]) (ces++[c]):=by
 induction h with
 | nil=>exact .cons he .nil
 | cons h t ih=>exact .cons h ih
theorem MERels.setAt {es:List ME} {ces:List MapEntry} (h:MERels ρ es ces):∀(i:Nat) (f:MapEntry->MapEntry) (k v:V),(∀e c,es[i]?=some e->ces[i]?=some c->MERel ρ {e with k:=k,v:=v} (f c))->
 MERels ρ (setME i k v es) (ces.modify i f):=by
 induction h with
 | nil=>intro i f k v _; simp[setME]; exact .nil
 | cons h t ih=>
  intro i f k v hf;cases i with
  | zero=>simp only[setME,List.modify_zero_cons]; exact .cons (hf _ _ (by simp) (by simp)) t
  | succ i=>
   simp only[setME,List.modify_succ_cons];exact .cons h (ih i f k v fun e c h1 h2=>hf e c (by simpa using h1) (by simpa using h2))
theorem MERels.dropAt {es:List ME} {ces:List MapEntry} (h:MERels ρ es ces):∀(i:Nat),MERels ρ (dropME i es) (ces.eraseIdx i):=by
 induction h with
 | nil=>intro i; simp[dropME]; exact .nil
 | cons h t ih=>
  intro i;cases i with
  | zero=>simpa [dropME]using t
  | succ i=>simp only[dropME,List.eraseIdx_cons_succ]; exact .cons h (ih i)
theorem qfx {α:Type} (xs:Array α) (i:Nat) (f:α->α):(xs.modify i f).toList=xs.toList.modify i f:=by simp
theorem qjw {α:Type} (xs:Array α) (i:Nat):(xs.eraseIdxIfInBounds i).toList=xs.toList.eraseIdx i:=by
 simp
theorem lookupV_sim (hE:EnvOk P E) (hR:Rel E w0 ρ s w) {t:TypeId} {x k:V} {cx ck:Value} {ok:Bool} {v:V} {s':St} (hx:VRel ρ x cx) (hk:VRel ρ k ck) (h:qgm E t x k ok s=some (v,s')) :
 ∃cv,(Instr.lookup t cx ck ok).run P w=.ok cv w/\VRel ρ v cv/\Same s s':=by
 unfold qgm at h;simp only[oI]at h;obtain⟨d,hd,h⟩:=h;cases d<;>simp only[reduceCtorEq]at h;rename_i kt et;simp only[oI]at h;obtain⟨dk,hdk,h⟩:=h;cases hok:qkk dk k with
 | false=>rw[hok]at h; cases h
 | true=>
 rw[hok]at h;simp only[cT,oI,Prod.exists]at h;obtain⟨es,s1,hes,r,hr,h⟩:=h
 have fin:∀{ces:Array MapEntry},MERels ρ es ces.toList->Same s s1->
  (∀(K:Array MapEntry->Sem Value),(∀es',K es'=(do
      Instr.checkKey es'.isEmpty 10000 kt ck
      let __do_lift <- Instr.findKey kt ck es'.toList
      match __do_lift with
       | some (_,v)=>pure (if ok=true then Value.tuple #[v,Value.bool true]else v)
       | none=>do
        let z <- zeroValue et
        pure (if ok=true then Value.tuple #[z,Value.bool false]else z)))->(Instr.lookup t cx ck ok).run P w=(K ces).run P w)->
  ∃cv,(Instr.lookup t cx ck ok).run P w=.ok cv w/\VRel ρ v cv/\Same s s':=by
  intro ces hm hs1 hrun;obtain⟨cr,hf,hrel⟩:=qiw hk hok hm hr;have hfk:=qd3 (w:=w) hE hdk hf;have hck:=qfk (P:=P) (w:=w) hE hdk hk hok ces.isEmpty;rw[hrun _ fun _=>rfl];rw[qa0 hck,qa0 hfk];cases r with
  | none=>
   cases cr with
   | some q=>exact hrel.elim
   | none=>
   simp only[oI,oS,pM]at h;obtain⟨z,hz,rfl,rfl⟩:=h;obtain⟨cz,hz1,hz2,hz3⟩:=qdy hE hz;refine⟨if ok then .tuple #[cz,.bool false]else cz,by rw[qa0 (hz1 w)]; rfl,?_,hs1⟩;cases ok
   . exact hz2 ρ
   . exact .tuple (.cons (hz2 ρ) (.cons (.bool _) .nil))
  | some q=>
   obtain⟨j,u⟩:=q;cases cr with
   | none=>exact hrel.elim
   | some q'=>
   obtain⟨j',cu⟩:=q';simp only[oS,pM]at h;obtain⟨rfl,rfl⟩:=h;refine⟨if ok then .tuple #[cu,.bool true]else cu,rfl,?_,hs1⟩;cases ok
   . exact hrel.2.2.2.1
   . exact .tuple (.cons hrel.2.2.2.1 (.cons (.bool _) .nil))
 cases hx<;>simp only[reduceCtorEq]at hes
 case map r cr sh sz hρ=>
  simp only[oI,Prod.exists]at hes;obtain⟨o,s2,hg,hes⟩:=hes;obtain⟨hb,rfl⟩:=qci hg;cases o<;>simp only[reduceCtorEq,oS,pM]at hes;obtain⟨rfl,rfl⟩:=hes;obtain⟨ces,hw,hm⟩:=qmd hR hb hρ;refine fin hm (Same.note ..) fun K hK=>?_;rw[hK];unfold Instr.lookup;rw[qa0 (qal hE hd w)];show((getObj cr) >>= _).run P w=_;rw[qa0 (qcj hw)];simp only
  congr 1
 case nilmap=>
  simp only[oS,pM]at hes;obtain⟨rfl,rfl⟩:=hes;refine fin (ces:=#[]) .nil (Same.refl _) fun K hK=>?_;rw[hK];unfold Instr.lookup;rw[qa0 (qal hE hd w)];simp only
  congr 1
theorem oLookup_sim (hE:EnvOk P E) (hR:Rel E w0 ρ s w) (hA:ARel ρ a ca) {t:TypeId} {x i:Operand} {ok:Bool} {nx:Nx} (h:qgp E t x i ok a s=some nx) :
 qb5 P E w0 ρ (do pure (Next.value (<- Instr.lookup t (ca.eval x) (ca.eval i) ok))) w nx:=by
 unfold qgp at h;simp only[oI]at h;obtain⟨m,hm,k,hk,h⟩:=h;obtain⟨v,s',hl,rfl⟩:=qnd h;obtain⟨cv,hrun,hv,hs⟩:=lookupV_sim hE hR (qa7 hR hA hm) (qa7 hR hA hk) hl;exact qaj hrun (Rho.le_refl ρ) hv (hR.same hs)
theorem updateV_sim (hE:EnvOk P E) (hR:Rel E w0 ρ s w) {t:TypeId} {m k v:V} {cm ck cv:Value} {s':St} (hm:VRel ρ m cm) (hk:VRel ρ k ck) (hv:VRel ρ v cv) (h:qfy E t m k v s=some s') :
 ∃w',(Instr.mapUpdate t cm ck cv).run P w=.ok () w'/\Rel E w0 ρ s' w':=by
 unfold qfy at h;simp only[oI]at h;obtain⟨d,hd,h⟩:=h;cases d<;>simp only[reduceCtorEq]at h;rename_i kt et;simp only[oI]at h;obtain⟨dk,hdk,h⟩:=h;cases hok:qkk dk k with
 | false=>rw[hok]at h; cases h
 | true=>
 rw[hok]at h;simp only[cT]at h;cases hm<;>simp only[reduceCtorEq]at h;rename_i r cr sh sz hρ;simp only[oI,Prod.exists]at h;obtain⟨o,s2,hg,h⟩:=h;obtain⟨hb,rfl⟩:=qci hg;cases o<;>simp only[reduceCtorEq]at h;rename_i es clock;simp only[oI]at h;obtain⟨q,hq,h⟩:=h;obtain⟨ces,hw,hes⟩:=qmd hR hb hρ;obtain⟨cq,hf,hrel⟩:=qiw hk hok hes hq;have hfk:=qd3 (w:=w) hE hdk hf;have hck:=qfk (P:=P) (w:=w) hE hdk hk hok false;cases q with
 | none=>
  cases cq with
  | some q=>exact hrel.elim
  | none=>
  simp only[oS]at h;subst h;refine⟨_,?_,qe5 (ces':=ces.push {key:=ck,val:=cv,born:=clock}) (clock':=clock+1) hR hb hρ (by simpa using hes.snoc ⟨hk,hv,rfl⟩)⟩;unfold Instr.mapUpdate;rw[qa0 (qal hE hd w)];show((getObj cr) >>= _).run P w=_;rw[qa0 (qcj hw)];show((Instr.checkKey false 10000 kt ck) >>= _).run P w=_;rw[qa0 hck,qa0 hfk];exact qdb hw
 | some q=>
  obtain⟨j,u⟩:=q;cases cq with
  | none=>exact hrel.elim
  | some q'=>
  obtain⟨j',cu⟩:=q';simp only[oS]at h;subst h;obtain⟨rfl,h0,h1,h2,e,c,h3,h4,h5,h6,h7,h8,h9⟩:=hrel;simp only[Nat.sub_zero]at h3 h4;refine⟨_,?_,qe5 (ces':=ces.modify j fun e=>{e with key:=ck,val:=cv}) (clock':=clock) hR hb hρ ?_⟩
  . unfold Instr.mapUpdate
    rw[qa0 (qal hE hd w)];show((getObj cr) >>= _).run P w=_;rw[qa0 (qcj hw)];show((Instr.checkKey false 10000 kt ck) >>= _).run P w=_;rw[qa0 hck,qa0 hfk];have h4':ces[j]?=some c:=by simpa using h4
    simp only[h4',Option.map_some,Option.getD_some];show((Instr.keyThatStays c.key ck) >>= _).run P w=_;rw[qa0 (qf6 h6)];exact qdb hw
  . rw[qfx]
    refine hes.setAt j _ k v fun e' c' he' hc'=>⟨hk,hv,?_⟩
    exact(hes.get j e' c' he' hc').born
theorem qml (hE:EnvOk P E) (hR:Rel E w0 ρ s w) (hA:ARel ρ a ca) {t:TypeId} {m k x:Operand} {nx:Nx} (h:qd1 E t m k x a s=some nx) :
 qb5 P E w0 ρ (do Instr.mapUpdate t (ca.eval m) (ca.eval k) (ca.eval x); pure Next.skip) w nx:=by
 unfold qd1 at h;simp only[oI]at h;obtain⟨vm,hm,vk,hk,v,hv,h⟩:=h;obtain⟨s',hl,rfl⟩:=uS_inv h;obtain⟨w',hrun,hR'⟩:=updateV_sim hE hR (qa7 hR hA hm) (qa7 hR hA hk) (qa7 hR hA hv) hl;exact nx_unit hrun (Rho.le_refl ρ) hR'
theorem getME_eq:∀(es:List ME) (i:Nat),getME es i=es[i]?
 | [],i=>by simp[getME]
 | e::es,0=>by simp[getME]
 | e::es,i+1=>by simp only[getME]; rw[show Nat.beq (i+1) 0=false from rfl]; simp[getME_eq es i]
theorem entryV_sim (hE:EnvOk P E) (hR:Rel E w0 ρ s w) {t:TypeId} {m k v:V} {cm ck:Value} {s':St} (hm:VRel ρ m cm) (hk:VRel ρ k ck) (h:qk2 E t m k s=some (v,s')) :
 ∃cv w',(Instr.mapEntry t cm ck).run P w=.ok cv w'/\VRel ρ v cv/\Rel E w0 ρ s' w':=by
 unfold qk2 at h;simp only[oI]at h;obtain⟨d,hd,h⟩:=h;cases d<;>simp only[reduceCtorEq]at h;rename_i kt et;simp only[oI]at h;obtain⟨dk,hdk,h⟩:=h;cases hok:qkk dk k with
 | false=>rw[hok]at h; cases h
 | true=>
 rw[hok]at h;simp only[cT]at h;cases hm<;>simp only[reduceCtorEq]at h;rename_i r cr sh sz hρ;simp only[oI,Prod.exists]at h;obtain⟨o,s2,hg,h⟩:=h;obtain⟨hb,rfl⟩:=qci hg;cases o<;>simp only[reduceCtorEq]at h;rename_i es clock;simp only[oI]at h;obtain⟨q,hq,h⟩:=h;obtain⟨ces,hw,hes⟩:=qmd hR hb hρ;obtain⟨cq,hf,hrel⟩:=qiw hk hok hes hq;have hfk:=qd3 (w:=w) hE hdk hf;have hck:=qfk (P:=P) (w:=w) hE hdk hk hok false;cases q with
 | none=>
  cases cq with
  | some q=>exact hrel.elim
  | none=>
  simp only[oI,oS,pM]at h;obtain⟨z,hz,rfl,rfl⟩:=h;obtain⟨cz,hz1,hz2,hz3⟩:=qdy hE hz;refine⟨.tuple #[cz,goInt clock],_,?_,.tuple (.cons (hz2 ρ) (.cons (.int _ _) .nil)),qe5 (ces':=ces.push {key:=ck,val:=cz,born:=clock}) (clock':=clock+1) hR hb hρ (by simpa using hes.snoc ⟨hk,hz2 ρ,rfl⟩)⟩;unfold Instr.mapEntry;rw[qa0 (qal hE hd w)];show((getObj cr) >>= _).run P w=_;rw[qa0 (qcj hw)];show((Instr.checkKey false 10000 kt ck) >>= _).run P w=_;rw[qa0 hck,qa0 hfk];show((zeroValue et) >>= _).run P w=_;rw[qa0 (hz1 w),qa0 (qdb hw)];rfl
 | some q=>
  obtain⟨j,u⟩:=q;cases cq with
  | none=>exact hrel.elim
  | some q'=>
  obtain⟨j',cu⟩:=q';simp only[oI,oS,pM]at h;obtain⟨e1,he1,rfl,rfl⟩:=h;obtain⟨rfl,h0,h1,h2,e,c,h3,h4,h5,h6,h7,h8,h9⟩:=hrel;simp only[Nat.sub_zero]at h3 h4;rw[getME_eq,h3]at he1;simp only[oS]at he1;subst he1;have h4':ces[j]?=some c:=by simpa using h4
  refine⟨.tuple #[cu,goInt c.born],_,?_,.tuple (.cons h2 (.cons (by rw[h9]; exact .int _ _) .nil)),qe5 (ces':=ces.modify j fun e=>{e with key:=ck}) (clock':=clock) hR hb hρ ?_⟩
  . unfold Instr.mapEntry
    rw[qa0 (qal hE hd w)];show((getObj cr) >>= _).run P w=_;rw[qa0 (qcj hw)];show((Instr.checkKey false 10000 kt ck) >>= _).run P w=_;rw[qa0 hck,qa0 hfk];simp only[h4',Option.map_some,Option.getD_some];show((Instr.keyThatStays c.key ck) >>= _).run P w=_;rw[qa0 (qf6 h6),qa0 (qdb hw)];rfl
  . rw[qfx]
    refine hes.setAt j _ k u fun e' c' he' hc'=>⟨hk,?_,?_⟩
    . rw[h3]at he'; simp only[oS]at he'; subst he'
      rw[h4]at hc'; simp only[oS]at hc'; subst hc';rw[h8]; exact h2
    . exact(hes.get j e' c' he' hc').born
theorem oEntry_sim (hE:EnvOk P E) (hR:Rel E w0 ρ s w) (hA:ARel ρ a ca) {t:TypeId} {m k:Operand} {nx:Nx} (h:qk6 E t m k a s=some nx) :
 qb5 P E w0 ρ (do pure (Next.value (<- Instr.mapEntry t (ca.eval m) (ca.eval k)))) w nx:=by
 unfold qk6 at h;simp only[oI]at h;obtain⟨vm,hm,vk,hk,h⟩:=h;obtain⟨v,s',hl,rfl⟩:=qnd h;obtain⟨cv,w',hrun,hv,hR'⟩:=entryV_sim hE hR (qa7 hR hA hm) (qa7 hR hA hk) hl;exact qaj hrun (Rho.le_refl ρ) hv hR'
theorem setBorn_sim {n:Nat} {v:V} {cv:Value} (hv:VRel ρ v cv):∀{es:List ME} {ces:List MapEntry} {es':List ME},MERels ρ es ces->qn3 n v es=some es'->
 ∃i,ces.findIdx? (fun e=>(e.born:Int)==(n:Int))=some i/\MERels ρ es' (ces.modify i fun e=>{e with val:=cv}):=by
 intro es
 induction es with
 | nil=>intro ces es' _ h; simp[qn3]at h
 | cons e es ih=>
  intro ces es' hes h;cases hes with
  | @cons _ c _ cl he ht=>
  simp only[qn3]at h;cases hb:Nat.beq e.born n with
  | true=>
   rw[hb]at h;simp only[cT,oS]at h;subst h;have hn:=Nat.eq_of_beq_eq_true hb;refine⟨0,?_,?_⟩
   . rw[List.findIdx?_cons]; rw[<- he.born,hn]; simp
   . simp only[List.modify_zero_cons]; exact .cons ⟨he.k,hv,he.born⟩ ht
  | false=>
   rw[hb]at h;simp only[cF,oI,oS]at h;obtain⟨r,hr,rfl⟩:=h;obtain⟨i,h1,h2⟩:=ih ht hr;refine⟨i+1,?_,?_⟩
   . rw[List.findIdx?_cons,<- he.born]
     have:((e.born:Int)==(n:Int))=false:=by
      rw[beq_eq_false_iff_ne];intro hh;have hh':e.born=n:=by omega
      have:=Nat.ne_of_beq_eq_false hb;exact this hh'
     rw[this];simp[h1]
   . simp only[List.modify_succ_cons]; exact .cons he h2
theorem qlz (hR:Rel E w0 ρ s w) {t:TypeId} {m st v:V} {cm cst cv:Value} {s':St} (hm:VRel ρ m cm) (hst:VRel ρ st cst) (hv:VRel ρ v cv) (h:qca m st v s=some s') :
 ∃w',(Instr.entryStore t cm cst cv).run P w=.ok () w'/\Rel E w0 ρ s' w':=by
 unfold qca at h;cases hm<;>try (simp only[reduceCtorEq]at h; done)
 rename_i r cr sh sz hρ;cases hst<;>try (simp only[reduceCtorEq]at h; done)
 rename_i kk nn;cases nn<;>simp only[reduceCtorEq]at h;rename_i n;simp only[oI,Prod.exists]at h;obtain⟨o,s2,hg,h⟩:=h;obtain⟨hb,rfl⟩:=qci hg;cases o<;>simp only[reduceCtorEq]at h;rename_i es clock;simp only[oI,oS]at h;obtain⟨es',hes',rfl⟩:=h;obtain⟨ces,hw,hes⟩:=qmd hR hb hρ;obtain⟨i,hi,hes2⟩:=setBorn_sim hv hes hes';refine⟨_,?_,qe5 (ces':=ces.modify i fun e=>{e with val:=cv}) (clock':=clock) hR hb hρ (by rw[qfx]; exact hes2)⟩
 have hi':ces.findIdx? (fun e=>(e.born:Int)==(n:Int))=some i:=by
  obtain⟨l⟩:=ces;simpa using hi
 unfold Instr.entryStore;show((getObj cr) >>= _).run P w=_;rw[qa0 (qcj hw)];simp[asInt,asIntOf,hi',qdb hw]
theorem qmk (hR:Rel E w0 ρ s w) (hA:ARel ρ a ca) {t:TypeId} {m st x:Operand} {nx:Nx} (h:qce E m st x a s=some nx) :
 qb5 P E w0 ρ (do Instr.entryStore t (ca.eval m) (ca.eval st) (ca.eval x); pure Next.skip) w nx:=by
 unfold qce at h;simp only[oI]at h;obtain⟨vm,hm,vk,hk,v,hv,h⟩:=h;obtain⟨s',hl,rfl⟩:=uS_inv h;obtain⟨w',hrun,hR'⟩:=qlz (P:=P) (t:=t) hR (qa7 hR hA hm) (qa7 hR hA hk) (qa7 hR hA hv) hl;exact nx_unit hrun (Rho.le_refl ρ) hR'
theorem deleteV_sim (hE:EnvOk P E) (hR:Rel E w0 ρ s w) {t:TypeId} {m k:V} {cm ck:Value} {s':St} (hm:VRel ρ m cm) (hk:VRel ρ k ck) (h:qgg E t m k s=some s') (ts:List TypeId) (ty:TypeId) :
 ∃w',(Builtin.delete_ (t::ts).toArray ty #[cm,ck]).run P w=.ok (.tuple #[]) w'/\Rel E w0 ρ s' w':=by
 unfold qgg at h;simp only[oI]at h;obtain⟨d,hd,h⟩:=h;cases d<;>simp only[reduceCtorEq]at h;rename_i kt et;simp only[oI]at h;obtain⟨dk,hdk,h⟩:=h;cases hok:qkk dk k with
 | false=>rw[hok]at h; cases h
 | true=>
 rw[hok]at h;simp only[cT]at h;have hck:=fun em=>qfk (P:=P) (w:=w) hE hdk hk hok em;cases hm<;>simp only[reduceCtorEq]at h
 case nilmap=>
  simp only[oS]at h;subst h;refine⟨w,?_,hR⟩;unfold Builtin.delete_;simp[qal hE hd,hck]
 case map r cr sh sz hρ=>
  simp only[oI,Prod.exists]at h;obtain⟨o,s2,hg,h⟩:=h;obtain⟨hb,rfl⟩:=qci hg;cases o<;>simp only[reduceCtorEq]at h;rename_i es clock;simp only[oI]at h;obtain⟨q,hq,h⟩:=h;obtain⟨ces,hw,hes⟩:=qmd hR hb hρ;obtain⟨cq,hf,hrel⟩:=qiw hk hok hes hq;have hfk:=qd3 (w:=w) hE hdk hf;cases q with
  | none=>
   cases cq with
   | some q=>exact hrel.elim
   | none=>
   simp only[oS]at h;subst h;refine⟨_,?_,qe5 (ces':=ces) (clock':=clock) hR hb hρ hes⟩;unfold Builtin.delete_;simp[qal hE hd,hck,qcj hw,hfk,qdb hw]
  | some q=>
   obtain⟨j,u⟩:=q;cases cq with
   | none=>exact hrel.elim
   | some q'=>
   obtain⟨j',cu⟩:=q';simp only[oS]at h;subst h;obtain⟨rfl,_⟩:=hrel;refine⟨_,?_,qe5 (ces':=ces.eraseIdxIfInBounds j) (clock':=clock) hR hb hρ (by rw[qjw]; exact hes.dropAt j)⟩;unfold Builtin.delete_;simp[qal hE hd,hck,qcj hw,hfk,qdb hw]
end
section
variable {P:Program} {E:Env} {w0:Base} {ρ:Rho} {s:St} {w:World} {a:Ac} {ca:Act}
theorem oRange_sim (hE:EnvOk P E) (hR:Rel E w0 ρ s w) (hA:ARel ρ a ca) {t:TypeId} {x:Operand} {nx:Nx} (h:qk7 E t x a s=some nx) :
 qb5 P E w0 ρ (do pure (Next.value (<- Instr.range t (ca.eval x)))) w nx:=by
 unfold qk7 at h;simp only[oI]at h;obtain⟨d,hd,h⟩:=h;cases d<;>simp only[reduceCtorEq]at h;simp only[oI]at h;obtain⟨v,hv,h⟩:=h;have hr:=qa7 hR hA hv;cases v<;>simp only[reduceCtorEq,oS]at h;subst h;generalize ca.eval x=cx at hr ⊢;cases hr with
 | str str=>
 refine qaj (ρ':=ρ.add s.next (w.heap.size,0,0)) (w':={w with heap:=w.heap.push (.stringIter str 0)}) (cv:=.pointer (some ⟨w.heap.size,0,none⟩)) ?_ (Rho.add_le hR.fresh) (.ptr (sh:=0) Rho.add_same) (hR.new _ _ _ ⟨w.heap.size,0,str,Rho.add_same,hR.newBlock,?_,rfl,rfl⟩)
 . simp[Instr.range,qal hE hd]
 . show(w.heap.push _)[w.heap.size]?=_
   rw[Array.getElem?_push,iP rfl]
theorem beqN (a b:Nat):Nat.beq a b=(a==b):=by
 rw[Bool.eq_iff_iff,beq_true,beq_iff_eq]
theorem bltN (a b:Nat):Nat.blt a b=decide (a<b):=by
 rw[Bool.eq_iff_iff,blt_true,decide_eq_true_eq]
theorem bleN (a b:Nat):Nat.ble a b=decide (a<=b):=by
 rw[Bool.eq_iff_iff,ble_true,decide_eq_true_eq]
theorem qje (str:ByteArray) (i:Nat) (h:i<str.size):qck (qb0 str.data.toList) i=(str.get! i).toNat:=by
 have h1:i<str.data.toList.length:=by rw[Array.length_toList]; exact h
 refine pack_at i _ _ ?_;rw[List.getElem?_eq_getElem h1];have:str.get! i=str.data[i]!:=rfl;rw[this,getElem!_pos str.data i (by simpa using h1)];simp
theorem validP_spec (c:Nat):validP c=Utf8.valid (c:Int):=by
 rw[Bool.eq_iff_iff];simp only[validP,Utf8.valid,Bool.or_eq_true,bA,decide_eq_true_eq,blt_true,Nat.ble_eq];omega
theorem decP_spec (str:ByteArray) (i:Nat) (h:i<str.size):Utf8.decode str i=decP str.data.toList.length (qb0 str.data.toList) i:=by
 have hsz:str.data.toList.length=str.size:=by rw[Array.length_toList]; rfl
 have hc:∀k,contP str.data.toList.length (qb0 str.data.toList) (i+k)=(decide (i+k<str.size)&&(str.get! (i+k)).toNat/64==2):=by
  intro k;unfold contP;rw[hsz];by_cases hk:i+k<str.size
  . rw[qje str _ hk,blt_true.2 hk]
    simp[hk,beqN]
  . have:Nat.blt (i+k) str.size=false:=by
     cases hb:Nat.blt (i+k) str.size with
     | false=>rfl
     | true=>exact absurd (blt_true.1 hb) hk
    rw[this]; simp[hk]
 have h0:=qje str i h;have h1:=hc 1;have h2:=hc 2;have h3:=hc 3;unfold Utf8.decode decP;simp only[Nat.add_zero];rw[h0,h1,h2,h3];have hb:∀k,i+k<str.size->qck (qb0 str.data.toList) (i+k)=(str.get! (i+k)).toNat:=fun k hk=>qje str _ hk;simp only[beqN,bltN,bleN,cond_eq_ite,Utf8.runeError,decide_eq_true_eq,bA,validP_spec,beq_iff_eq,ge_iff_le];by_cases k1:i+1<str.size
 . rw[hb 1 k1]
   by_cases k2:i+2<str.size
   . rw[hb 2 k2]
     by_cases k3:i+3<str.size
     . rw[hb 3 k3]
     . simp[k3]
   . have k3:¬i+3<str.size:=by omega
     simp[k2,k3]
 . have k2:¬i+2<str.size:=by omega
   have k3:¬i+3<str.size:=by omega
   simp[k1,k2,k3]
theorem oNext_sim (hR:Rel E w0 ρ s w) (hA:ARel ρ a ca) {x:Operand} {isS:Bool} {ty:TypeId} {nx:Nx} (h:oNext E x isS a s=some nx) :
 qb5 P E w0 ρ (do pure (Next.value (<- Instr.next (ca.eval x) isS ty))) w nx:=by
 unfold oNext at h;cases isS with
 | false=>cases h
 | true=>
 simp only[cT,oI]at h;obtain⟨v,hv,h⟩:=h;have hr:=qa7 hR hA hv;cases v<;>simp only[reduceCtorEq]at h;rename_i b off;cases ho:Nat.beq off 0 with
 | false=>rw[ho]at h; cases h
 | true=>
 rw[ho]at h;simp only[cT]at h;have ho':=Nat.eq_of_beq_eq_true ho;subst ho';unfold nextV at h;simp only[oI,Prod.exists]at h;obtain⟨o,s2,hg,h⟩:=h;obtain⟨hb,rfl⟩:=qci hg;cases o<;>simp only[reduceCtorEq]at h;rename_i l n pos;generalize ca.eval x=cx at hr ⊢;cases hr with
 | ptr hρ'=>
 obtain⟨cr,sz,str,hρ,hB,hw,rfl,rfl⟩:=hR.obj _ _ hb;rw[hρ]at hρ'; simp only[oS,pM]at hρ'; obtain⟨rfl,rfl,rfl⟩:=hρ';have hget:(getObj cr).run P w=.ok (.stringIter str pos) w:=by simp[getObj,Sem.run,hw]
 have hsize:str.size=str.data.toList.length:=by rw[Array.length_toList]; rfl
 cases hlt:Nat.blt pos str.data.toList.length with
 | false=>
  rw[hlt]at h;simp only[cF,oS]at h;subst h;have hlt':¬pos<str.size:=fun h=>by rw[hsize,<- blt_true]at h; rw[h]at hlt; cases hlt
  refine qaj (cv:=.tuple #[.bool false]) ?_ (Rho.le_refl ρ) (.tuple (.cons (.bool _) .nil)) (hR.note ..);unfold Instr.next
  simp[hget,hlt']
 | true=>
  rw[hlt]at h;simp only[cT,oS]at h;have hlt':pos<str.size:=by rw[hsize,<- blt_true]; exact hlt
  subst h;have hdec:=decP_spec str pos hlt';rw[<- hdec];have hu:=qhh w (.stringIter str (pos+(Utf8.decode str pos).2)) hw;have hR2:=(hR.note b 0 big false).note b 0 big true;have hb2:((s.note b 0 big false).note b 0 big true).heap.get b=some (.siter str.data.toList.length (qb0 str.data.toList) pos):=by rw[qam,qam]; exact hb
  refine qaj (cv:=.tuple #[.bool true,goInt pos,.int .i32 (Utf8.decode str pos).1]) (w':={w with heap:=w.heap.setIfInBounds cr (.stringIter str (pos+(Utf8.decode str pos).2))}) ?_ (Rho.le_refl ρ)
   (.tuple (.cons (.bool _) (.cons (.int _ _) (.cons (.int _ _) .nil)))) (hR2.write hb2 rfl hρ hu ⟨cr,sz,str,hρ,hB,hu.hit,rfl,rfl⟩)
  have hset:(setObj cr (.stringIter str (pos+(Utf8.decode str pos).2))).run P w=.ok () {w with heap:=w.heap.setIfInBounds cr (.stringIter str (pos+(Utf8.decode str pos).2))}:=by simp[setObj,Sem.run,hw]
  unfold Instr.next
  simp[hget,hlt',hset]
theorem qep {c:UInt8}:∀(l:List UInt8) (i:Nat),indexByte c.toNat l.length i (qb0 l)=(l.findIdx? (fun x=>x==c)).map (fun x=>x+i)
 | [],i=>by simp[indexByte]
 | b::l,i=>by
  simp only[List.length_cons,indexByte,qb0];have hb:b.toNat<256:=b.toNat_lt;rw[show(b.toNat+256*qb0 l)%256=b.toNat by omega,show(b.toNat+256*qb0 l)/256=qb0 l by omega];rw[List.findIdx?_cons];by_cases h:b=c
  . subst h; simp
  . have h1:Nat.beq b.toNat c.toNat=false:=by
     cases hh:Nat.beq b.toNat c.toNat with
     | false=>rfl
     | true=>exact absurd (UInt8.toNat_inj.1 (Nat.eq_of_beq_eq_true hh)) h
    rw[h1];simp only[cF,qep l (i+1),beq_eq_false_iff_ne.2 h,Bool.false_eq_true,if_false];cases l.findIdx? fun x=>x==c<;>simp; omega
theorem findRange {α:Type} [Inhabited α] (p:α->Bool) (xs:Array α):(List.range xs.size).find? (fun i=>p xs[i]!)=xs.toList.findIdx? p:=by
 have h1:xs.toList.findIdx? p=(List.range xs.toList.length).find? (fun i=>p (xs[i]!)):=by
  apply Option.ext;intro i;rw[List.findIdx?_eq_some_iff_getElem,List.find?_range_eq_some];constructor
  . rintro ⟨h,hp,hq⟩
    refine⟨by rw[getElem!_pos xs i (by simpa using h)]; simpa using hp,by simpa using h,fun j hj=>?_⟩;have:=hq j hj;rw[getElem!_pos xs j (by simp at h; omega)];simpa using this
  . rintro ⟨hp,h,hq⟩
    have h':i<xs.size:=by simpa using h
    refine⟨by simpa using h,by rw[getElem!_pos xs i h']at hp; simpa using hp,fun j hj=>?_⟩;have:=hq j hj;rw[getElem!_pos xs j (by omega)]at this;simpa using this
 rw[h1]; simp
theorem countByte_spec {c:UInt8}:∀(l:List UInt8) (acc:Nat),countByte c.toNat l.length (qb0 l) acc=acc+l.count c
 | [],acc=>by simp[countByte]
 | b::l,acc=>by
  simp only[List.length_cons,countByte,qb0];have hb:b.toNat<256:=b.toNat_lt;rw[show(b.toNat+256*qb0 l)%256=b.toNat by omega,show(b.toNat+256*qb0 l)/256=qb0 l by omega];by_cases h:b=c
  . subst h
    rw[Nat.beq_refl];simp only[cT,countByte_spec l,List.count_cons_self];omega
  . have h1:Nat.beq b.toNat c.toNat=false:=by
     cases hh:Nat.beq b.toNat c.toNat with
     | false=>rfl
     | true=>exact absurd (UInt8.toNat_inj.1 (Nat.eq_of_beq_eq_true hh)) h
    rw[h1];simp only[cF,countByte_spec l];rw[List.count_cons_of_ne h]
theorem digits_row:∀(n t:Nat) (acc:Array Value),(∀x∈acc,oneC x=true)->(Extern.BytealgMakeNoZero.digits n t acc).size=acc.size+n/\∀x∈Extern.BytealgMakeNoZero.digits n t acc,oneC x=true
 | 0,t,acc,h=>⟨rfl,h⟩
 | n+1,t,acc,h=>by
  obtain⟨h1,h2⟩:=digits_row n (t/256) (acc.push (.int .u8 (Int.ofNat (t%256)))) (fun x hx=>by
   rw[Array.mem_push]at hx;rcases hx with hx|rfl
   . exact h x hx
   . rfl)
  refine⟨?_,h2⟩;show(Extern.BytealgMakeNoZero.digits n (t/256) _).size=_;rw[h1,Array.size_push]; omega
theorem extV_sim (hR:Rel E w0 ρ s w) {f:FuncId} {k:Nat} (hx:ExtOk P f k) {args:List V} {cargs:Array Value} (hv:VRels ρ args cargs.toList) {nx:Nx} (h:extV k args s=some nx) :
 qb5 P E w0 ρ (callFunc f cargs) w nx:=by
 obtain⟨cl⟩:=cargs;simp only at hv;unfold extV at h;split at h
 . -- the place of a byte
   split at h
   . rename_i l n c
     cases hv with
     | cons h1 ht=>
     cases ht with
     | cons h2 ht=>
     cases ht;cases h1 with
     | str str=>
     cases h2;cases hc:Nat.blt c 256 with
     | false=>rw[hc]at h; cases h
     | true=>
     rw[hc]at h;simp only[cT]at h;rw[blt_true]at hc;have hcu:(c.toUInt8).toNat=c:=by simp; omega
     have hspec:=qep (c:=c.toUInt8) str.data.toList 0;rw[hcu]at hspec;have hfr:=findRange (fun x=>x==c.toUInt8) str.data;have hrun:=hx.one rfl #[.string str,.int .u8 (Int.ofNat c)] w
     have key:(Extern.BytealgIndexByte.indexByte #[.string str,.int .u8 (Int.ofNat c)]).run P w=.ok (match str.data.toList.findIdx? (fun x=>x==c.toUInt8)with|some i=>goInt i|none=>goInt (-1)) w:=by
      have hsz:str.size=str.data.size:=rfl
      have hidx:(fun i=>str[i]! == (c.toUInt8))=fun i=>str.data[i]! == c.toUInt8:=funext fun i=>by
       by_cases h:i<str.size
       . rw[getElem!_pos str i h,getElem!_pos str.data i h]; rfl
       . rw[getElem!_neg str i h,getElem!_neg str.data i h]
      show Sem.run P (match(List.range str.size).find? (fun i=>str[i]! == (c.toUInt8))with|some i=>pure (goInt i)|none=>pure (goInt (-1))) w=_;rw[hsz,hidx,hfr];cases str.data.toList.findIdx? (fun x=>x==c.toUInt8)<;>rfl
     rw[hspec]at h;cases hfi:str.data.toList.findIdx? (fun x=>x==c.toUInt8)with
     | none=>
      rw[hfi]at h key;simp only[Option.map_none,oS]at h;subst h;exact⟨ρ,goInt (-1),w,.inl (by rw[hrun,qa0 key]; rfl),Rho.le_refl ρ,.int _ _,hR⟩
     | some i=>
      rw[hfi]at h key;simp only[Option.map_some,oS,Nat.add_zero]at h;subst h;exact⟨ρ,goInt i,w,.inl (by rw[hrun,qa0 key]; rfl),Rho.le_refl ρ,.int _ _,hR⟩
   . cases h
 . -- a map's copy
   split at h
   . rename_i t r
     cases hv with
     | cons h1 ht=>
     cases ht;cases h1 with
     | iface h1=>
     cases h1 with
     | map hρ=>
     rename_i cr sh sz;simp only[oI,Prod.exists]at h;obtain⟨o,s2,hg,h⟩:=h;obtain⟨hb,rfl⟩:=qci hg;cases o<;>simp only[reduceCtorEq,oS]at h;rename_i es clock;subst h;obtain⟨ces,hw,hes⟩:=qmd hR hb hρ;have hRn:=hR.note r 0 big false;have hrun:=hx.two rfl #[.iface t (.map (some cr))] w;have hnx:(s.note r 0 big false).next=s.next:=qe6 ..
     have hle:ρ.le (ρ.add (s.note r 0 big false).next (w.heap.size,0,0)):=Rho.add_le hRn.fresh;refine⟨ρ.add (s.note r 0 big false).next (w.heap.size,0,0),.iface t (.map (some w.heap.size)),{w with heap:=w.heap.push (.map ces clock)},.inl ?_,hle,.iface (.map Rho.add_same),hRn.new _ _ _ ⟨w.heap.size,0,0,ces,Rho.add_same,hR.newBlock,?_,hes.mono hle⟩⟩
     . rw[hrun]
       have key:(Extern.MapsClone.clone #[.iface t (.map (some cr))]).run P w=.ok (.iface t (.map (some w.heap.size))) {w with heap:=w.heap.push (.map ces clock)}:=by
        show(getObj cr >>= _).run P w=_;rw[qa0 (qcj hw)];rfl
       rw[qa0 key]; rfl
     . show(w.heap.push _)[w.heap.size]?=_
       rw[Array.getElem?_push,iP rfl]
   . cases h
 . -- how often a byte stands there
   split at h
   . rename_i l n c
     cases hv with
     | cons h1 ht=>
     cases ht with
     | cons h2 ht=>
     cases ht;cases h1 with
     | str str=>
     cases h2;cases hc:Nat.blt c 256 with
     | false=>rw[hc]at h; cases h
     | true=>
     rw[hc]at h;simp only[cT,oS]at h;subst h;rw[blt_true]at hc;have hcu:(c.toUInt8).toNat=c:=by simp; omega
     have hspec:=countByte_spec (c:=c.toUInt8) str.data.toList 0;rw[hcu]at hspec;have key:=Lib.run_countString (P:=P) str (Int.ofNat c) w;rw[hspec];exact⟨ρ,_,w,.inl (by rw[hx.three rfl,qa0 key]; rfl),Rho.le_refl ρ,(by simpa [Lib.countByte]using VRel.int (ρ:=ρ) .i64 _),hR⟩
   . cases h
 . -- what is handed over,asg it is
   split at h
   . rename_i x
     cases hv with
     | cons h1 ht=>
     cases ht;simp only[oS]at h;subst h;exact⟨ρ,_,w,.inl (by rw[hx.four rfl]; rfl),Rho.le_refl ρ,h1,hR⟩
   . cases h
 . -- a row of bytes of which nothing is said
   cases hk:Nat.ble 100 k with
   | false=>rw[hk]at h; cases h
   | true=>
   rw[hk]at h;rw[ble_true]at hk;simp only[cT]at h;split at h
   . rename_i n
     cases hv with
     | cons h1 ht=>
     cases ht;cases h1;cases hn:Nat.blt n qai with
     | false=>rw[hn]at h; cases h
     | true=>
     rw[hn]at h;simp only[cT,oS]at h;subst h;rw[blt_true]at hn;obtain⟨ps,rs,t,hrs,hut,hrun⟩:=hx.zero hk
     let cap:=(Question.appendCap n 0 (k-100)).cut (w.tape w.drawn (.appendCap n 0 (k-100)))
     have hcap:n<=cap:=Nat.le_add_right _ _
     let q : Question := .extern "internal/bytealg.MakeNoZero.bytes" 0
     let tp:=q.cut (w.tape (w.drawn+1) q)
     let row:=Extern.BytealgMakeNoZero.digits cap tp #[]
     obtain⟨hrsz,hrone⟩:=digits_row cap tp #[] (by simp);have hrsz':row.size=cap:=by simpa using hrsz
     have hcl:CRel ρ 1 n .nil (row.toList.take n):=⟨by simp[hrsz']; omega,fun x hx=>hrone x (by simpa using List.mem_of_mem_take hx),fun off v cv _ hv=>by simp[qbd,Tr.get_nil]at hv⟩
     have hjoin:row.toList.take n++row.toList.drop n=row.toList:=List.take_append_drop ..;obtain⟨hle,hR'⟩:=qe1 (elem:=k-100) (hR.drew (w.drawn+2)) hcl (0,0) (row.toList.drop n) (.inl rfl);rw[hjoin]at hle hR';have hlen:row.toList.length=cap:=by simpa using hrsz'
     refine⟨_,.slice (some ⟨w.heap.size,0,none⟩) n cap,_,.inl ?_,hle,.oslice (sh:=0) Rho.add_same hcap (by omega) (by rw[hlen]; omega) fun _=>rfl,hR'⟩;rw[hrun]
     have key:(Extern.BytealgMakeNoZero.makeNoZero ps rs #[.int .i64 (Int.ofNat n)]).run P w=.ok (.slice (some ⟨w.heap.size,0,none⟩) n cap) {w with drawn:=w.drawn+2,heap:=w.heap.push (.cells row (k-100) (0,0))}:=by
      have hdef:Extern.BytealgMakeNoZero.makeNoZero ps rs #[.int .i64 (Int.ofNat n)] =
       (do
        let some t := rs[0]? | stuck "bytealg.MakeNoZero: no result type"
        let .slice elem <- underlying t | stuck "bytealg.MakeNoZero: slice type expected"
        if Int.ofNat n < 0 || Int.ofNat n > 2 ^ 48 then runtimePanic (.error "makeslice: len out of range")
        let cap <- choose (.appendCap (Int.ofNat n).toNat 0 elem)
        askRoom cap
        let bytes <- choose (.extern "internal/bytealg.MakeNoZero.bytes" 0)
        let a <- newRow elem (Extern.BytealgMakeNoZero.digits cap bytes #[])
        pure (.slice (some a) (Int.ofNat n).toNat cap)):=rfl
      rw[hdef];clear hdef;simp only[hrs];rw[qa0 (show(underlying t).run P w=.ok (.slice (k-100)) w by simp[underlying,hut])]
      have hno:¬((Int.ofNat n<0||Int.ofNat n>2^48)=true):=by
       have:n<1073741824:=hn;simp; omega
      simp only[];rw[iN hno];simp only[show(Int.ofNat n).toNat=n from rfl];rw[qa0 (show(choose (.appendCap n 0 (k-100))).run P w=.ok cap {w with drawn:=w.drawn+1} by rw[run_choose,iN (by simp[Question.forced])])];rw[qa0 (run_askRoom P _ _)];rw[qa0 (show(choose q).run P {w with drawn:=w.drawn+1}=.ok tp {w with drawn:=w.drawn+1+1} by rw[run_choose,iN (by simp[Question.forced,q])])];rfl
     rw[qa0 key];rfl
   . cases h
theorem callV_sim (hE:EnvOk P E) (hR:Rel E w0 ρ s w) {f:V} {cf:Value} {args:List V} {cargs:Array Value} (hf:VRel ρ f cf) (hv:VRels ρ args cargs.toList) {nx:Nx} (h:qge E f args s=some nx) :
 qb5 P E w0 ρ (do let d <- Deferred.ofValue cf cargs; invoke d.target d.args) w nx:=by
 unfold qge at h;cases hf<;>try (simp only[reduceCtorEq]at h; done)
 case yield l cl sh sz hρ=>
  simp only[oS]at h;subst h;exact⟨cargs,cl,sh,sz,hρ,by rw[show(do let d <- Deferred.ofValue (.func (.yield cl) #[] #[]) cargs; invoke d.target d.args:Sem Next)=Instr.yield cl (#[]++cargs)from rfl,Array.empty_append],hv,hR⟩
 rename_i fn x y cx cy hx hy;cases fn<;>try (simp only[reduceCtorEq]at h; done)
 rename_i g;simp only at h
 have hall:VRels ρ (x++args++y) (cx++cargs++cy).toList:=by
  simp only[Array.toList_append];exact(hx.append hv).append hy
 have hgo:(do let d <- Deferred.ofValue (.func (.func g) cx cy) cargs; invoke d.target d.args:Sem Next)=callFunc g (cx++cargs++cy):=rfl;rw[hgo];cases hex:E.ext.get g with
 | some k=>
  rw[hex]at h;exact extV_sim hR (hE.ext g k hex) hall h
 | none=>
  rw[hex]at h;simp only[extOr]at h;cases hb:qd9 E g with
  | false=>rw[hb]at h; cases h
  | true=>
   rw[hb]at h;simp only[cT,oS]at h;subst h;exact⟨cx++cargs++cy,hE.call g hb hex _ w,hall,hR⟩
theorem oDefer_sim (hR:Rel E w0 ρ s w) (hA:ARel ρ a ca) {f:Operand} {args:Array Operand} {nx:Nx} (h:qho E f args.toList a s=some nx) :
 qb5 P E w0 ρ (do pure (Next.defer (<- Deferred.ofValue (ca.eval f) (args.map ca.eval)))) w nx:=by
 unfold qho at h;simp only[oI]at h;obtain⟨v,hv,h⟩:=h;have hr:=qa7 hR hA hv;cases v<;>simp only[reduceCtorEq]at h;simp only[oI,oS]at h;obtain⟨vs,hvs,rfl⟩:=h;have hargs:=qe0 hR hA hvs;generalize ca.eval f=cf at hr ⊢;cases hr with
 | fn hx hy=>
 refine⟨rfl,_,rfl,⟨fun _=>⟨⟨_,rfl,hy⟩,?_⟩,fun r e=>by cases e⟩,hR⟩;simp only[Array.toList_append,Array.toList_map];exact hx.append hargs
theorem bSliceData_sim (hR:Rel E w0 ρ s w) (hA:ARel ρ a ca) {x:Operand} {ts:Array TypeId} {ty:TypeId} {nx:Nx} (h:qdz E x a s=some nx) :
 qb5 P E w0 ρ (do pure (Next.value (<- Builtin.unsafeSliceData_ ts ty #[ca.eval x]))) w nx:=by
 unfold qdz at h;simp only[oI]at h;obtain⟨v,hv,h⟩:=h;have hx:=qa7 hR hA hv;generalize ca.eval x=cx at hx ⊢;cases hx<;>simp only[reduceCtorEq]at h
 case slice b off len cap cb sh sz ad hρ hl ha=>
  cases hc:Nat.blt 0 cap with
  | false=>rw[hc]at h; cases h
  | true=>
   rw[hc]at h;simp only[cT,oS]at h;subst h;rw[blt_true]at hc;have had:=ha (by omega);subst had;exact qaj (Lib.run_unsafeSliceData_row w ts ty _ len cap (by omega)) (Rho.le_refl ρ) (.ptr hρ) hR
 case oslice b off len z cap cb sh sz ad hρ hl hz hcap ha=>
  cases hc:Nat.blt 0 len with
  | false=>rw[hc]at h; cases h
  | true=>
   rw[hc]at h;simp only[cT,oS]at h;subst h;rw[blt_true]at hc;have had:=ha (by omega);subst had;exact qaj (Lib.run_unsafeSliceData_row w ts ty _ len cap (by omega)) (Rho.le_refl ρ) (.ptr hρ) hR
 case nilslice=>
  simp only[oS]at h;subst h;exact qaj (Lib.run_unsafeSliceData_nil w ts ty 0 0) (Rho.le_refl ρ) .nilptr hR
theorem rowAt_bytes {p:Program} {e count off n d:Nat} (hd:0<d) (hdd:0<p.depth) (hc:p.cellsOf e=1) (h:off+n<=count):rowAt p (sameLayout p p.depth · e) d e count off n=true:=by
 obtain⟨d,rfl⟩:∃d',d=d'+1:=⟨d-1,by omega⟩
 have hs:sameLayout p p.depth e e=true:=by
  obtain⟨d',hd'⟩:∃d',p.depth=d'+1:=⟨p.depth-1,by omega⟩
  rw[hd'];simp[sameLayout]
 simp[rowAt,hc,Nat.mod_one,h,hs]
theorem unsafeStr_sim (hE:EnvOk P E) (hR:Rel E w0 ρ s w) {u t:TypeId} (hu:und E t=some (.pointer u)) {n:Nat} {k:IntKind} {p:V} {cp:Value} (hp:VRel ρ p cp) {ts:List TypeId} {ty:TypeId} {nx:Nx} (h:qna E u n p s=some nx) :
 qb5 P E w0 ρ (do pure (Next.value (<- Builtin.unsafeString_ (t::ts).toArray ty #[cp,.int k (Int.ofNat n)]))) w nx:=by
 have hbig:n<qai\/n=0->¬(Int.ofNat n>IntKind.i64.max):=fun hh=>by
  have:IntKind.i64.max=9223372036854775807:=rfl;have hm:qai=1073741824:=rfl;rw[this];show ¬((n:Int)>9223372036854775807);omega
 have hneg:¬(Int.ofNat n<0):=by show ¬((n:Int)<0); omega
 have hmax:IntKind.i64.max=9223372036854775807:=rfl;unfold qna at h;cases hp<;>simp only[reduceCtorEq]at h
 case nilptr=>
  rcases qad n 0 with⟨h0,e⟩|⟨h0,e⟩
  . rw[h0]at h
    simp only[cT,oS]at h;subst h; subst e;refine qaj (cv:=.string .empty) ?_ (Rho.le_refl ρ) (VRel.str .empty) hR
    have hdef:Builtin.unsafeString_ (t::ts).toArray ty #[.pointer none,.int k (Int.ofNat 0)] =
     (do
      let n <- asInt (.int k (Int.ofNat 0))
      if n < 0 then runtimePanic (.error "unsafe.String: len out of range")
      if n > IntKind.i64.max then unsupported (.unsafePointer "String: a length above the largest int")
      if n=0 then pure (.string .empty)
      else runtimePanic (.error "unsafe.String: ptr is nil and len is not zero")) := rfl
    rw[hdef];simp[asInt,asIntOf,hmax]
  . rw[h0]at h; cases h
 case ptr b off cb sh sz hρ=>
  have hsome:Builtin.unsafeString_ (t::ts).toArray ty #[.pointer (some ⟨cb,sh+off,none⟩),.int k (Int.ofNat n)] =
   (do
    let n <- asInt (.int k (Int.ofNat n))
    if n < 0 then runtimePanic (.error "unsafe.String: len out of range")
    if n > IntKind.i64.max then unsupported (.unsafePointer "String: a length above the largest int")
    if n=0 then pure (.string .empty)
    else if <- variablesAt ⟨cb,sh+off,none⟩ (<- elemOf t) n.toNat then do
     let s <- loadBytes ⟨cb,sh+off,none⟩ .empty n.toNat
     freeze ⟨cb,sh+off,none⟩ n.toNat
     pure (.string s)
    else unsupported (.unsafePointer "String: not so many bytes at ptr")) := rfl
  rcases qad n 0 with⟨h0,e⟩|⟨h0,e⟩
  . rw[h0]at h
    simp only[cT,oS]at h;subst h; subst e;refine qaj (cv:=.string .empty) ?_ (Rho.le_refl ρ) (VRel.str .empty) hR;rw[hsome];simp[asInt,asIntOf,hmax]
  . rw[h0]at h
    simp only[cF]at h;cases hn:Nat.blt n qai with
    | false=>rw[hn]at h; cases h
    | true=>
    rw[hn]at h;rw[blt_true]at hn;simp only[cT,oI,oS,Prod.exists]at h;obtain⟨s1,hl1,l,s2,hl2,q1,q2,hq,rfl⟩:=h;unfold liesB at hl1;split at hl1
    case h_2=>cases hl1
    rename_i e' esz m c hb;simp only[oI]at hl1;obtain⟨z,hz,hl1⟩:=hl1;cases hc:(Nat.beq e' u&&Nat.beq z 1&&Nat.beq esz 1&&Nat.ble (off+n) m&&Nat.blt m big)with
    | false=>rw[hc]at hl1; cases hl1
    | true=>
    rw[hc]at hl1;simp only[cT,oS]at hl1;subst hl1;simp only[bA,beq_true,blt_true,ble_true]at hc;obtain⟨⟨⟨⟨rfl,rfl⟩,rfl⟩,hle⟩,_⟩:=hc;have hR1:=hR.note b off (off+1) false;obtain⟨ol,hol,he,hll,hs2⟩:=ldN_sim hρ n off _ s2 l hR1 hl2;obtain⟨bs,rfl,h1,h2⟩:=packV_ok he hq;have hlen:bs.length=n:=by have:=he.length; rw[hll]at this; simpa using this
    have hR2:=hR1.same hs2;have hb2:s2.heap.get b=some (.cells e' 1 m false c):=by rw[hs2.heap,qam]; exact hb
    obtain⟨cs,fr,hcr⟩:=qb1 hR2 hb2 hρ;have hroom:=hcr.room;have hsize:=hcr.size;have hcz:=cellsOf_ok hE hz;have hlie:liesAt P P.depth e' (cs.size/P.cellsOf e') (sh+off) e' n=true:=liesAt_of hE.depth (rowAt_bytes hE.depth hE.depth hcz (by rw[hcz,Nat.div_one]; omega))
    have hload:(loadBytes ⟨cb,sh+off,none⟩ .empty n).run P w=.ok ⟨ByteArray.empty.data++bs.toArray⟩ w:=by
     have:=Lib.run_loadBytes (P:=P) w bs ⟨cb,sh+off,none⟩ .empty (fun j x hj=>by
      rw[qb2]
      exact hol j _ (by rw[List.getElem?_map,hj]; rfl))
     rw[hlen]at this;exact this
    have hupd:∃fr',Upd w cb (.cells cs e' fr') (w.freeze ⟨cb,sh+off,none⟩ n):=by
     unfold World.freeze;simp only[e,if_false];refine⟨if fr.1==fr.2 then(sh+off,sh+off+n)else(min fr.1 (sh+off),max fr.2 (sh+off+n)),?_,fun j hj=>?_,by simp,rfl,rfl,rfl⟩
     . show(w.heap.modify cb _)[cb]?=_
       rw[Array.getElem?_modify,iP rfl,hcr.heap];rfl
     . show(w.heap.modify cb _)[j]?=_
       rw[Array.getElem?_modify,iN (fun h=>hj h.symm)]
    obtain⟨fr',hupd⟩:=hupd;have hb3:(s2.note b 0 big true).heap.get b=some (.cells e' 1 m false c):=by rw[qam]; exact hb2
    have hR3:=(hR2.note b 0 big true).write (o':=.dead) hb3 rfl hρ hupd trivial
    have hstr:VRel ρ (.str q1 q2) (.string ⟨ByteArray.empty.data++bs.toArray⟩):=by
     have h1:q1=bs.length:=h1;have h2:q2=qb0 bs:=h2;have:=VRel.str (ρ:=ρ) ⟨ByteArray.empty.data++bs.toArray⟩
     have hd:(ByteArray.empty.data++bs.toArray).toList=bs:=by
      show((#[]:Array UInt8)++bs.toArray).toList=bs;simp
     simp only[hd]at this;rw[h1,h2]; exact this
    refine qaj (cv:=.string ⟨ByteArray.empty.data++bs.toArray⟩) (w':=w.freeze ⟨cb,sh+off,none⟩ n) ?_ (Rho.le_refl ρ) hstr hR3;rw[hsome];rw[qa0 (show(asInt (.int k (Int.ofNat n))).run P w=.ok (Int.ofNat n) w from rfl)];simp only[iN hneg,iN (hbig (.inl hn))];have hne:¬(Int.ofNat n=0):=by show ¬((n:Int)=0); omega
    simp only[iN hne];have hel:(elemOf t).run P w=.ok e' w:=by simp[elemOf,underlying,und_ok hE hu]
    rw[qa0 hel,qa0 (qgy (P:=P) (Int.ofNat n).toNat hcr.heap)];simp only[show(Int.ofNat n).toNat=n from rfl,hlie,if_true];rw[qa0 hload];rfl
theorem builtinF_sim (hE:EnvOk P E) (hR:Rel E w0 ρ s w) (hA:ARel ρ a ca) {b:Builtin} {ts:List TypeId} {ty:TypeId} {cs:Array Bool} {args:List Operand} {nx:Nx} (h:(qa8 E b ts args).run a s=some nx) :
 qb5 P E w0 ρ (builtin b ts.toArray ty cs (args.map ca.eval).toArray) w nx:=by
 cases b<;>try (cases h; done)
 case append=>
  simp only[qa8]at h;split at h
  . exact bAppend_sim hE hR hA h
  . cases h
 case cap=>
  simp only[qa8]at h;split at h
  . exact bCap_sim hE hR hA h
  . cases h
 case copy=>
  simp only[qa8]at h;split at h
  . exact bCopy_sim hE hR hA h
  . cases h
 case delete=>
  simp only[qa8]at h;split at h
  . have h':qgd E _ _ _ a s=some nx:=h
    unfold qgd at h';simp only[oI]at h';obtain⟨m,hm,k,hk,h'⟩:=h';obtain⟨s',hl,rfl⟩:=uS_inv h';obtain⟨w',hrun,hR'⟩:=deleteV_sim hE hR (qa7 hR hA hm) (qa7 hR hA hk) hl _ ty;exact qaj hrun (Rho.le_refl ρ) qfg hR'
  . cases h
 case len=>
  simp only[qa8]at h;split at h
  . exact bLen_sim hE hR hA h
  . cases h
 case max=>
  simp only[qa8]at h;split at h
  . exact bFold_sim (P:=P) hR hA (g:=Builtin.max2) (fun hx hy h=>maxV_sim hx hy h) h
  . cases h
 case min=>
  simp only[qa8]at h;split at h
  . exact bFold_sim (P:=P) hR hA (g:=Builtin.min2) (fun hx hy h=>minV_sim hx hy h) h
  . cases h
 case panic=>
  simp only[qa8]at h;split at h
  . exact oPanic_sim hR hA h
  . cases h
 case unsafeSliceData=>
  simp only[qa8]at h;split at h
  . exact bSliceData_sim hR hA h
  . cases h
 case unsafeString=>
  simp only[qa8]at h;split at h
  . have h':qcg E _ _ _ a s=some nx:=h
    unfold qcg at h';simp only[oI]at h';obtain⟨d,hd,u,hdu,p,hp,vn,hvn,n,hn,h'⟩:=h'
    have hdd:d=.pointer u:=by
     cases d<;>simp[isPtrT]at hdu;rw[hdu]
    subst hdd;have hpv:=qa7 hR hA hp;have hnv:=qa7 hR hA hvn
    obtain⟨k,hk⟩:∃k,vn=.int k (Int.ofNat n):=by
     unfold qdv at hn;split at hn
     . simp only[oS]at hn; subst hn; exact⟨_,rfl⟩
     . cases hn
    subst hk;simp only[List.map_cons,List.map_nil];generalize ca.eval _=cp at hpv ⊢;generalize ca.eval _=cn at hnv ⊢;cases hnv;exact unsafeStr_sim hE hR hd hpv h'
  . cases h
 case recover=>
  have h':some (Nx.recover s)=some nx:=h;simp only[oS]at h';subst h';exact⟨rfl,hR⟩
theorem qdr (hE:EnvOk P E) (hR:Rel E w0 ρ s w) (hA:ARel ρ a ca) (o:Oper) {nx:Nx} (h:(opF E o.op).run a s=some nx):qb5 P E w0 ρ (execOp ca.eval o) w nx:=by
 cases ho:o.op<;>rw[ho]at h<;>try (cases h; done)
 case nilCheck x=>exact oNilCheck_sim hR hA ho h
 all_goals simp only[execOp,ho]
 case move=>exact oMove_sim hR hA h
 case assign=>exact oMove_sim hR hA h
 case pick=>exact oPick_sim hR hA h
 case alloc=>exact oAlloc_sim (a:=a) hE hR h
 case box=>exact oBox_sim hR hA h
 case build=>exact oBuild_sim hE hR hA h
 case buildSlice=>exact qmi hE hR hA h
 case load=>exact oLoad_sim hE hR hA h
 case store=>exact oStore_sim hE hR hA h
 case binOp=>exact oBin_sim hE hR hA h
 case unOp=>exact oUn_sim hR hA h
 case convert=>exact oConvert_sim hE hR hA h
 case makeInterface=>exact oMakeIface_sim hE hR hA h
 case makeFunc=>exact oMakeFunc_sim hR hA h
 case makeMap=>exact oMakeMap_sim hE hR hA h
 case makeSlice=>exact oMakeSlice_sim hE hR hA h
 case slice=>exact oSlice_sim hE hR hA h
 case fieldAddr=>exact oFieldAddr_sim hE hR hA h
 case field=>exact oField_sim hE hR hA h
 case indexAddr=>exact oIndexAddr_sim hE hR hA h
 case index=>exact oIndex_sim hE hR hA h
 case lookup=>exact oLookup_sim hE hR hA h
 case mapUpdate=>exact qml hE hR hA h
 case insert=>exact qml hE hR hA h
 case mapEntry=>exact oEntry_sim hE hR hA h
 case entryStore=>exact qmk hR hA h
 case typeAssert=>exact oAssert_sim hE hR hA h
 case range=>exact oRange_sim hE hR hA h
 case next=>exact oNext_sim hR hA h
 case extract=>exact oExtract_sim hR hA h
 case panic=>exact oPanic_sim hR hA h
 case call c=>
  simp only[opF]at h;cases hc:c.callee with
  | builtin b=>
   rw[hc]at h;have:=builtinF_sim (ty:=o.type) (cs:=c.args.map fun|.const _=>true|_=>false) hE hR hA h;have e:(List.map ca.eval c.args.toList).toArray=c.args.map ca.eval:=by apply Array.toList_inj.1; rw[Array.toList_map]
   rw[e]at this;simp only[resolve,hc];exact this
  | value f=>
   rw[hc]at h;have h':qmj E f c.args.toList a s=some nx:=h;unfold qmj at h';simp only[oI]at h';obtain⟨fv,hfv,vs,hvs,h'⟩:=h';have:=callV_sim (P:=P) (cargs:=c.args.map ca.eval) hE hR (qa7 hR hA hfv) (by simpa using qe0 hR hA hvs) h';simp only[resolve,hc];exact this
  | invoke x n=>rw[hc]at h; cases h
 case defer c=>
  simp only[opF]at h;cases hc:c.callee with
  | builtin b=>rw[hc]at h; cases h
  | value f=>
   rw[hc]at h;simp only[resolve,hc];exact oDefer_sim hR hA h
  | invoke x n=>rw[hc]at h; cases h
end
end Go.Proofs.YtafbipadnnmccaaDoor.Ev
namespace Go.Proofs.YtafbipadnnmccaaDoor.Ev
structure Grows (s s':St):Prop where
 on:s'.on=true
 next:s.next<=s'.next
 log:∃new,s'.log=new++s.log/\∀b,(∀e∈new,e.b=b->e.w=false)->s'.heap.get b=s.heap.get b
structure Agree (F:Nat->Prop) (s t:St):Prop where
 next:t.next=s.next
 on:t.on=s.on
 log:t.log=s.log
 heap:∀b,F b->t.heap.get b=s.heap.get b
theorem Grows.refl {s:St} (h:s.on=true):Grows s s:=⟨h,lR _,[],rfl,fun _ _=>rfl⟩
theorem Grows.trans {a b c:St} (h:Grows a b) (k:Grows b c):Grows a c:=by
 obtain⟨n1,h1,h2⟩:=h.log;obtain⟨n2,k1,k2⟩:=k.log;refine⟨k.on,Nat.le_trans h.next k.next,n2++n1,by rw[k1,h1,List.append_assoc],fun x hx=>?_⟩;rw[k2 x fun e he=>hx e (List.mem_append_left _ he),h2 x fun e he=>hx e (List.mem_append_right _ he)]
theorem Grows.sub {a b:St} (h:Grows a b) {e:LE} (he:e∈a.log):e∈b.log:=by
 obtain⟨n1,h1,_⟩:=h.log;rw[h1]; exact List.mem_append_right _ he
def Within (F:Nat->Prop) (s':St):Prop:=∀e∈s'.log,F e.b
def Loc {β:Type} (st:β->St) (up:β->St->β) (f:St->Option β):Prop:=
 ∀s r,s.on=true->f s=some r->Grows s (st r)/\∀F t,Agree F s t->Within F (st r)->∃t',f t=some (up r t')/\Agree F (st r) t'
abbrev upP {α:Type} (p:α×St) (s:St):α×St:=(p.1,s)
abbrev LocP {α:Type} (f:St->Option (α×St)):Prop:=Loc Prod.snd upP f
abbrev upS (_:St) (s:St):St:=s
abbrev LocS (f:St->Option St):Prop:=Loc id upS f
def Nx.st:Nx->St
 | .val _ s|.enter _ _ s|.round _ _ s|.defer _ s|.recover s|.pan _ s=>s
def Nx.up:Nx->St->Nx
 | .val v _,s=>.val v s
 | .enter f l _,s=>.enter f l s
 | .round f l _,s=>.round f l s
 | .defer d _,s=>.defer d s
 | .recover _,s=>.recover s
 | .pan v _,s=>.pan v s
abbrev LocN (f:St->Option Nx):Prop:=Loc Nx.st Nx.up f
section
variable {α β γ:Type} {st:β->St} {up:β->St->β}
theorem Loc.none:Loc st up fun _=>none:=fun _ _ _ h=>by cases h
theorem Loc.bind {f:St->Option (α×St)} {g:α×St->Option β} (hf:LocP f) (hg:∀a,Loc st up fun s=>g (a,s)):Loc st up fun s=>(f s).bind g:=by
 intro s r hon h;simp only[oI]at h;obtain⟨⟨a,s1⟩,h1,h2⟩:=h;obtain⟨g1,l1⟩:=hf s _ hon h1;obtain⟨g2,l2⟩:=hg a s1 r g1.on h2;refine⟨g1.trans g2,fun F t hA hW=>?_⟩;obtain⟨t1,e1,A1⟩:=l1 F t hA fun e he=>hW e (g2.sub he);obtain⟨t2,e2,A2⟩:=l2 F t1 A1 hW;exact⟨t2,by simp only[e1,oB]; exact e2,A2⟩
theorem Loc.bindS {f:St->Option St} {g:St->Option β} (hf:LocS f) (hg:Loc st up g):Loc st up fun s=>(f s).bind g:=by
 intro s r hon h;simp only[oI]at h;obtain⟨s1,h1,h2⟩:=h;obtain⟨g1,l1⟩:=hf s _ hon h1;obtain⟨g2,l2⟩:=hg s1 r g1.on h2;refine⟨g1.trans g2,fun F t hA hW=>?_⟩;obtain⟨t1,e1,A1⟩:=l1 F t hA fun e he=>hW e (g2.sub he);obtain⟨t2,e2,A2⟩:=l2 F t1 A1 hW;exact⟨t2,by simp only[e1,oB]; exact e2,A2⟩
theorem Loc.opt {o:Option α} {g:α->St->Option β} (hg:∀a,Loc st up (g a)):Loc st up fun s=>o.bind fun a=>g a s:=by
 cases o with
 | none=>exact Loc.none
 | some a=>exact hg a
theorem Loc.cond {c:Bool} {f g:St->Option β} (hf:Loc st up f) (hg:Loc st up g):Loc st up fun s=>bif c then f s else g s:=by
 cases c
 . exact hg
 . exact hf
theorem Loc.of_eq {f g:St->Option β} (h:∀s,f s=g s) (hg:Loc st up g):Loc st up f:=by
 rw[show f=g from funext h]; exact hg
theorem LocP.ret (a:α):LocP fun s=>some (a,s):=fun s r hon h=>by
 simp only[oS]at h;subst h;exact⟨Grows.refl hon,fun F t hA _=>⟨t,rfl,hA⟩⟩
theorem LocS.ret:LocS fun s=>some s:=fun s r hon h=>by
 simp only[oS]at h;subst h;exact⟨Grows.refl hon,fun F t hA _=>⟨t,rfl,hA⟩⟩
theorem LocN.ret (v:V):LocN fun s=>some (.val v s):=fun s r hon h=>by
 simp only[oS]at h;subst h;exact⟨Grows.refl hon,fun F t hA _=>⟨t,rfl,hA⟩⟩
theorem LocN.vS {f:St->Option (V×St)} (h:LocP f):LocN fun s=>vS (f s):=Loc.bind (g:=fun p=>some (Nx.val p.1 p.2)) h fun _=>LocN.ret _
theorem LocN.uS {f:St->Option St} (h:LocS f):LocN fun s=>uS (f s):=Loc.bindS (g:=fun s=>some (Nx.val (.tuple []) s)) h (LocN.ret _)
theorem LocN.pS (o:Option V):LocN fun s=>pS o s:=Loc.opt (g:=fun v s=>some (Nx.val v s)) fun _=>LocN.ret _
end
theorem qmg {s:St} (hon:s.on=true) (b lo hi:Nat) (x:Bool):s.note b lo hi x={s with log:=⟨b,lo,hi,x⟩::s.log}:=by unfold St.note; rw[hon]; cases s; simp only at hon; subst hon; rfl
theorem note_grows {s:St} (hon:s.on=true) (b lo hi:Nat) (x:Bool):Grows s (s.note b lo hi x):=by
 rw[qmg hon];exact⟨hon,lR _,[⟨b,lo,hi,x⟩],rfl,fun _ _=>rfl⟩
theorem ql1 {s:St} (hon:s.on=true) (b lo hi:Nat) (x:Bool):(s.note b lo hi x).log=⟨b,lo,hi,x⟩::s.log:=by rw[qmg hon]
theorem note_agree {F:Nat->Prop} {s t:St} (hon:s.on=true) (h:Agree F s t) (b lo hi:Nat) (x:Bool):Agree F (s.note b lo hi x) (t.note b lo hi x):=by
 rw[qmg hon,qmg (h.on.trans hon)];exact⟨h.next,h.on,by simp only; rw[h.log],h.heap⟩
theorem qnf {F:Nat->Prop} {s:St} (hon:s.on=true) {b lo hi:Nat} {x:Bool} (h:Within F (s.note b lo hi x)):F b:=
 h ⟨b,lo,hi,x⟩ (by rw[ql1 hon]; exact List.mem_cons_self ..)
theorem LocP.read {α:Type} {b lo hi:Nat} (k:Option O->Option α):LocP fun s=>(k (s.heap.get b)).bind fun a=>some (a,s.note b lo hi false):=by
 intro s r hon h;simp only[oI,oS]at h;obtain⟨a,ha,rfl⟩:=h;refine⟨note_grows hon ..,fun F t hA hW=>⟨t.note b lo hi false,?_,note_agree hon hA ..⟩⟩;simp only[hA.heap b (qnf hon hW),ha,oB]
theorem qgs {s:St} (hon:s.on=true) (b lo hi:Nat) (o:O):Grows s ((s.note b lo hi true).put b o):=by
 rw[qmg hon];refine⟨hon,lR _,[⟨b,lo,hi,true⟩],rfl,fun x hx=>?_⟩;have hne:x≠b:=fun e=>by have:=hx _ (List.mem_cons_self ..) e.symm; cases this
 show(s.heap.setS o b).get x=_;rw[Tr.setS_eq,Tr.get_set,iN hne]
theorem qmu {F:Nat->Prop} {s t:St} (hon:s.on=true) (h:Agree F s t) (b lo hi:Nat) (o:O):Agree F ((s.note b lo hi true).put b o) ((t.note b lo hi true).put b o):=by
 have hn:=note_agree hon h b lo hi true;refine⟨hn.next,hn.on,hn.log,fun x hx=>?_⟩;show(((t.note b lo hi true).heap).setS o b).get x=(((s.note b lo hi true).heap).setS o b).get x;rw[Tr.setS_eq,Tr.setS_eq,Tr.get_set,Tr.get_set,hn.heap x hx]
theorem LocS.write {b lo hi:Nat} (k:Option O->Option O):LocS fun s=>(k (s.heap.get b)).bind fun o=>some ((s.note b lo hi true).put b o):=by
 intro s r hon h;simp only[oI,oS]at h;obtain⟨o,ho,rfl⟩:=h;refine⟨qgs hon ..,fun F t hA hW=>⟨(t.note b lo hi true).put b o,?_,qmu hon hA ..⟩⟩;have hF:F b:=qnf (s:=s) (lo:=lo) (hi:=hi) (x:=true) hon hW;simp only[hA.heap b hF,ho,oB]
theorem LocS.setO (b:Nat) (o:O):LocS fun s=>some (setO s b o):=fun s r hon h=>by
 simp only[oS]at h;subst h;exact⟨qgs hon ..,fun F t hA hW=>⟨Ev.setO t b o,rfl,qmu hon hA ..⟩⟩
theorem nw_grows {s:St} (hon:s.on=true) (o:O):Grows s (nw s o):=by
 have h:=qgs hon s.next 0 big o
 obtain⟨n,h1,h2⟩:=h.log;exact⟨h.on,Nat.le_succ _,n,h1,h2⟩
theorem nw_agree {F:Nat->Prop} {s t:St} (hon:s.on=true) (h:Agree F s t) (o:O):Agree F (nw s o) (nw t o):=by
 have hn:=qmu hon h s.next 0 big o
 unfold nw;rw[h.next];exact⟨rfl,hn.on,hn.log,hn.heap⟩
theorem LocP.nw {α:Type} (k:Nat->α) (o:Nat->O):LocP fun s=>some (k s.next,nw s (o s.next)):=fun s r hon h=>by
 simp only[oS]at h;subst h;exact⟨nw_grows hon _,fun F t hA hW=>⟨Ev.nw t (o s.next),by simp only[hA.next],nw_agree hon hA _⟩⟩
theorem LocN.nw (k:Nat->V) (o:Nat->O):LocN fun s=>some (.val (k s.next) (nw s (o s.next))):=
 Loc.of_eq (fun _=>rfl) (LocN.vS (LocP.nw k o))
theorem loc_ldK (b off k:Nat):LocP fun s=>ldK s b off k:=
 Loc.of_eq (fun s=>by
  unfold ldK;split
  . rename_i e esz n ro c h
    cases hc:(Nat.ble (off+k) (esz*n)&&Nat.blt (esz*n) big)
    . rw[h]; simp only[hc]; rfl
    . rw[h]; simp only[hc,cT]
  . rename_i h
    cases ho:s.heap.get b with
    | none=>rfl
    | some o=>cases o<;>first|rfl|exact absurd ho (h _ _ _ _ _))
  (LocP.read (b:=b) (lo:=off) (hi:=off+k) fun o=>match o with
   | some (.cells _ esz n _ c)=>bif Nat.ble (off+k) (esz*n)&&Nat.blt (esz*n) big then qg1 c esz off k else none
   | _=>none)
theorem loc_ld (b off:Nat):LocP fun s=>ld s b off:=
 Loc.of_eq (fun s=>by
  unfold ld;split
  . rename_i e esz n ro c h
    cases hc:(Nat.blt off (esz*n)&&Nat.blt (esz*n) big)
    . rw[h]; simp only[hc]; rfl
    . rw[h]; simp only[hc,cT]
      cases c.get (off/esz)with
      | none=>rfl
      | some t=>simp only[oB]
  . rename_i h
    cases ho:s.heap.get b with
    | none=>rfl
    | some o=>cases o<;>first|rfl|exact absurd ho (h _ _ _ _ _))
  (LocP.read (b:=b) (lo:=off) (hi:=off+1) fun o=>match o with
   | some (.cells _ esz n _ c)=>bif Nat.blt off (esz*n)&&Nat.blt (esz*n) big then(c.get (off/esz)).bind fun t=>t.get (off%esz)else none
   | _=>none)
theorem loc_getO (b:Nat):LocP fun s=>qky s b:=LocP.read (b:=b) (lo:=0) (hi:=big) fun o=>o
theorem loc_sizeB (b:Nat):LocP fun s=>qic s b:=
 Loc.of_eq (fun s=>by
  unfold qic;split
  . rename_i e esz n ro c h
    cases hc:(Nat.blt (esz*n) big)
    . rw[h]; simp only[hc]; rfl
    . rw[h]; simp only[hc,cT,oB]
  . rename_i h
    cases ho:s.heap.get b with
    | none=>rfl
    | some o=>cases o<;>first|rfl|exact absurd ho (h _ _ _ _ _))
  (LocP.read (b:=b) (lo:=big-1) (hi:=big) fun o=>match o with
   | some (.cells _ esz n _ _)=>bif Nat.blt (esz*n) big then some (esz*n)else none
   | _=>none)
theorem loc_stK (b off k:Nat) (t:Tr V):LocS fun s=>stK s b off k t:=
 Loc.of_eq (fun s=>by
  unfold stK;split
  . rename_i e esz n ro c h
    cases hc:(Nat.ble (off+k) (esz*n)&&Nat.blt (esz*n) big&&!ro)
    . rw[h]; simp only[hc]; rfl
    . rw[h]; simp only[hc,cT]
      cases qg2 c esz off k t<;>rfl
  . rename_i h
    cases ho:s.heap.get b with
    | none=>rfl
    | some o=>cases o<;>first|rfl|exact absurd ho (h _ _ _ _ _))
  (LocS.write (b:=b) (lo:=off) (hi:=off+k) fun o=>match o with
   | some (.cells e esz n ro c)=>bif Nat.ble (off+k) (esz*n)&&Nat.blt (esz*n) big&&!ro then(qg2 c esz off k t).bind fun c=>some (.cells e esz n false c)else none
   | _=>none)
theorem loc_ldN (b k:Nat):∀(n off:Nat),LocP fun s=>ldN b k n off s
 | 0,_=>LocP.ret []
 | n+1,off=>by
  unfold ldN
  exact Loc.bind (loc_ldK b off k) fun a=>by
   dsimp only;exact Loc.bind (loc_ldN b k n (off+k)) fun _=>by dsimp only; exact LocP.ret _
theorem loc_stN (b k:Nat):∀(l:List (Tr V)) (off:Nat),LocS fun s=>stN b k l off s
 | [],_=>LocS.ret
 | t::l,off=>Loc.bindS (g:=fun s=>stN b k l (off+k) s) (loc_stK b off k t) (loc_stN b k l (off+k))
theorem loc_loadV (E:Env) (t:TypeId) (b off:Nat):LocP fun s=>loadV E t b off s:=by
 unfold loadV;refine Loc.opt fun g=>Loc.cond ?_ (loc_ld b off);refine Loc.opt fun n=>Loc.bind (loc_ldK b off n) fun _=>by dsimp only; exact LocP.ret _
theorem loc_storeV (E:Env) (t:TypeId) (b off:Nat) (v:V):LocS fun s=>qkd E t b off v s:=by
 unfold qkd;exact Loc.opt fun n=>Loc.cond (loc_stK b off n _) Loc.none
theorem loc_sliceV (E:Env) (t:TypeId) (x:V) (lo hi mx:Option V):LocP fun s=>qak E t x lo hi mx s:=by
 unfold qak;refine Loc.opt fun d=>?_;cases d<;>try exact Loc.none
 case string=>cases x<;>cases mx<;>first|exact Loc.none|exact Loc.opt fun _=>LocP.ret _
 case array=>
  cases x<;>try exact Loc.none
  exact Loc.opt fun _=>Loc.opt fun _=>LocP.ret _
 case slice=>
  cases x<;>try exact Loc.none
  case slice=>exact Loc.opt fun _=>Loc.opt fun _=>LocP.ret _
  case oslice b off len z=>
   refine Loc.opt fun z'=>Loc.cond ?_ Loc.none;refine Loc.bind (loc_sizeB b) fun k=>?_;dsimp only;refine Loc.opt fun p=>?_;cases mx with
   | some _=>exact LocP.ret _
   | none=>exact Loc.cond (LocP.ret _) (Loc.cond (LocP.ret _) Loc.none)
  case eslice=>exact Loc.opt fun _=>Loc.opt fun _=>LocP.ret _
  case nilslice=>exact Loc.opt fun _=>Loc.opt fun _=>LocP.ret _
  case list z l=>
   refine Loc.opt fun z'=>?_;cases mx with
   | some _=>exact Loc.none
   | none=>exact Loc.cond (Loc.opt fun _=>LocP.ret _) Loc.none
theorem loc_firstV (size n:Nat) (x:V):LocP fun s=>qb7 size n x s:=by
 cases x<;>try exact Loc.none
 case str=>exact Loc.cond (LocP.ret _) Loc.none
 case slice=>exact loc_ldN _ _ _ _
 case oslice=>exact loc_ldN _ _ _ _
 case eslice=>exact Loc.cond (LocP.ret _) Loc.none
 case nilslice=>exact Loc.cond (LocP.ret _) Loc.none
 case list=>exact Loc.cond (LocP.ret _) Loc.none
theorem loc_growV (elem:TypeId) (size n b off len:Nat) (l:List (Tr V)):LocP fun s=>qjh elem size n b off len l s:=by
 intro s r hon h;unfold qjh at h;simp only[qdd]at h;split at h
 . rename_i e esz m ro c hb
   cases h1:(ro||!Nat.beq e elem)with
   | true=>rw[h1]at h; cases h
   | false=>
   rw[h1]at h;simp only[cF]at h;cases h2:(Nat.beq esz size&&Nat.beq off 0&&Nat.beq m len&&Nat.blt (esz*m) big)with
   | true=>
    rw[h2]at h;simp only[cT]at h;have hon':(setO s b .dead).on=true:=(qgs hon b 0 big .dead).on
    have hl:LocP fun s=>some (V.oslice s.next 0 (len+n) size,nw (setO s b .dead) (.cells elem size (len+n) false (addL c l len))):=by
     refine Loc.of_eq (g:=fun s=>((fun s=>some (setO s b .dead)) s).bind fun s=>some (V.oslice s.next 0 (len+n) size,nw s (.cells elem size (len+n) false (addL c l len)))) (fun s=>?_) (Loc.bindS (LocS.setO b .dead) (LocP.nw (fun k=>V.oslice k 0 (len+n) size) fun _=>_));simp only[oB];have:(setO s b .dead).next=s.next:=by show(s.note b 0 big true).next=_; unfold St.note; cases s.on<;>rfl
     rw[this]
    obtain⟨g1,l1⟩:=hl s r hon h;refine⟨g1,fun F t hA hW=>?_⟩;obtain⟨t',e1,A1⟩:=l1 F t hA hW;refine⟨t',?_,A1⟩
    have hF:F b:=by
     simp only[oS]at h;subst h;obtain⟨nn,hn,_⟩:=(nw_grows hon' (.cells elem size (len+n) false (addL c l len))).log;refine hW ⟨b,0,big,true⟩ ?_;show _∈(nw (setO s b .dead) _).log;rw[hn];refine List.mem_append_right _ ?_;show _∈(s.note b 0 big true).log;rw[ql1 hon]; exact List.mem_cons_self ..
    unfold qjh;simp only[qdd];rw[hA.heap b hF,hb];simp only[h1,h2,cT,cF];exact e1
   | false=>
    rw[h2]at h;simp only[cF]at h;cases h3:(Nat.beq esz size&&Nat.beq (off%size) 0)with
    | false=>rw[h3]at h; cases h
    | true=>
    rw[h3]at h;simp only[cT]at h
    have hl:LocP fun s=>(ldN b size len off s).bind fun q=>some (V.oslice q.2.next 0 (len+n) size,qan (setO q.2 b .dead) elem size (q.1++l)):=by
     refine Loc.bind (loc_ldN b size len off) fun a=>?_;refine Loc.of_eq (g:=fun s=>((fun s=>some (setO s b .dead)) s).bind fun s=>some (V.oslice s.next 0 (len+n) size,qan s elem size (a++l))) (fun s=>?_) (Loc.bindS (LocS.setO b .dead) (LocP.nw (fun k=>V.oslice k 0 (len+n) size) fun _=>_));simp only[oB];have:(setO s b .dead).next=s.next:=by show(s.note b 0 big true).next=_; unfold St.note; cases s.on<;>rfl
     rw[this]
    obtain⟨g1,l1⟩:=hl s r hon h;refine⟨g1,fun F t hA hW=>?_⟩;obtain⟨t',e1,A1⟩:=l1 F t hA hW;refine⟨t',?_,A1⟩
    have hF:F b:=by
     simp only[oI,Prod.exists,oS]at h;obtain⟨ll,s1,hl1,rfl⟩:=h;have hg1:=(loc_ldN b size len off s _ hon hl1).1;have hon':(setO s1 b .dead).on=true:=(qgs hg1.on b 0 big .dead).on;obtain⟨nn,hn,_⟩:=(nw_grows hon' (.cells elem size (ll++l).length false (Tr.ofListFrom .nil (ll++l) 0))).log;refine hW ⟨b,0,big,true⟩ ?_;show _∈(nw (setO s1 b .dead) _).log;rw[hn];refine List.mem_append_right _ ?_;show _∈(s1.note b 0 big true).log;rw[ql1 hg1.on]; exact List.mem_cons_self ..
    unfold qjh;simp only[qdd];rw[hA.heap b hF,hb];simp only[h1,h2,h3,cF,cT];exact e1
 . cases h
theorem loc_appendV (elem:TypeId) (size n:Nat) (x y:V):LocP fun s=>qcs elem size n x y s:=by
 unfold qcs;refine Loc.bind (loc_firstV size n y) fun l=>?_;dsimp only;cases x<;>try exact Loc.none
 case slice b off len cap=>
  refine Loc.cond ?_ ?_
  . exact Loc.bindS (loc_stN b size l _) (LocP.ret _)
  . exact Loc.bind (loc_firstV size len _) fun a=>by dsimp only; exact LocP.nw (fun k=>V.oslice k 0 (len+n) size) fun _=>_
 case oslice b off len z=>
  refine Loc.cond ?_ Loc.none;refine Loc.bind (loc_sizeB b) fun a=>?_;dsimp only;refine Loc.cond ?_ (loc_growV _ _ _ _ _ _ _);exact Loc.bindS (loc_stN b size l _) (LocP.ret _)
 case eslice=>exact Loc.cond (LocP.ret _) Loc.none
 case nilslice=>exact Loc.cond (LocP.ret _) (LocP.nw (fun k=>V.oslice k 0 n size) fun _=>_)
theorem loc_lookupV (E:Env) (t:TypeId) (x k:V) (ok:Bool):LocP fun s=>qgm E t x k ok s:=by
 unfold qgm;refine Loc.opt fun d=>?_;cases d<;>try exact Loc.none
 rename_i kt et;refine Loc.opt fun d=>Loc.cond ?_ Loc.none
 refine Loc.bind (f:=fun s=>match x with
  | .nilmap=>some ([],s)
  | .map r=>(qky s r).bind fun p=>match p.1 with
   | .map es _=>some (es,p.2)
   | _=>none
  | _=>none) ?_ fun es=>?_
 . cases x<;>try exact Loc.none
   . rename_i r
     refine Loc.bind (loc_getO r) fun o=>?_;dsimp only;cases o<;>first|exact Loc.none|exact LocP.ret _
   . exact LocP.ret _
 . dsimp only
   refine Loc.opt fun q=>?_;cases q with
   | none=>exact Loc.opt fun z=>LocP.ret _
   | some q=>exact LocP.ret _
theorem loc_updateV (E:Env) (t:TypeId) (m k v:V):LocS fun s=>qfy E t m k v s:=by
 unfold qfy;refine Loc.opt fun d=>?_;cases d<;>try exact Loc.none
 rename_i kt et;refine Loc.opt fun d=>Loc.cond ?_ Loc.none;cases m<;>try exact Loc.none
 rename_i r;refine Loc.bind (loc_getO r) fun o=>?_;dsimp only;cases o<;>try exact Loc.none
 rename_i es clock;refine Loc.opt fun q=>?_;cases q with
 | none=>exact LocS.setO _ _
 | some q=>exact LocS.setO _ _
theorem loc_setRet {α:Type} (r:Nat) (o:O) (a:α):LocP fun s=>some (a,setO s r o):=
 Loc.of_eq (g:=fun s=>((fun s=>some (setO s r o)) s).bind fun s=>some (a,s)) (fun _=>rfl) (Loc.bindS (LocS.setO r o) (LocP.ret _))
theorem loc_entryV (E:Env) (t:TypeId) (m k:V):LocP fun s=>qk2 E t m k s:=by
 unfold qk2;refine Loc.opt fun d=>?_;cases d<;>try exact Loc.none
 rename_i kt et;refine Loc.opt fun d=>Loc.cond ?_ Loc.none;cases m<;>try exact Loc.none
 rename_i r;refine Loc.bind (loc_getO r) fun o=>?_;dsimp only;cases o<;>try exact Loc.none
 rename_i es clock;refine Loc.opt fun q=>?_;cases q with
 | none=>exact Loc.opt fun z=>loc_setRet _ _ _
 | some q=>exact Loc.opt fun z=>loc_setRet _ _ _
theorem loc_entryStoreV (m st v:V):LocS fun s=>qca m st v s:=by
 unfold qca;cases m<;>try exact Loc.none
 cases st<;>try exact Loc.none
 rename_i r kk nn;cases nn<;>try exact Loc.none
 refine Loc.bind (loc_getO r) fun o=>?_;dsimp only;cases o<;>try exact Loc.none
 exact Loc.opt fun q=>LocS.setO _ _
theorem loc_deleteV (E:Env) (t:TypeId) (m k:V):LocS fun s=>qgg E t m k s:=by
 unfold qgg;refine Loc.opt fun d=>?_;cases d<;>try exact Loc.none
 rename_i kt et;refine Loc.opt fun d=>Loc.cond ?_ Loc.none;cases m<;>try exact Loc.none
 . rename_i r
   refine Loc.bind (loc_getO r) fun o=>?_;dsimp only;cases o<;>try exact Loc.none
   rename_i es clock;refine Loc.opt fun q=>?_;cases q with
   | none=>exact LocS.setO _ _
   | some q=>exact LocS.setO _ _
 . exact LocS.ret
theorem loc_zerosAt (b off n:Nat):LocP fun s=>qb4 s b off n:=
 Loc.of_eq (fun s=>by
  unfold qb4;split
  . rename_i e esz m ro c h
    cases hc:(Nat.beq esz 1&&Nat.ble (off+n) m&&Nat.blt m big&&Nat.blt 0 n&&qfh c)
    . rw[h]; simp only[hc]; rfl
    . rw[h]; simp only[hc,cT,oB]
  . rename_i h
    cases ho:s.heap.get b with
    | none=>rfl
    | some o=>cases o<;>first|rfl|exact absurd ho (h _ _ _ _ _))
  (LocP.read (b:=b) (lo:=off) (hi:=off+n) fun o=>match o with
   | some (.cells _ esz m _ c)=>bif Nat.beq esz 1&&Nat.ble (off+n) m&&Nat.blt m big&&Nat.blt 0 n&&qfh c then some (V.str n 0)else none
   | _=>none)
theorem zerosAt_none {s t:St} {b off n:Nat} (h:qb4 s b off n=none) (hn:n=0\/t.heap.get b=s.heap.get b):qb4 t b off n=none:=by
 rcases hn with rfl|hb
 . unfold qb4
   split
   . rw[show Nat.blt 0 0=false from rfl,Bool.and_false,Bool.false_and]; rfl
   . rfl
 . unfold qb4 at h ⊢
   rw[hb];split
   . rename_i e esz m ro c hc
     rw[hc]at h;simp only at h;cases hx:(Nat.beq esz 1&&Nat.ble (off+n) m&&Nat.blt m big&&Nat.blt 0 n&&qfh c)
     . rfl
     . rw[hx]at h; cases h
   . rfl
theorem loc_bytes (b off l c n:Nat):LocP fun s=>qhr (qb4 s b off n) ((qb7 1 n (.slice b off l c) s).bind fun p=>(qdw p.1).bind fun q=>some (V.str q.1 q.2,p.2)):=by
 have hg:LocP fun s=>(qb7 1 n (.slice b off l c) s).bind fun p=>(qdw p.1).bind fun q=>some (V.str q.1 q.2,p.2):=Loc.bind (loc_firstV 1 n _) fun a=>by dsimp only; exact Loc.opt fun q=>LocP.ret _
 intro s r hon h;dsimp only at h;cases hz:qb4 s b off n with
 | some q=>
  rw[hz]at h;simp only[qhr,oS]at h;subst h;obtain⟨g1,l1⟩:=loc_zerosAt b off n s _ hon hz;refine⟨g1,fun F t hA hW=>?_⟩;obtain⟨t',e1,A1⟩:=l1 F t hA hW;have e1':qb4 t b off n=some (upP q t'):=e1;exact⟨t',by dsimp only; rw[e1']; rfl,A1⟩
 | none=>
  rw[hz]at h;have h':((qb7 1 n (.slice b off l c) s).bind fun p=>(qdw p.1).bind fun q=>some (V.str q.1 q.2,p.2))=some r:=h;obtain⟨g1,l1⟩:=hg s r hon h';refine⟨g1,fun F t hA hW=>?_⟩;obtain⟨t',e1,A1⟩:=l1 F t hA hW;refine⟨t',?_,A1⟩
  have hno:qb4 t b off n=none:=by
   refine zerosAt_none hz ?_;cases n with
   | zero=>exact .inl rfl
   | succ n=>
    refine .inr (hA.heap b ?_);simp only[oI,Prod.exists,oS]at h';obtain⟨ll,s1,hl,q1,q2,hq,rfl⟩:=h';have hl':ldN b 1 (n+1) off s=some (ll,s1):=hl;simp only[ldN,oI,Prod.exists,oS,pM]at hl';obtain⟨p1,s2,hk,q3,s3,hrest,_,rfl⟩:=hl';have g2:=(loc_ldN b 1 n (off+1) s2 _ (loc_ldK b off 1 s _ hon hk).1.on hrest).1
    have hin:∃lo hi,(⟨b,lo,hi,false⟩:LE)∈s2.log:=by
     unfold ldK at hk;split at hk
     . rename_i e esz m ro cc hb
       cases hcc:(Nat.ble (off+1) (esz*m)&&Nat.blt (esz*m) big)with
       | false=>rw[hcc]at hk; cases hk
       | true=>
        rw[hcc]at hk;simp only[cT,oI,oS,pM]at hk;obtain⟨_,_,_,rfl⟩:=hk;exact⟨off,off+1,by rw[ql1 hon]; exact List.mem_cons_self ..⟩
     . cases hk
    obtain⟨lo,hi,hin⟩:=hin;exact hW _ (g2.sub hin)
  dsimp only;rw[hno];exact e1
theorem loc_sameV (b:Nat):LocS fun s=>sameV s b:=
 Loc.of_eq (fun s=>by
  unfold sameV;split
  . rename_i e esz m c h
    rw[h]; rfl
  . rename_i h
    cases ho:s.heap.get b with
    | none=>rfl
    | some o=>
     cases o<;>try rfl
     rename_i e esz m ro c;cases ro
     . exact absurd ho (h _ _ _ _)
     . rfl)
  (LocS.write (b:=b) (lo:=0) (hi:=big) fun o=>match o with
   | some (.cells e esz m false c)=>some (.cells e esz m false c)
   | _=>none)
theorem loc_liesV (E:Env) (u:TypeId) (b off:Nat):LocS fun s=>liesV E u b off s:=
 Loc.of_eq (g:=fun s=>(((match s.heap.get b with
  | some (.cells e esz m _ _)=>(sizeT E e).bind fun z=>bif Nat.beq z esz&&Nat.blt off (esz*m)&&Nat.blt (esz*m) big&&qkm e (off%esz) u E.lie then some ()else none
  | _=>none:Option Unit)).bind fun a=>some (a,s.note b off (off+1) false)).bind fun p=>some p.2) (fun s=>by
  unfold liesV;cases s.heap.get b with
  | none=>rfl
  | some o=>
   cases o<;>try rfl
   rename_i e esz m ro c;show(sizeT E e).bind _=(((sizeT E e).bind _).bind _).bind _;cases sizeT E e with
   | none=>rfl
   | some z=>
    simp only[oB]
    cases(Nat.beq z esz&&Nat.blt off (esz*m)&&Nat.blt (esz*m) big&&qkm e (off%esz) u E.lie)<;>rfl)
  (Loc.bind (LocP.read (b:=b) (lo:=off) (hi:=off+1) fun o=>match o with
   | some (.cells e esz m _ _)=>(sizeT E e).bind fun z=>bif Nat.beq z esz&&Nat.blt off (esz*m)&&Nat.blt (esz*m) big&&qkm e (off%esz) u E.lie then some ()else none
   | _=>none) fun _=>LocS.ret)
theorem loc_liesB (E:Env) (u:TypeId) (b off n:Nat):LocS fun s=>liesB E u b off n s:=
 Loc.of_eq (g:=fun s=>(((match s.heap.get b with
  | some (.cells e esz m false _)=>(sizeT E e).bind fun z=>bif Nat.beq e u&&Nat.beq z 1&&Nat.beq esz 1&&Nat.ble (off+n) m&&Nat.blt m big then some ()else none
  | _=>none:Option Unit)).bind fun a=>some (a,s.note b off (off+1) false)).bind fun p=>some p.2) (fun s=>by
  unfold liesB;cases s.heap.get b with
  | none=>rfl
  | some o=>
   cases o<;>try rfl
   rename_i e esz m ro c;cases ro<;>try rfl
   show(sizeT E e).bind _=(((sizeT E e).bind _).bind _).bind _;cases sizeT E e with
   | none=>rfl
   | some z=>
    simp only[oB]
    cases(Nat.beq e u&&Nat.beq z 1&&Nat.beq esz 1&&Nat.ble (off+n) m&&Nat.blt m big)<;>rfl)
  (Loc.bind (LocP.read (b:=b) (lo:=off) (hi:=off+1) fun o=>match o with
   | some (.cells e esz m false _)=>(sizeT E e).bind fun z=>bif Nat.beq e u&&Nat.beq z 1&&Nat.beq esz 1&&Nat.ble (off+n) m&&Nat.blt m big then some ()else none
   | _=>none) fun _=>LocS.ret)
theorem loc_unsafeV (E:Env) (ds dd:TypeDesc) (x:V):LocP fun s=>qid E ds dd x s:=by
 unfold qid;cases x<;>try exact Loc.none
 refine Loc.cond ?_ (Loc.cond ?_ Loc.none)
 . refine Loc.opt fun t=>Loc.opt fun z=>Loc.cond Loc.none ?_
   exact Loc.bindS (loc_liesV _ _ _ _) (LocP.ret _)
 . refine Loc.opt fun t=>Loc.opt fun z=>?_
   exact Loc.bindS (loc_liesV _ _ _ _) (LocP.ret _)
theorem loc_convertV (E:Env) (src dst:TypeId) (x:V):LocP fun s=>qc2 E src dst x s:=by
 unfold qc2;refine Loc.opt fun ds=>Loc.opt fun dd=>Loc.cond (loc_unsafeV _ _ _ _) ?_
 have bytes:∀(x:V),LocP fun s=>(match ds with
  | .slice e=>(und E e).bind fun
   | .int .u8=>(lenV x).bind fun n=>match x with
    | .str _ _=>none
    | .slice b off l c=>qhr (qb4 s b off n) ((qb7 1 n (.slice b off l c) s).bind fun p=>(qdw p.1).bind fun q=>some (.str q.1 q.2,p.2))
    | x=>(qb7 1 n x s).bind fun p=>(qdw p.1).bind fun q=>some (V.str q.1 q.2,p.2)
   | _=>none
  | _=>none):=by
  intro x;cases ds<;>try exact Loc.none
  rename_i e;refine Loc.opt fun d=>?_;cases d<;>try exact Loc.none
  rename_i k;cases k<;>try exact Loc.none
  refine Loc.opt fun n=>?_
  cases x<;>first
   | exact Loc.none
   | exact loc_bytes _ _ _ _ _
   | exact Loc.bind (loc_firstV 1 n _) fun a=>by dsimp only; exact Loc.opt fun q=>LocP.ret _
 cases dd<;>try (cases x<;>exact Loc.none)
 . cases x<;>first|exact Loc.none|exact LocP.ret _
 . cases x<;>first|exact LocP.ret _|exact bytes _
 . cases x<;>try exact Loc.none
   . refine Loc.opt fun d=>?_
     cases d<;>try exact Loc.none
     rename_i k;cases k<;>try exact Loc.none
     exact LocP.nw (fun k=>V.oslice k 0 _ 1) fun _=>_
   . refine Loc.cond ?_ Loc.none
     refine Loc.opt fun d=>?_;cases d<;>try exact Loc.none
     rename_i k;cases k<;>try exact Loc.none
     exact Loc.bindS (loc_sameV _) (LocP.ret _)
theorem loc_lenAny (d:TypeDesc) (E:Env) (x:V):LocN fun s=>lenAny d E x s:=by
 cases d<;>try exact Loc.none
 case array=>exact LocN.ret _
 case pointer e=>
  refine Loc.opt fun d=>?_;cases d<;>first|exact Loc.none|exact LocN.ret _
 case string=>cases x<;>first|exact Loc.none|exact LocN.ret _
 case slice=>cases x<;>first|exact Loc.none|exact LocN.ret _
 case map=>
  cases x<;>try exact Loc.none
  case nilmap=>exact LocN.ret _
  case map r=>
   refine Loc.bind (loc_getO r) fun o=>?_;dsimp only;cases o<;>first|exact Loc.none|exact LocN.ret _
theorem loc_copyInto (size:Nat) (x:V) (n:Nat) (l:List (Tr V)):LocN fun s=>qin size x n l s:=by
 cases x<;>try exact Loc.none
 case slice=>exact Loc.bindS (loc_stN _ size l _) (LocN.ret _)
 case oslice=>exact Loc.bindS (loc_stN _ size l _) (LocN.ret _)
 case eslice=>exact LocN.ret _
 case nilslice=>exact LocN.ret _
theorem loc_extV (k:Nat) (args:List V):LocN fun s=>extV k args s:=by
 unfold extV;split
 . split
   . refine Loc.cond ?_ Loc.none
     split<;>exact LocN.ret _
   . exact Loc.none
 . split
   . rename_i t r
     refine Loc.bind (loc_getO r) fun o=>?_;dsimp only;cases o<;>first|exact Loc.none|exact LocN.nw (fun k=>V.iface t (V.map k)) fun _=>_
   . exact Loc.none
 . split
   . exact Loc.cond (LocN.ret _) Loc.none
   . exact Loc.none
 . split
   . exact LocN.ret _
   . exact Loc.none
 . refine Loc.cond ?_ Loc.none
   split
   . exact Loc.cond (LocN.nw (fun k=>V.oslice k 0 _ 1) fun _=>_) Loc.none
   . exact Loc.none
theorem LocN.enter (f:FuncId) (args:List V):LocN fun s=>some (.enter f args s):=fun s r hon h=>by
 simp only[oS]at h;subst h;exact⟨Grows.refl hon,fun F t hA _=>⟨t,rfl,hA⟩⟩
theorem LocN.round (f:Nat) (args:List V):LocN fun s=>some (.round f args s):=fun s r hon h=>by
 simp only[oS]at h;subst h;exact⟨Grows.refl hon,fun F t hA _=>⟨t,rfl,hA⟩⟩
theorem LocN.defer (d:AD):LocN fun s=>some (.defer d s):=fun s r hon h=>by
 simp only[oS]at h;subst h;exact⟨Grows.refl hon,fun F t hA _=>⟨t,rfl,hA⟩⟩
theorem LocN.recover:LocN fun s=>some (.recover s):=fun s r hon h=>by
 simp only[oS]at h;subst h;exact⟨Grows.refl hon,fun F t hA _=>⟨t,rfl,hA⟩⟩
theorem LocN.pan (v:V):LocN fun s=>some (.pan v s):=fun s r hon h=>by
 simp only[oS]at h;subst h;exact⟨Grows.refl hon,fun F t hA _=>⟨t,rfl,hA⟩⟩
theorem loc_callV (E:Env) (f:V) (args:List V):LocN fun s=>qge E f args s:=by
 unfold qge;cases f<;>try exact Loc.none
 case yield l=>exact LocN.round _ _
 rename_i fn x y;cases fn<;>try exact Loc.none
 rename_i g;dsimp only;cases E.ext.get g with
 | some k=>exact loc_extV _ _
 | none=>exact Loc.cond (LocN.enter _ _) Loc.none
theorem loc_extendAt (E:Env) (e:TypeId) (size bytes:Nat) (x y:V):LocP fun s=>qec E e size bytes x y s:=by
 unfold qec;cases x<;>try exact Loc.none
 exact Loc.opt fun n=>Loc.cond (Loc.opt fun z=>Loc.cond (LocP.nw (fun k=>V.oslice k 0 n size) fun _=>_) Loc.none) Loc.none
theorem loc_builtinF (E:Env) (b:Builtin) (ts:List TypeId) (args:List Operand) (a:Ac):LocN fun s=>(qa8 E b ts args).run a s:=by
 cases b<;>try exact Loc.none
 case append=>
  unfold qa8;dsimp only;split
  . refine Loc.opt fun q=>Loc.opt fun d2=>Loc.cond ?_ (Loc.cond ?_ Loc.none)
    . refine Loc.opt fun vx=>Loc.opt fun vy=>Loc.opt fun n=>Loc.opt fun m=>Loc.cond ?_ Loc.none
      exact LocN.vS (loc_appendV _ _ _ _ _)
    . exact Loc.opt fun vx=>Loc.opt fun vy=>LocN.vS (loc_extendAt _ _ _ _ _ _)
  . exact Loc.none
 case cap=>
  unfold qa8;dsimp only;split
  . refine Loc.opt fun d=>?_
    cases d<;>try exact Loc.none
    refine Loc.opt fun v=>?_;cases v<;>first|exact Loc.none|exact LocN.ret _
  . exact Loc.none
 case copy=>
  unfold qa8;dsimp only;split
  . refine Loc.opt fun q=>Loc.opt fun vx=>Loc.opt fun vy=>Loc.opt fun m=>Loc.opt fun k=>?_
    exact Loc.bind (loc_firstV _ _ _) fun l=>by dsimp only; exact loc_copyInto _ _ _ _
  . exact Loc.none
 case delete=>
  unfold qa8;dsimp only;split
  . exact Loc.opt fun m=>Loc.opt fun k=>LocN.uS (loc_deleteV _ _ _ _)
  . exact Loc.none
 case len=>
  unfold qa8;dsimp only;split
  . exact Loc.opt fun d=>Loc.opt fun v=>loc_lenAny _ _ _
  . exact Loc.none
 case unsafeSliceData=>
  unfold qa8;dsimp only;split
  . refine Loc.opt fun v=>?_
    cases v<;>first|exact Loc.none|exact LocN.ret _|exact Loc.cond (LocN.ret _) Loc.none
  . exact Loc.none
 case unsafeString=>
  unfold qa8;dsimp only;split
  . refine Loc.opt fun d=>Loc.opt fun u=>Loc.opt fun p=>Loc.opt fun vn=>Loc.opt fun n=>?_
    cases p<;>first|exact Loc.none|exact Loc.cond (LocN.ret _) Loc.none|skip
    refine Loc.cond (LocN.ret _) (Loc.cond ?_ Loc.none);refine Loc.bindS (loc_liesB _ _ _ _ _) ?_;refine Loc.bind (loc_ldN _ 1 _ _) fun l=>?_;dsimp only;refine Loc.opt fun k=>?_;exact Loc.of_eq (g:=fun s=>((fun s=>some (setO s _ .dead)) s).bind fun s=>some (Nx.val (.str k.1 k.2) s)) (fun _=>rfl) (Loc.bindS (LocS.setO _ _) (LocN.ret _))
  . exact Loc.none
 case max=>
  unfold qa8;dsimp only;split
  . exact Loc.opt fun v=>Loc.opt fun vs=>LocN.pS _
  . exact Loc.none
 case min=>
  unfold qa8;dsimp only;split
  . exact Loc.opt fun v=>Loc.opt fun vs=>LocN.pS _
  . exact Loc.none
 case panic=>
  unfold qa8;dsimp only;split
  . refine Loc.opt fun v=>?_
    cases v<;>first|exact Loc.none|exact LocN.pan _
  . exact Loc.none
 case recover=>exact LocN.recover
theorem loc_opF (E:Env) (op:Op) (a:Ac):LocN fun s=>(opF E op).run a s:=by
 cases op<;>try exact Loc.none
 case move=>exact LocN.pS _
 case assign=>exact LocN.pS _
 case pick=>
  refine Loc.opt fun v=>?_;cases v<;>try exact Loc.none
  exact Loc.cond (LocN.pS _) (LocN.pS _)
 case alloc t=>exact Loc.opt fun z=>LocN.nw (fun k=>V.ptr k 0) fun _=>_
 case box t x=>exact Loc.opt fun v=>Loc.cond Loc.none (LocN.nw (fun k=>V.ptr k 0) fun _=>_)
 case build=>exact Loc.opt fun v=>LocN.pS _
 case buildSlice t len parts=>
  refine Loc.opt fun q=>Loc.cond ?_ Loc.none;refine Loc.opt fun z=>Loc.opt fun ps=>Loc.cond ?_ Loc.none;exact Loc.opt fun l=>LocN.nw (fun k=>V.slice k 0 len len) fun _=>_
 case load=>
  refine Loc.opt fun v=>?_;cases v<;>try exact Loc.none
  . exact LocN.vS (loc_loadV _ _ _ _)
  . exact Loc.cond (LocN.ret _) Loc.none
 case store=>
  refine Loc.opt fun v=>?_;cases v<;>try exact Loc.none
  exact Loc.opt fun v=>LocN.uS (loc_storeV _ _ _ _ _)
 case nilCheck=>exact Loc.opt fun v=>Loc.cond (LocN.ret _) Loc.none
 case binOp=>exact Loc.opt fun v=>Loc.opt fun u=>LocN.pS _
 case unOp=>exact Loc.opt fun v=>LocN.pS _
 case convert=>exact Loc.opt fun v=>LocN.vS (loc_convertV _ _ _ _)
 case makeInterface=>exact Loc.opt fun d=>Loc.cond (Loc.opt fun v=>LocN.ret _) Loc.none
 case makeFunc=>exact Loc.opt fun d=>Loc.opt fun v=>LocN.ret _
 case makeMap t r=>
  cases r with
  | none=>exact LocN.nw (fun k=>V.map k) fun _=>_
  | some x=>exact Loc.opt fun d=>Loc.opt fun v=>Loc.cond (LocN.nw (fun k=>V.map k) fun _=>_) Loc.none
 case makeSlice=>
  refine Loc.opt fun q=>Loc.opt fun vl=>Loc.opt fun n=>Loc.opt fun vc=>Loc.opt fun m=>Loc.cond ?_ Loc.none;exact Loc.opt fun z=>Loc.cond (LocN.nw (fun k=>V.slice k 0 n m) fun _=>_) Loc.none
 case slice=>exact Loc.opt fun v=>Loc.opt fun l=>Loc.opt fun h=>Loc.opt fun m=>LocN.vS (loc_sliceV _ _ _ _ _ _)
 case fieldAddr=>
  refine Loc.opt fun p=>Loc.cond Loc.none (Loc.opt fun v=>?_);cases v<;>try exact Loc.none
  . exact LocN.ret _
  . rename_i u
    cases u<;>first|exact Loc.none|exact Loc.opt fun _=>LocN.ret _
 case field=>
  refine Loc.opt fun p=>Loc.opt fun v=>?_;cases v<;>first|exact Loc.none|exact LocN.pS _
 case indexAddr=>
  refine Loc.opt fun d=>Loc.opt fun vi=>Loc.opt fun n=>Loc.opt fun v=>?_;cases d<;>try exact Loc.none
  . refine Loc.opt fun z=>?_
    cases v<;>first|exact Loc.none|exact Loc.cond (LocN.ret _) Loc.none|exact Loc.cond (Loc.opt fun _=>LocN.ret _) Loc.none
  . refine Loc.opt fun z=>?_
    cases v<;>try exact Loc.none
    . exact Loc.cond (LocN.ret _) Loc.none
    . rename_i u
      cases u<;>first|exact Loc.none|exact Loc.cond (Loc.opt fun _=>LocN.ret _) Loc.none
 case index=>
  refine Loc.opt fun d=>Loc.opt fun vi=>Loc.opt fun n=>Loc.opt fun v=>?_;cases d<;>try exact Loc.none
  . cases v<;>first|exact Loc.none|exact Loc.cond (LocN.ret _) Loc.none
  . cases v<;>first|exact Loc.none|exact Loc.opt fun z=>Loc.cond (LocN.pS _) Loc.none
 case lookup=>exact Loc.opt fun m=>Loc.opt fun k=>LocN.vS (loc_lookupV _ _ _ _ _)
 case mapUpdate=>exact Loc.opt fun m=>Loc.opt fun k=>Loc.opt fun v=>LocN.uS (loc_updateV _ _ _ _ _)
 case insert=>exact Loc.opt fun m=>Loc.opt fun k=>Loc.opt fun v=>LocN.uS (loc_updateV _ _ _ _ _)
 case mapEntry=>exact Loc.opt fun m=>Loc.opt fun k=>LocN.vS (loc_entryV _ _ _ _)
 case entryStore=>exact Loc.opt fun m=>Loc.opt fun k=>Loc.opt fun v=>LocN.uS (loc_entryStoreV _ _ _)
 case typeAssert x xt asserted ok=>
  refine Loc.opt fun d=>Loc.cond (Loc.opt fun v=>?_) Loc.none;have no:LocN fun s=>qde E asserted ok s:=Loc.cond (Loc.opt fun z=>LocN.ret _) Loc.none;cases v<;>try exact Loc.none
  . exact Loc.cond (LocN.ret _) no
  . exact no
 case range=>
  refine Loc.opt fun d=>?_;cases d<;>try exact Loc.none
  refine Loc.opt fun v=>?_;cases v<;>first|exact Loc.none|exact LocN.nw (fun k=>V.ptr k 0) fun _=>_
 case next=>
  refine Loc.cond (Loc.opt fun v=>?_) Loc.none;cases v<;>try exact Loc.none
  rename_i b off;refine Loc.cond ?_ Loc.none;refine Loc.bind (loc_getO b) fun o=>?_;dsimp only;cases o<;>try exact Loc.none
  refine Loc.cond ?_ (LocN.ret _);exact Loc.of_eq (fun _=>rfl) (LocN.vS (loc_setRet b _ _))
 case extract=>
  refine Loc.opt fun v=>?_;cases v<;>first|exact Loc.none|exact LocN.pS _
 case panic=>
  refine Loc.opt fun v=>?_;cases v<;>first|exact Loc.none|exact LocN.pan _
 case call c=>
  unfold opF;dsimp only;cases c.callee with
  | builtin b=>exact loc_builtinF _ _ _ _ _
  | value f=>exact Loc.opt fun fv=>Loc.opt fun vs=>loc_callV _ _ _
  | invoke x n=>exact Loc.none
 case defer c=>
  unfold opF;dsimp only;cases c.callee with
  | builtin b=>exact Loc.none
  | value f=>
   refine Loc.opt fun fv=>?_;cases fv<;>first|exact Loc.none|exact Loc.opt fun vs=>LocN.defer _
  | invoke x n=>exact Loc.none
abbrev upX (r:X×Ac×St) (s:St):X×Ac×St:=(r.1,r.2.1,s)
abbrev LocX (f:St->Option (X×Ac×St)):Prop:=Loc (fun r=>r.2.2) upX f
abbrev upM (r:X×Ac×Md×St) (s:St):X×Ac×Md×St:=(r.1,r.2.1,r.2.2.1,s)
abbrev LocM (f:St->Option (X×Ac×Md×St)):Prop:=Loc (fun r=>r.2.2.2) upM f
section
variable {β γ:Type} {st:β->St} {up:β->St->β} {st1:γ->St} {up1:γ->St->γ}
theorem Loc.bindG (hup:∀r,up1 r (st1 r)=r) {f:St->Option γ} {g:γ->Option β} (hf:Loc st1 up1 f) (hg:∀r,Loc st up fun s=>g (up1 r s)):Loc st up fun s=>(f s).bind g:=by
 intro s r hon h;simp only[oI]at h;obtain⟨q,h1,h2⟩:=h;obtain⟨g1,l1⟩:=hf s _ hon h1;obtain⟨g2,l2⟩:=hg q (st1 q) r g1.on (by simp only[hup]; exact h2);refine⟨g1.trans g2,fun F t hA hW=>?_⟩;obtain⟨t1,e1,A1⟩:=l1 F t hA fun e he=>hW e (g2.sub he);obtain⟨t2,e2,A2⟩:=l2 F t1 A1 hW;exact⟨t2,by simp only[e1,oB]; exact e2,A2⟩
theorem nx_up (r:Nx):r.up r.st=r:=by cases r<;>rfl
theorem Loc.bindN {f:St->Option Nx} {g:Nx->Option β} (hf:LocN f) (hg:∀r:Nx,Loc st up fun s=>g (r.up s)):Loc st up fun s=>(f s).bind g:=Loc.bindG nx_up hf hg
theorem Loc.bindX {f:St->Option (X×Ac×St)} {g:X×Ac×St->Option β} (hf:LocX f) (hg:∀x a,Loc st up fun s=>g (x,a,s)):Loc st up fun s=>(f s).bind g:=
 Loc.bindG (up1:=upX) (fun _=>rfl) hf fun r=>hg r.1 r.2.1
theorem Loc.bindM {f:St->Option (X×Ac×Md×St)} {g:X×Ac×Md×St->Option β} (hf:LocM f) (hg:∀x a m,Loc st up fun s=>g (x,a,m,s)):Loc st up fun s=>(f s).bind g:=
 Loc.bindG (up1:=upM) (fun _=>rfl) hf fun r=>hg r.1 r.2.1 r.2.2.1
end
theorem LocX.ret (x:X) (a:Ac):LocX fun s=>some (x,a,s):=fun s r hon h=>by
 simp only[oS]at h;subst h;exact⟨Grows.refl hon,fun F t hA _=>⟨t,rfl,hA⟩⟩
theorem LocM.ret (x:X) (a:Ac) (m:Md):LocM fun s=>some (x,a,m,s):=fun s r hon h=>by
 simp only[oS]at h;subst h;exact⟨Grows.refl hon,fun F t hA _=>⟨t,rfl,hA⟩⟩
def EVLoc (self:EV):Prop:=(∀f args,LocP fun s=>self.f f args s)/\∀l args,LocP fun s=>self.r l args s
def CFLoc (c:CF):Prop:=∀self,EVLoc self->∀a,LocX fun s=>c.run self a s
theorem loc_afterOp {self:EV} (hs:EVLoc self) (p:PF) (a:Ac) (nx:Nx):LocX fun s=>qbe p self a (nx.up s):=by
 cases nx with
 | val v s0=>
  simp only[Nx.up,qbe,qbv,qaw];exact Loc.opt fun a'=>LocX.ret _ _
 | enter f args s0=>
  simp only[Nx.up,qbe,qaw];refine Loc.bind (hs.1 f args) fun e=>?_;cases e with
  | ret v=>
   simp only[qbm,qbv,qaw];exact Loc.opt fun a'=>LocX.ret _ _
  | pan v=>exact LocX.ret _ _
 | round f args s0=>
  simp only[Nx.up,qbe,qaw];refine Loc.bind (hs.2 f args) fun e=>?_;cases e with
  | ret v=>
   simp only[qbm,qbv,qaw];exact Loc.opt fun a'=>LocX.ret _ _
  | pan v=>exact LocX.ret _ _
 | defer d s0=>
  simp only[Nx.up,qbe];cases a.round with
  | none=>exact Loc.opt fun a'=>LocX.ret _ _
  | some l=>exact Loc.none
 | recover s0=>exact Loc.none
 | pan v s0=>exact LocX.ret _ _
theorem loc_op1 (E:Env) (ops:Array Oper) (o:Oper):CFLoc (op1 E ops o):=fun self hs a=>by
 refine Loc.opt fun b=>Loc.cond ?_ (Loc.opt fun a'=>LocX.ret _ _);exact Loc.bindN (loc_opF E o.op a) fun nx=>loc_afterOp hs _ _ nx
theorem loc_skip:CFLoc ⟨skipC⟩:=fun _ _ _=>LocX.ret _ _
theorem loc_seqC {x y:CF} (hx:CFLoc x) (hy:CFLoc y):CFLoc ⟨seqC x y⟩:=fun self hs a=>by
 refine Loc.bindX (hx self hs a) fun e a'=>?_;cases e with
 | norm=>exact hy self hs a'
 | _=>exact LocX.ret _ _
theorem loc_opsL (E:Env) (ops:Array Oper):∀l,CFLoc (opsL E ops l)
 | []=>loc_skip
 | o::l=>loc_seqC (loc_op1 E ops o) (loc_opsL E ops l)
structure AgreeH (F:Nat->Prop) (s t:St):Prop where
 next:t.next=s.next
 heap:∀b,F b->t.heap.get b=s.heap.get b
structure DLoc (run:St->Option (X×Ac×St×List (List LE))):Prop where
 grows:∀s r,run s=some r->s.next<=r.2.2.1.next/\∀b,(∀l∈r.2.2.2,∀e∈l,e.b=b->e.w=false)->r.2.2.1.heap.get b=s.heap.get b
 loc:∀s r,run s=some r->∀F t,AgreeH F s t->(∀l∈r.2.2.2,∀e∈l,F e.b)->∃t',run t=some (r.1,r.2.1,t',r.2.2.2)/\AgreeH F r.2.2.1 t'
def DFLoc (d:DF):Prop:=∀self,EVLoc self->∀a,DLoc fun s=>d.run self a s
theorem loc_drawNil:DFLoc ⟨drawNil⟩:=fun _ _ a=>⟨fun s r h=>by
 have h':some (X.norm,a,s,[])=some r:=h;simp only[oS]at h';subst h';exact⟨lR _,fun _ _=>rfl⟩,fun s r h F t hA _=>by
 have h':some (X.norm,a,s,[])=some r:=h;simp only[oS]at h';subst h'
 exact⟨t,rfl,hA⟩⟩
theorem loc_drawC {x:CF} {k:DF} (hx:CFLoc x) (hk:DFLoc k):DFLoc ⟨qkh x k⟩:=fun self hs a=>by
 have inv:∀s r,qkh x k self a s=some r->∃e a1 s1,x.run self a {s with on:=true,log:=[]}=some (e,a1,s1)/\
  ((e=.norm/\∃q,k.run self a1 s1=some q/\r=(q.1,q.2.1,q.2.2.1,s1.log::q.2.2.2))\/(e≠.norm/\r=(e,a1,s1,[s1.log]))):=fun s r h=>by
  unfold qkh at h;simp only[oI,Prod.exists]at h;obtain⟨e,a1,s1,h1,h2⟩:=h;refine⟨e,a1,s1,h1,?_⟩;cases e with
  | norm=>
   simp only[qf1,oI,oS]at h2;obtain⟨q,hq,rfl⟩:=h2;exact .inl ⟨rfl,q,hq,rfl⟩
  | _=>simp only[qf1,oS]at h2; exact .inr ⟨by simp,h2.symm⟩
 have lx:=hx self hs a;refine⟨fun s r h=>?_,fun s r h F t hA hF=>?_⟩
 . obtain⟨e,a1,s1,h1,h2⟩:=inv s r h
   obtain⟨g1,_⟩:=lx _ _ rfl h1;obtain⟨new,hn,hheap⟩:=g1.log;simp only[List.append_nil]at hn;rcases h2 with⟨_,q,hq,rfl⟩|⟨_,rfl⟩
   . obtain⟨g2,g3⟩:=(hk self hs a1).grows _ _ hq
     refine⟨Nat.le_trans g1.next g2,fun b hb=>?_⟩;rw[g3 b fun l hl=>hb l (mO _ hl)];exact hheap b fun e he=>hb s1.log (List.mem_cons_self ..) e (by rw[hn]; exact he)
   . exact⟨g1.next,fun b hb=>hheap b fun e he=>hb s1.log (List.mem_cons_self ..) e (by rw[hn]; exact he)⟩
 . obtain⟨e,a1,s1,h1,h2⟩:=inv s r h
   obtain⟨g1,l1⟩:=lx _ _ rfl h1;have hA0:Agree F {s with on:=true,log:=[]} {t with on:=true,log:=[]}:=⟨hA.next,rfl,rfl,hA.heap⟩
   rcases h2 with⟨rfl,q,hq,rfl⟩|⟨he,rfl⟩
   . obtain⟨t1,e1,A1⟩:=l1 F _ hA0 fun e he=>hF s1.log (List.mem_cons_self ..) e he
     obtain⟨t2,e2,A2⟩:=(hk self hs a1).loc _ _ hq F t1 ⟨A1.next,A1.heap⟩ fun l hl=>hF l (mO _ hl);refine⟨t2,?_,A2⟩;show qkh x k self a t=_;unfold qkh;simp only[e1,oB,qf1];simp only[e2,oB];have hl:t1.log=s1.log:=A1.log;rw[hl]
   . obtain⟨t1,e1,A1⟩:=l1 F _ hA0 fun e he=>hF s1.log (List.mem_cons_self ..) e he
     refine⟨t1,?_,A1.next,A1.heap⟩;show qkh x k self a t=_;unfold qkh;simp only[e1,oB];have hl:t1.log=s1.log:=A1.log;cases e with
     | norm=>exact absurd rfl he
     | _=>simp only[qf1,hl]
theorem loc_opsD (E:Env) (ops:Array Oper):∀l,DFLoc (opsD E ops l)
 | []=>loc_drawNil
 | o::l=>loc_drawC (loc_op1 E ops o) (loc_opsD E ops l)
theorem joinL_eq:∀(ls:List (List LE)) (l:List LE),∃new,qm8 ls l=new++l/\∀e,e∈new↔∃x∈ls,e∈x
 | [],l=>⟨[],rfl,by simp⟩
 | x::xs,l=>by
  obtain⟨new,h1,h2⟩:=joinL_eq xs (x++l);refine⟨new++x,by simp only[qm8,h1,List.append_assoc],fun e=>?_⟩;simp only[List.mem_append,h2,List.mem_cons,exists_eq_or_imp];exact Or.comm
theorem relog_on {s s':St} (h:s.on=true) (ls:List (List LE)):qbh s s' ls={s' with on:=true,log:=qm8 ls s.log}:=by unfold qbh; rw[h]; rfl
theorem loc_drawnC (pl:Plan) {f:DF} (hf:DFLoc f):CFLoc ⟨qlw pl f⟩:=fun self hs a=>by
 refine Loc.cond ?_ Loc.none;intro s r hon h;simp only[oI]at h;obtain⟨q,hq,h⟩:=h;have hq':f.run self a s=some q:=hq
 have key:∃e a',r=(e,a',qbh s q.2.2.1 q.2.2.2)/\∀t t',qc3 pl a t (q.1,q.2.1,t',q.2.2.2)=some (e,a',qbh t t' q.2.2.2):=by
  obtain⟨e,a1,s1,ls⟩:=q;cases e with
  | norm=>
   simp only[qc3]at h ⊢;cases hc:(qag ls pl.prs&&Nat.beq a1.defers.length a.defers.length)with
   | false=>rw[hc]at h; cases h
   | true=>
    rw[hc]at h;simp only[cT,oS]at h;exact⟨.norm,_,h.symm,fun _ _=>rfl⟩
  | pan v=>
   simp only[qc3]at h ⊢;cases hc:(qag ls pl.prs&&Nat.beq a1.defers.length a.defers.length)with
   | false=>rw[hc]at h; cases h
   | true=>
    rw[hc]at h;simp only[cT,oI,oS]at h;obtain⟨a2,hp,h⟩:=h;exact⟨.pan v,a2,h.symm,fun _ _=>by rw[hp]; rfl⟩
  | exit id=>simp[qc3]at h
  | ret=>simp[qc3]at h
 obtain⟨e,a',rfl,hend⟩:=key;obtain⟨g1,g2⟩:=(hf self hs a).grows s q hq';obtain⟨new,hj,hmem⟩:=joinL_eq q.2.2.2 s.log;refine⟨?_,fun F t hA hW=>?_⟩
 . show Grows s (qbh s q.2.2.1 q.2.2.2)
   rw[relog_on hon];exact⟨rfl,g1,new,hj,fun b hb=>g2 b fun l hl e he=>hb e ((hmem e).2 ⟨l,hl,he⟩)⟩
 . have hW':Within F (qbh s q.2.2.1 q.2.2.2):=hW
   rw[relog_on hon]at hW'
   obtain⟨t1,e1,A1⟩:=(hf self hs a).loc s q hq' F t ⟨hA.next,hA.heap⟩ fun l hl e he=>hW' e (by
    show e∈qm8 q.2.2.2 s.log
    rw[hj]; exact List.mem_append_left _ ((hmem e).2 ⟨l,hl,he⟩))
   have hont:t.on=true:=hA.on.trans hon;refine⟨qbh t t1 q.2.2.2,?_,?_⟩
   . have e1':f.run self a t=some (q.1,q.2.1,t1,q.2.2.2):=e1
     simp only[e1',oB];exact hend t t1
   . show Agree F (qbh s q.2.2.1 q.2.2.2) _
     rw[relog_on hon,relog_on hont];exact⟨A1.next,rfl,by show qm8 _ t.log=qm8 _ s.log; rw[hA.log],A1.heap⟩
theorem loc_setX (x:X) (a:Ac) (l:Nat) (o:O):LocX fun s=>some (x,a,setO s l o):=Loc.of_eq (g:=fun s=>((fun s=>some (setO s l o)) s).bind fun s=>some (x,a,s)) (fun _=>rfl) (Loc.bindS (LocS.setO l o) (LocX.ret _ _))
theorem loc_endLoop (l:Nat) (a:Ac):LocX fun s=>endLoop l a s:=by
 unfold endLoop;refine Loc.bind (loc_getO l) fun o=>?_;dsimp only;cases o<;>try exact Loc.none
 rename_i st pend tmps n params assign body;refine Loc.cond Loc.none ?_;cases pend with
 | none=>exact loc_setX _ _ _ _
 | some c=>cases c<;>first|exact Loc.none|exact loc_setX _ _ _ _
theorem loc_rangeCall {self:EV} (hs:EVLoc self) (l:Nat) (a:Ac) (nx:Nx):LocX fun s=>rangeCall self l a (nx.up s):=by
 cases nx<;>try exact Loc.none
 case enter f args s0=>
  refine Loc.bind (hs.1 f args) fun e=>?_;cases e with
  | ret v=>exact loc_endLoop l a
  | pan v=>exact LocX.ret _ _
theorem loc_rangeC (E:Env) (f:Operand) (params:List Nat) (assign body:Code):CFLoc ⟨qfc E f params assign body⟩:=fun self hs a=>by
 show LocX fun s=>qfc E f params assign body self a s;obtain⟨tm,nn,df,rd⟩:=a;unfold qfc;cases rd with
 | none=>
  dsimp only;refine Loc.opt fun fv=>?_
  have h2:LocP fun s=>some (s.next,nw (nw s .defb) (.loop 0 none (qer params assign body tm) nn params assign body)):=
   Loc.of_eq (g:=fun s=>((fun s=>some (s.next,nw s .defb)) s).bind fun p=>((fun s=>some (s.next,nw s (.loop 0 none (qer params assign body tm) nn params assign body))) p.2).bind fun q=>some (p.1,q.2)) (fun _=>rfl)
    (Loc.bind (LocP.nw (fun k=>k) fun _=>.defb) fun k=>by
     dsimp only
     exact Loc.bind (LocP.nw (fun k=>k) fun _=>.loop 0 none (qer params assign body tm) nn params assign body) fun _=>by dsimp only; exact LocP.ret k)
  refine Loc.of_eq (g:=fun s=>((fun s=>some (s.next,nw (nw s .defb) (.loop 0 none (qer params assign body tm) nn params assign body))) s).bind fun p=>(qge E fv [.yield (p.1+1)] p.2).bind
   (rangeCall self (p.1+1) {tmps:=tm,n:=nn,defers:={mark:=some p.1,f:=.func 0,captured:=[],args:=[]}::df,round:=none})) (fun _=>rfl) ?_
  exact Loc.bind h2 fun k=>by dsimp only; exact Loc.bindN (loc_callV E fv _) fun nx=>loc_rangeCall hs _ _ nx
 | some l0=>
  dsimp only;refine Loc.bind (loc_getO l0) fun o=>?_;dsimp only;cases o<;>try exact Loc.none
  refine Loc.opt fun fv=>?_;refine Loc.of_eq (g:=fun s=>((fun s=>some (s.next,nw s (.loop 0 none (qer params assign body tm) nn params assign body))) s).bind fun p=>(qge E fv [.yield p.1] p.2).bind (rangeCall self p.1 {tmps:=tm,n:=nn,defers:=df,round:=some l0})) (fun _=>rfl) ?_;exact Loc.bind (LocP.nw (fun k=>k) fun _=>.loop 0 none (qer params assign body tm) nn params assign body) fun k=>by dsimp only; exact Loc.bindN (loc_callV E fv _) fun nx=>loc_rangeCall hs _ _ nx
theorem loc_loopC {x:CF} (hx:CFLoc x):∀n,CFLoc ⟨qjk x n⟩
 | 0=>fun _ _ _=>Loc.none
 | n+1=>fun self hs a=>by
  refine Loc.bindX (hx self hs a) fun e a'=>?_;cases e with
  | norm=>exact loc_loopC hx n self hs a'
  | _=>exact LocX.ret _ _
theorem loc_comp (E:Env):∀c,CFLoc (qd7 E c)
 | .skip=>loc_skip
 | .region _ ops false=>loc_opsL E ops _
 | .region _ ops true=>loc_drawnC _ (loc_opsD E ops _)
 | .seq x y=>loc_seqC (loc_comp E x) (loc_comp E y)
 | .cond c x y=>fun self hs a=>by
  refine Loc.opt fun v=>?_;cases v<;>try exact Loc.none
  exact Loc.cond (loc_comp E x self hs a) (loc_comp E y self hs a)
 | .block id x=>fun self hs a=>by
  refine Loc.bindX (loc_comp E x self hs a) fun e a'=>?_;cases e<;>exact LocX.ret _ _
 | .loop x=>loc_loopC (loc_comp E x) qa3
 | .rangeFunc f ps x y=>loc_rangeC E f ps.toList x y
 | .exit id=>fun _ _ _=>LocX.ret _ _
 | .scope x=>loc_comp E x
 | .label _=>loc_skip
 | .goto _=>fun _ _ _=>Loc.none
 | .ret=>fun _ _ _=>LocX.ret _ _
 | .refuse _=>fun _ _ _=>Loc.none
theorem loc_opsS (E:Env) {self:EV} (hs:EVLoc self) (ops:Array Oper):∀(l:List Oper) (a:Ac) (m:Md),LocM fun s=>opsS E self ops l a m s
 | [],a,m=>LocM.ret _ _ _
 | o::l,a,m=>by
  unfold opsS;refine Loc.cond (Loc.opt fun a'=>loc_opsS E hs ops l _ _) ?_;refine Loc.bindX (loc_op1 E ops o {self with r:=fun _ _ _=>none} ⟨hs.1,fun _ _=>Loc.none⟩ a) fun e a'=>?_;cases e with
  | norm=>exact loc_opsS E hs ops l a' m
  | _=>exact LocM.ret _ _ _
theorem loc_evS (E:Env) {self:EV} (hs:EVLoc self):∀(d:Nat) (c:Code) (a:Ac) (m:Md),LocM fun s=>evS E self d c a m s
 | 0,_,_,_=>Loc.none
 | d+1,c,a,m=>by
  have other:LocM fun s=>((qd7 E c).run self a s).bind fun(x,a,s)=>some (x,a,m,s):=
   Loc.bindX (loc_comp E c self hs a) fun e a'=>LocM.ret _ _ _
  cases c<;>try exact other
  case seq x y=>
   refine Loc.bindM (loc_evS E hs d x a m) fun e a' m'=>?_;cases e with
   | norm=>exact loc_evS E hs d y a' m'
   | _=>exact LocM.ret _ _ _
  case cond c x y=>
   refine Loc.opt fun v=>?_;cases v<;>try exact Loc.none
   exact loc_evS E hs d _ a m
  case region id ops draw=>
   cases draw with
   | false=>exact loc_opsS E hs ops _ a m
   | true=>exact other
theorem loc_resultsV (E:Env) (a:Ac):∀l,LocP fun s=>qay E a l s
 | []=>LocP.ret _
 | .tmp t::l=>by
  unfold qay;exact Loc.opt fun v=>Loc.bind (loc_resultsV E a l) fun vs=>by dsimp only; exact LocP.ret _
 | .cell t ty::l=>by
  unfold qay;refine Loc.opt fun v=>?_;cases v<;>try exact Loc.none
  refine Loc.bind (loc_loadV E ty _ _) fun u=>?_;dsimp only;exact Loc.bind (loc_resultsV E a l) fun vs=>by dsimp only; exact LocP.ret _
theorem loc_leaves (E:Env) {self:EV} (hs:EVLoc self) (fn:Func) (a:Ac):∀(ds:List AD) (m:Md),LocP fun s=>qbk E self fn a ds m s
 | [],m=>by
  cases m with
  | ret=>exact Loc.bind (loc_resultsV E a _) fun vs=>by dsimp only; exact LocP.ret _
  | pan v=>exact LocP.ret _
  | got v=>exact Loc.none
 | d::ds,m=>by
  unfold qbk;cases d.mark with
  | some r=>
   dsimp only;refine Loc.bind (loc_getO r) fun o=>?_;dsimp only;cases o<;>try exact Loc.none
   exact Loc.of_eq (g:=fun s=>((fun s=>some (setO s r .dead)) s).bind fun s=>qbk E self fn a ds m s) (fun _=>rfl) (Loc.bindS (LocS.setO r .dead) (loc_leaves E hs fn a ds m))
  | none=>
  dsimp only;cases d.f<;>try exact Loc.none
  refine Loc.opt fun g=>Loc.opt fun c=>Loc.cond ?_ Loc.none;refine Loc.bindM (loc_evS E hs 50 c _ m) fun e a' m'=>?_;dsimp only;refine Loc.cond ?_ Loc.none;exact Loc.bind (loc_resultsV E a' _) fun vs=>by dsimp only; exact loc_leaves E hs fn a ds _
def KnLoc (K:FuncId->Option KF):Prop:=∀f g,K f=some g->∀args,LocP fun s=>g.run args s
theorem loc_stepF (E:Env) {K:FuncId->Option KF} (hK:KnLoc K) {self:EV} (hs:EVLoc self) (f:FuncId) (args:List V):LocP fun s=>qn7 E K self f args s:=by
 unfold qn7 fnOf;cases hg:K f with
 | some g=>exact hK f g hg args
 | none=>
 cases hf:E.fns.get f with
 | none=>exact Loc.none
 | some fn=>
 cases hb:fn.body with
 | none=>simp only[oB,hb]; exact Loc.none
 | some c=>
 simp only[oB,hb];refine Loc.cond ?_ Loc.none;refine Loc.bindX (loc_comp E c self hs _) fun e a'=>?_;cases e with
 | norm=>exact loc_leaves E hs fn a' a'.defers .ret
 | ret=>exact loc_leaves E hs fn a' a'.defers .ret
 | pan v=>exact loc_leaves E hs fn a' a'.defers (.pan v)
 | exit id=>exact Loc.none
theorem loc_endRound (l st:Nat) (pend:Option Code) (back:Bool):LocP fun s=>endRound l st pend back s:=by
 unfold endRound;refine Loc.bind (loc_getO l) fun o=>?_;dsimp only;cases o<;>try exact Loc.none
 exact loc_setRet _ _ _
theorem loc_roundEnd (l:Nat) (x:X) (a:Ac):LocP fun s=>qej l (x,a,s):=by
 unfold qej;dsimp only;refine Loc.cond ?_ Loc.none;cases x with
 | norm=>exact loc_endRound _ _ _ _
 | ret=>exact loc_endRound _ _ _ _
 | exit id=>exact loc_endRound _ _ _ _
 | pan v=>exact Loc.none
theorem loc_roundBody (E:Env) {self:EV} (hs:EVLoc self) (l:Nat) (body:Code) (x:X) (a:Ac):LocP fun s=>qfd E self l body (x,a,s):=by
 unfold qfd;cases x<;>try exact Loc.none
 dsimp only;refine Loc.bind (loc_getO l) fun o=>?_;dsimp only;cases o<;>try exact Loc.none
 rename_i st pend tmps n params assign body';refine Loc.cond ?_ Loc.none;refine Loc.of_eq (g:=fun s=>((fun s=>some (setO s l (.loop 2 pend tmps n params assign body'))) s).bind fun s=>((qd7 E body).run self a s).bind (qej l)) (fun _=>rfl) ?_;exact Loc.bindS (LocS.setO _ _) (Loc.bindX (loc_comp E body self hs a) fun e a'=>loc_roundEnd l e a')
theorem loc_stepR (E:Env) {self:EV} (hs:EVLoc self) (l:Nat) (args:List V):LocP fun s=>stepR E self l args s:=by
 unfold stepR;refine Loc.bind (loc_getO l) fun o=>?_;dsimp only;cases o<;>try exact Loc.none
 refine Loc.opt fun t=>?_;exact Loc.bindX (loc_comp E _ self hs _) fun e a'=>loc_roundBody E hs l _ e a'
theorem loc_ev (E:Env) {K:FuncId->Option KF} (hK:KnLoc K):∀n,EVLoc (ev E K n)
 | 0=>⟨fun _ _=>Loc.none,fun _ _=>Loc.none⟩
 | n+1=>⟨fun f args=>loc_stepF E hK (loc_ev E hK n) f args,fun l args=>loc_stepR E (loc_ev E hK n) l args⟩
open Go.RowKit
section
variable {P:Program} {E:Env} {w0:Base} {ρ:Rho} {s:St} {w:World} {a:Ac} {ca:Act}
def EnSim (E:Env) (w0:Base) (ρ:Rho) (s':St):En->Ending->World->Prop
 | .ret v,ce,w'=>∃ρ' cv,ce=.returned cv/\ρ.le ρ'/\VRel ρ' v cv/\Rel E w0 ρ' s' w'
 | .pan v,ce,w'=>∃ρ' cv,ce=.panicked [{v:=cv,recovered:=false}]/\ρ.le ρ'/\VRel ρ' v cv/\Rel E w0 ρ' s' w'
def qbb (r:Option Nat):Fence:={Fence.wide with round:=r}
theorem qi3 (r:Option Nat):(qbb r).depth.isSome=true->1<=0:=fun h=>by cases h
theorem callsAt {P:Program} {f:FuncId} {args:Array Value} {w:World} {R:Ending->World->Prop} (r:Option Nat) (n:Nat) (h:Calls P f args w R):CallsIn (qbb r) n P f args w R:=callsIn_wide.2 h
theorem roundAt {P:Program} {l:Nat} {f:FuncId} {tmps:Array Value} {assign body:Code} {w:World} {R:Ending->World->Prop} {n:Nat} (r:Option Nat) (h:RoundIn Fence.wide n P l f tmps assign body w R):RoundIn (qbb r) n P l f tmps assign body w R:=h
def qgv (r:Loop) (args:Array Value):Array Value:=(r.params.zip args).foldl (fun tmps (t,a)=>tmps.setIfInBounds t a) r.tmps
structure EVSim (P:Program) (E:Env) (sf:EV):Prop where
 call:∀(w0:Base) (ρ:Rho) (s:St) (w:World) (f:FuncId) (args:List V) (cargs:Array Value) (e:En) (s':St),
  Rel E w0 ρ s w->VRels ρ args cargs.toList->sf.f f args s=some (e,s')->Calls P f cargs w (EnSim E w0 ρ s' e)
 round:∀(w0:Base) (ρ:Rho) (s:St) (w:World) (l:Nat) (args:List V) (cargs:Array Value) (e:En) (s':St) (cl sh sz:Nat),
  Rel E w0 ρ s w->ρ l=some (cl,sh,sz)->VRels ρ args cargs.toList->sf.r l args s=some (e,s')->
  ∃r,w.heap[cl]?=some (.loop r)/\cargs.size=r.params.size/\RoundIn Fence.wide 0 P cl r.fn (qgv r cargs) r.assign r.body w (EnSim E w0 ρ s' e)
theorem opF_defer {c:Call} {nx:Nx} (h:(opF E (.defer c)).run a s=some nx):∃d s',nx=.defer d s':=by
 simp only[opF]at h;cases hc:c.callee with
 | builtin b=>rw[hc]at h; cases h
 | invoke x n=>rw[hc]at h; cases h
 | value f=>
  rw[hc]at h;have h':qho E f c.args.toList a s=some nx:=h;unfold qho at h';simp only[oI]at h';obtain⟨v,hv,h'⟩:=h';cases v<;>simp only[reduceCtorEq]at h';simp only[oI,oS]at h';obtain⟨vs,_,rfl⟩:=h';exact⟨_,_,rfl⟩
theorem qhf {o:Oper} {nx:Nx} (h:(opF E o.op).run a s=some nx) (hd:∀d s',nx≠.defer d s') (r:Option Nat) (ev:Operand->Value):o.semAt r ev=execOp ev o:=
 Oper.semAt_eq r ev o fun c hc=>by
  rw[hc]at h;obtain⟨d,s',e⟩:=opF_defer h;exact hd d s' e
theorem qi2 (t:Nat) (m:Tr V):(getP (bits t t)).run m=m.get t:=getP_bits t t m (lR _)
theorem qcf (hA:ARel ρ a ca) {ops:Array Oper} {o:Oper} {b:Bool} (h:(qe8 ops o).run a=some b):Region.wanted o (yielded ops ca.tmps)=b:=by
 unfold qe8 at h;unfold Region.wanted;cases hg:o.guard with
 | none=>
  rw[hg]at h;have h':some true=some b:=h;simpa using h'
 | some gw=>
  obtain⟨j,want⟩:=gw;rw[hg]at h;simp only at h ⊢;unfold yielded;cases hd:(ops[j]?).bind (·.dst)with
  | none=>
   rw[hd]at h;have h':some false=some b:=h;simp only[oS]at h';subst h';simp
  | some t=>
   rw[hd]at h;have h':qkf t (getP (bits t t)) want a=some b:=h;unfold qkf at h';rw[qi2]at h';cases hlt:Nat.blt t a.n with
   | false=>
    rw[hlt]at h';simp only[cF,oS]at h';subst h'
    have:ca.tmps[t]?=none:=Array.getElem?_eq_none (by
     rw[hA.n];rcases Nat.lt_or_ge t a.n with h1|h1
     . rw[<- blt_true]at h1; rw[h1]at hlt; cases hlt
     . exact h1)
    simp[this]
   | true=>
    rw[hlt]at h';simp only[cT,oI]at h';obtain⟨v,hv,h'⟩:=h';have hr:=hA.tmp t v hv;rw[blt_true]at hlt;have hsz:t<ca.tmps.size:=by rw[hA.n]; exact hlt
    have hget:ca.tmps[t]?=some (ca.tmps.getD t undef):=by
     rw[Array.getElem?_eq_getElem hsz];simp[Array.getD,hsz]
    simp only[oB,hget];generalize ca.tmps.getD t undef=cv at hr ⊢;cases hr<;>simp only[oS]at h'<;>subst h'<;>simp;rename_i b;cases b<;>cases want<;>rfl
inductive Made (E:Env) (ops:Array Oper) (o:Oper) (self:EV) (a:Ac) (s:St):V->St->Prop where
 | no (hw:(qe8 ops o).run a=some false):Made E ops o self a s (.tuple []) s
 | val {v:V} {s':St} (hw:(qe8 ops o).run a=some true) (h:(opF E o.op).run a s=some (.val v s')):Made E ops o self a s v s'
 | call {f:FuncId} {args:List V} {s1:St} {v:V} {s':St} (hw:(qe8 ops o).run a=some true) (h:(opF E o.op).run a s=some (.enter f args s1)) (h2:self.f f args s1=some (.ret v,s')) :
  Made E ops o self a s v s'
 | round {l:Nat} {args:List V} {s1:St} {v:V} {s':St} (hw:(qe8 ops o).run a=some true) (h:(opF E o.op).run a s=some (.round l args s1)) (h2:self.r l args s1=some (.ret v,s')) :
  Made E ops o self a s v s'
theorem ql0 (hE:EnvOk P E) {self:EV} (hs:EVSim P E self) {ops:Array Oper} {i:Nat} {o:Oper} (hi:ops[i]?=some o) (hR:Rel E w0 ρ s w) (hA:ARel ρ a ca) {v:V} {s':St} (h:Made E ops o self a s v s') (rd:Option Nat)
 {K:Act->World->Prop} {Q:Exit->Act->World->Prop} (hK:∀ρ' cv w',ρ.le ρ'->VRel ρ' v cv->Rel E w0 ρ' s' w'->K (ca.put o.dst cv) w'):wpOpIn (qbb rd) 0 P ops Q i K ca w:=by
 unfold wpOpIn;simp only[hi];cases h with
 | no hw=>
  rw[qcf hA hw];simp only[Bool.false_eq_true,if_false];exact⟨fun _ _=>trivial,hK ρ undef w (Rho.le_refl ρ) qfg hR⟩
 | val hw h=>
  rw[qcf hA hw];simp only[if_true];refine⟨fun _ _=>trivial,?_⟩;rw[qhf h (fun _ _ e=>by cases e)];obtain⟨ρ',cv,w',hrun,hle,hv,hR'⟩:=qdr (P:=P) hE hR hA o h;rcases hrun with hrun|⟨hrun,rfl⟩
  . rw[hrun]; exact hK ρ' cv w' hle hv hR'
  . rw[hrun]; exact hK ρ' undef w' hle hv hR'
 | call hw h h2=>
  rw[qcf hA hw];simp only[if_true];refine⟨fun _ _=>trivial,?_⟩;rw[qhf h (fun _ _ e=>by cases e)];obtain⟨cargs,hrun,hv,hR'⟩:=qdr (P:=P) hE hR hA o h;rw[hrun];refine⟨qi3 rd,callsAt rd _ ((hs.call w0 ρ _ w _ _ cargs _ _ hR' hv h2).mono fun ce w' hce=>?_)⟩;obtain⟨ρ',cv,rfl,hle,hcv,hR2⟩:=hce;exact hK ρ' cv w' hle hcv hR2
 | round hw h h2=>
  rw[qcf hA hw];simp only[if_true];refine⟨fun _ _=>trivial,?_⟩;rw[qhf h (fun _ _ e=>by cases e)];obtain⟨cargs,cl,sh,sz,hρ,hrun,hv,hR'⟩:=qdr (P:=P) hE hR hA o h;obtain⟨r,hloop,hsz,hround⟩:=hs.round w0 ρ _ w _ _ cargs _ _ cl sh sz hR' hρ hv h2;rw[hrun,run_yield hloop hsz];refine⟨qi3 rd,roundAt rd (hround.mono fun ce w' hce=>?_)⟩;obtain⟨ρ',cv,rfl,hle,hcv,hR2⟩:=hce;exact hK ρ' cv w' hle hcv hR2
def PanBy (E:Env) (o:Oper) (self:EV) (a:Ac) (s:St) (v:V) (s':St):Prop:=
 (opF E o.op).run a s=some (.pan v s')\/(∃f args s1,(opF E o.op).run a s=some (.enter f args s1)/\self.f f args s1=some (.pan v,s'))\/
  ∃l args s1,(opF E o.op).run a s=some (.round l args s1)/\self.r l args s1=some (.pan v,s')
theorem qmm {ops:Array Oper} {o:Oper} {self:EV} {x:X} {a':Ac} {s':St} (h:(op1 E ops o).run self a s=some (x,a',s')) :
 (x=.norm/\∃v,Made E ops o self a s v s'/\(qjc o.dst).run a v=some a')\/
 (x=.norm/\a.round=none/\(qe8 ops o).run a=some true/\∃d,(opF E o.op).run a s=some (.defer d s')/\(qjc o.dst).run {a with defers:=d::a.defers} (.tuple [])=some a')\/
 (∃v,x=.pan v/\a'=a/\(qe8 ops o).run a=some true/\PanBy E o self a s v s'):=by
 have h':runOp (qe8 ops o) (opF E o.op) (qjc o.dst) self a s=some (x,a',s'):=h;unfold runOp at h';simp only[oI]at h';obtain⟨b,hb,h'⟩:=h';cases b with
 | false=>
  simp only[cF,oI,oS,pM]at h';obtain⟨a1,ha1,rfl,rfl,rfl⟩:=h';exact .inl ⟨rfl,_,.no hb,ha1⟩
 | true=>
  simp only[cT,oI]at h';obtain⟨nx,hnx,h'⟩:=h';cases nx with
  | val v s1=>
   simp only[qbe,qbv,qaw,oI,oS,pM]at h';obtain⟨a1,ha1,rfl,rfl,rfl⟩:=h';exact .inl ⟨rfl,v,.val hb hnx,ha1⟩
  | enter f args s1=>
   simp only[qbe,qaw,oI,Prod.exists]at h';obtain⟨e,s2,he,h'⟩:=h';cases e with
   | ret v=>
    simp only[qbm,qbv,qaw,oI,oS,pM]at h';obtain⟨a1,ha1,rfl,rfl,rfl⟩:=h';exact .inl ⟨rfl,v,.call hb hnx he,ha1⟩
   | pan v=>
    simp only[qbm,oS,pM]at h';obtain⟨rfl,rfl,rfl⟩:=h';exact .inr (.inr ⟨v,rfl,rfl,hb,.inr (.inl ⟨f,args,s1,hnx,he⟩)⟩)
  | round f args s1=>
   simp only[qbe,qaw,oI,Prod.exists]at h';obtain⟨e,s2,he,h'⟩:=h';cases e with
   | ret v=>
    simp only[qbm,qbv,qaw,oI,oS,pM]at h';obtain⟨a1,ha1,rfl,rfl,rfl⟩:=h';exact .inl ⟨rfl,v,.round hb hnx he,ha1⟩
   | pan v=>
    simp only[qbm,oS,pM]at h';obtain⟨rfl,rfl,rfl⟩:=h';exact .inr (.inr ⟨v,rfl,rfl,hb,.inr (.inr ⟨f,args,s1,hnx,he⟩)⟩)
  | defer d s1=>
   simp only[qbe]at h';cases hr:a.round with
   | some l=>rw[hr]at h'; cases h'
   | none=>
   rw[hr]at h';simp only[oI,oS,pM]at h';obtain⟨a1,ha1,rfl,rfl,rfl⟩:=h';exact .inr (.inl ⟨rfl,rfl,hb,d,hnx,ha1⟩)
  | recover s1=>simp[qbe]at h'
  | pan v s1=>
   simp only[qbe,oS,pM]at h';obtain⟨rfl,rfl,rfl⟩:=h';exact .inr (.inr ⟨v,rfl,rfl,hb,.inl hnx⟩)
theorem pan_sim (hE:EnvOk P E) {self:EV} (hs:EVSim P E self) {ops:Array Oper} {i:Nat} {o:Oper} (hi:ops[i]?=some o) (hR:Rel E w0 ρ s w) (hA:ARel ρ a ca) {v:V} {s':St} (hw:(qe8 ops o).run a=some true)
 (h:PanBy E o self a s v s') (rd:Option Nat)
 {K:Act->World->Prop} {Q:Exit->Act->World->Prop} (hQ:∀ρ' cv w',ρ.le ρ'->VRel ρ' v cv->Rel E w0 ρ' s' w'->Q (.panic [{v:=cv,recovered:=false}]) ca w'):wpOpIn (qbb rd) 0 P ops Q i K ca w:=by
 unfold wpOpIn;simp only[hi];rw[qcf hA hw];simp only[if_true];refine⟨fun _ _=>trivial,?_⟩;rcases h with h|⟨f,args,s1,h,h2⟩|⟨l,args,s1,h,h2⟩
 . rw[qhf h (fun _ _ e=>by cases e)]
   obtain⟨cv,hrun,hv,hR'⟩:=qdr (P:=P) hE hR hA o h;rw[hrun]; exact hQ ρ cv w (Rho.le_refl ρ) hv hR'
 . rw[qhf h (fun _ _ e=>by cases e)]
   obtain⟨cargs,hrun,hv,hR'⟩:=qdr (P:=P) hE hR hA o h;rw[hrun];refine⟨qi3 rd,callsAt rd _ ((hs.call w0 ρ _ w _ _ cargs _ _ hR' hv h2).mono fun ce w' hce=>?_)⟩;obtain⟨ρ',cv,rfl,hle,hcv,hR2⟩:=hce;exact hQ ρ' cv w' hle hcv hR2
 . rw[qhf h (fun _ _ e=>by cases e)]
   obtain⟨cargs,cl,sh,sz,hρ,hrun,hv,hR'⟩:=qdr (P:=P) hE hR hA o h;obtain⟨r,hloop,hsz,hround⟩:=hs.round w0 ρ _ w _ _ cargs _ _ cl sh sz hR' hρ hv h2;rw[hrun,run_yield hloop hsz];refine⟨qi3 rd,roundAt rd (hround.mono fun ce w' hce=>?_)⟩;obtain⟨ρ',cv,rfl,hle,hcv,hR2⟩:=hce;exact hQ ρ' cv w' hle hcv hR2
def XSim (E:Env) (w0:Base) (ρ:Rho) (a':Ac) (s':St):X->Exit->Act->World->Prop
 | .norm,e,ca',w'=>e=.normal/\∃ρ',ρ.le ρ'/\ARel ρ' a' ca'/\Rel E w0 ρ' s' w'
 | .exit id,e,ca',w'=>e=.exit id/\∃ρ',ρ.le ρ'/\ARel ρ' a' ca'/\Rel E w0 ρ' s' w'
 | .ret,e,ca',w'=>e=.ret/\∃ρ',ρ.le ρ'/\ARel ρ' a' ca'/\Rel E w0 ρ' s' w'
 | .pan v,e,ca',w'=>∃ρ' cv,e=.panic [{v:=cv,recovered:=false}]/\ρ.le ρ'/\VRel ρ' v cv/\ARel ρ' a' ca'/\Rel E w0 ρ' s' w'
theorem op1_sim (hE:EnvOk P E) {self:EV} (hs:EVSim P E self) {ops:Array Oper} {i:Nat} {o:Oper} (hi:ops[i]?=some o) (hR:Rel E w0 ρ s w) (hA:ARel ρ a ca) {x:X} {a':Ac} {s':St} (h:(op1 E ops o).run self a s=some (x,a',s')) {rd:Option Nat} (hrd:a.round=none->rd=none)
 {K:Act->World->Prop} {Q:Exit->Act->World->Prop} (hK:x=.norm->∀ρ' ca' w',ρ.le ρ'->ARel ρ' a' ca'->Rel E w0 ρ' s' w'->K ca' w')
 (hQ:x≠.norm->∀e ca' w',XSim E w0 ρ a' s' x e ca' w'->Q e ca' w'):wpOpIn (qbb rd) 0 P ops Q i K ca w:=by
 rcases qmm h with⟨rfl,v,hm,hp⟩|⟨rfl,hr,hw,d,hd,hp⟩|⟨v,rfl,rfl,hw,hp⟩
 . refine ql0 hE hs hi hR hA hm rd fun ρ' cv w' hle hv hR'=>?_
   exact hK rfl ρ' _ w' hle (qeu (hA.mono hle) hp hv).1 hR'
 . obtain rfl:=hrd hr
   unfold wpOpIn;simp only[hi];rw[qcf hA hw];simp only[if_true];refine⟨fun _ _=>trivial,?_⟩;rw[show o.semAt (qbb none).round ca.eval=execOp ca.eval o from rfl];obtain⟨hmk,cd,hrun,hdr,hR'⟩:=qdr (P:=P) hE hR hA o hd;rw[hrun];have hA2:ARel ρ {a with defers:=d::a.defers} {ca with defers:=cd::ca.defers}:=⟨hA.n,hA.tmp,.cons hdr hA.defers⟩
   exact hK rfl ρ _ w (Rho.le_refl ρ) (qeu hA2 hp qfg).1 hR'
 . refine pan_sim hE hs hi hR hA hw hp rd fun ρ' cv w' hle hv hR'=>?_
   exact hQ (by simp) _ ca w' ⟨ρ',cv,rfl,hle,hv,hA.mono hle,hR'⟩
theorem qjr {dst:Option Tmp} {a a':Ac} {v:V} (h:(qjc dst).run a v=some a'):a'.round=a.round:=by
 cases dst with
 | none=>
  have h':some a=some a':=h;simp only[oS]at h'; subst h'; rfl
 | some d=>
  have h':putAt (setPC (bits d d)) d a v=some a':=h;rw[ql4]at h';cases hd:Nat.blt d a.n with
  | false=>rw[hd]at h'; cases h'
  | true=>
   rw[hd]at h';simp only[cT,oS]at h';subst h'; rfl
theorem qj1 {ops:Array Oper} {o:Oper} {self:EV} {x:X} {a':Ac} {s':St} (h:(op1 E ops o).run self a s=some (x,a',s')):a'.round=a.round:=by
 rcases qmm h with⟨_,v,_,hp⟩|⟨_,_,_,d,_,hp⟩|⟨v,_,rfl,_⟩
 . exact qjr hp
 . have:=qjr hp; exact this
 . rfl
theorem XSim.mono {ρ ρ1:Rho} (hle:ρ.le ρ1) {a':Ac} {s':St} {x:X} {e:Exit} {ca':Act} {w':World} (h:XSim E w0 ρ1 a' s' x e ca' w'):XSim E w0 ρ a' s' x e ca' w':=by
 cases x with
 | norm=>obtain⟨h1,ρ',h2,h3⟩:=h; exact⟨h1,ρ',Rho.le_trans hle h2,h3⟩
 | exit id=>obtain⟨h1,ρ',h2,h3⟩:=h; exact⟨h1,ρ',Rho.le_trans hle h2,h3⟩
 | ret=>obtain⟨h1,ρ',h2,h3⟩:=h; exact⟨h1,ρ',Rho.le_trans hle h2,h3⟩
 | pan v=>obtain⟨ρ',cv,h1,h2,h3⟩:=h; exact⟨ρ',cv,h1,Rho.le_trans hle h2,h3⟩
theorem opsL_sim (hE:EnvOk P E) {self:EV} (hs:EVSim P E self) {ops:Array Oper}:∀(l:List Oper) (k:Nat),(∀j o,l[j]?=some o->ops[k+j]?=some o)->∀{ρ0 ρ:Rho} {s:St} {w:World} {a:Ac} {ca:Act} {x:X} {a':Ac} {s':St},ρ0.le ρ->
 Rel E w0 ρ s w->ARel ρ a ca->∀{rd:Option Nat},(a.round=none->rd=none)->(opsL E ops l).run self a s=some (x,a',s')->wpOpsIn (qbb rd) 0 P ops (XSim E w0 ρ0 a' s' x) (List.range' k l.length) ca w:=by
 intro l
 induction l with
 | nil=>
  intro k _ ρ0 ρ s w a ca x a' s' hle0 hR hA rd hrd h;have h':some (X.norm,a,s)=some (x,a',s'):=h;simp only[oS,pM]at h';obtain⟨rfl,rfl,rfl⟩:=h';exact⟨rfl,ρ,hle0,hA,hR⟩
 | cons o l ih=>
  intro k hops ρ0 ρ s w a ca x a' s' hle0 hR hA rd hrd h;have h':((op1 E ops o).run self a s).bind (seqOn (opsL E ops l) self)=some (x,a',s'):=h;simp only[oI,Prod.exists]at h';obtain⟨x1,a1,s1,h1,h2⟩:=h';simp only[List.length_cons,List.range'_succ];rw[wpOpsIn_cons];have hk:ops[k]?=some o:=by simpa using hops 0 o (by simp)
  refine op1_sim hE hs hk hR hA h1 hrd (fun hx ρ' ca' w' hle hA' hR'=>?_) (fun hx e ca' w' hxs=>?_)
  . subst hx
    have h2':(opsL E ops l).run self a1 s1=some (x,a',s'):=h2;exact ih (k+1) (fun j o' hj=>by have:=hops (j+1) o' (by simpa using hj); rw[show k+1+j=k+(j+1) by omega]; exact this) (Rho.le_trans hle0 hle) hR' hA' (fun e=>hrd ((qj1 h1).symm.trans e)) h2'
  . have h2':some (x1,a1,s1)=some (x,a',s'):=by cases x1<;>first|exact absurd rfl hx|exact h2
    simp only[oS,pM]at h2';obtain⟨rfl,rfl,rfl⟩:=h2';exact hxs.mono hle0
end
end Go.Proofs.YtafbipadnnmccaaDoor.Ev
namespace Go.Proofs.YtafbipadnnmccaaDoor.Ev
theorem nthN_eq:∀(l:List Nat) (i:Nat),nthN l i=l.getD i 0
 | [],i=>by simp[nthN]
 | x::l,0=>by simp[nthN]
 | x::l,i+1=>by simp only[nthN]; rw[show Nat.beq (i+1) 0=false from rfl]; simp[nthN_eq l i]
theorem befs_spec:∀(l:List Oper) (acc:List Nat),∃R,befs l acc=acc++R/\R.length=l.length/\
 ∀(k:Nat) (o:Oper),l[k]?=some o->nthN (acc++R) (acc.length+k)=befOf ((acc++R).take (acc.length+k)) o.after.toList
 | [],acc=>⟨[],by simp[befs],rfl,by simp⟩
 | o::l,acc=>by
  obtain⟨R,h1,h2,h3⟩:=befs_spec l (acc++[befOf acc o.after.toList]);refine⟨befOf acc o.after.toList::R,by simp only[befs,h1]; simp,by simp[h2],fun k o' hk=>?_⟩;cases k with
  | zero=>
   simp at hk;subst hk;rw[nthN_eq];simp
  | succ k=>
   have:=h3 k o' (by simpa using hk);simp only[List.append_assoc,lAq,List.length_cons,List.length_nil,List.singleton_append]at this;rw[show acc.length+(k+1)=acc.length+(0+1)+k by omega];exact this
theorem qlh {acc:List Nat} {i:Nat}:∀{es:List Edge},(befOf acc es).testBit i=true->∃e∈es,Region.binds .any e=true/\(e.on=i\/(nthN acc e.on).testBit i=true)
 | [],h=>by simp[befOf]at h
 | e::es,h=>by
  simp only[befOf]at h;cases hb:Region.binds .any e with
  | false=>
   rw[hb]at h;obtain⟨e',h1,h2⟩:=qlh (es:=es) h;exact⟨e',mO _ h1,h2⟩
  | true=>
   rw[hb]at h;have h':((2^e.on ||| nthN acc e.on) ||| befOf acc es).testBit i=true:=h;rw[Nat.testBit_or,Nat.testBit_or,Nat.testBit_two_pow]at h';simp only[Bool.or_eq_true,decide_eq_true_eq]at h';rcases h' with(h'|h')|h'
   . exact⟨e,List.mem_cons_self ..,hb,.inl h'⟩
   . exact⟨e,List.mem_cons_self ..,hb,.inr h'⟩
   . obtain⟨e',h1,h2⟩:=qlh (es:=es) h'
     exact⟨e',mO _ h1,h2⟩
def bef (ops:Array Oper) (j:Nat):Nat:=nthN (befs ops.toList []) j
def qga (ops:Array Oper):Prop:=∀(k:Nat) (o:Oper),ops[k]?=some o->∀e∈o.after,Region.binds .any e=true->e.on<k
theorem bef_bit {ops:Array Oper} (hb:qga ops) {j i:Nat} {o:Oper} (ho:ops[j]?=some o) (h:(bef ops j).testBit i=true) :
 ∃e∈o.after,Region.binds .any e=true/\e.on<j/\(e.on=i\/(bef ops e.on).testBit i=true):=by
 obtain⟨R,h1,h2,h3⟩:=befs_spec ops.toList [];simp only[List.nil_append,List.length_nil,Nat.zero_add]at h1 h3;have hj:=h3 j o (by simpa using ho);unfold bef at h;rw[h1,hj]at h;obtain⟨e,he,hbi,h4⟩:=qlh h;have he':e∈o.after:=by simpa using he
 have hlt:=hb j o ho e he' hbi;refine⟨e,he',hbi,hlt,h4.imp id fun h5=>?_⟩;unfold bef;rw[h1];rw[nthN_eq]at h5 ⊢;rw[List.getD_eq_getElem?_getD,List.getElem?_take,iP hlt]at h5;rw[List.getD_eq_getElem?_getD];exact h5
def ql9 (ops:Array Oper) (D:Nat->Prop):Prop:=∀k,D k->∀o,ops[k]?=some o->∀e∈o.after,Region.binds .any e=true->D e.on
theorem qh4 {ops:Array Oper} (hb:qga ops) {D:Nat->Prop} (hD:ql9 ops D) {i:Nat}:∀(j:Nat) (o:Oper),ops[j]?=some o->(∀e∈o.after,Region.binds .any e=true->D e.on)->(bef ops j).testBit i=true->D i:=by
 intro j
 induction j using Nat.strongRecOn with
 | _ j ih=>
  intro o ho hr h;obtain⟨e,he,hbi,hlt,h4⟩:=bef_bit hb ho h;have hDe:=hr e he hbi;rcases h4 with h4|h4
  . exact h4▸hDe
  . have hlt':e.on<ops.size:=by
     have:=(Array.getElem?_eq_some_iff.1 ho).1;omega
    have hoe:ops[e.on]?=some ops[e.on]:=Array.getElem?_eq_getElem hlt';exact ih e.on hlt ops[e.on] hoe (hD e.on hDe ops[e.on] hoe) h4
theorem bef_lt {ops:Array Oper} (hb:qga ops) {i:Nat}:∀(j:Nat) (o:Oper),ops[j]?=some o->(bef ops j).testBit i=true->i<j:=by
 intro j
 induction j using Nat.strongRecOn with
 | _ j ih=>
  intro o ho h;obtain⟨e,he,hbi,hlt,h4⟩:=bef_bit hb ho h;rcases h4 with h4|h4
  . omega
  . have hlt':e.on<ops.size:=by
     have:=(Array.getElem?_eq_some_iff.1 ho).1;omega
    have:=ih e.on hlt ops[e.on] (Array.getElem?_eq_getElem hlt') h4;omega
theorem qk1:∀(l:List Oper) (i:Nat),qly l i=true->∀(k:Nat) (o:Oper),l[k]?=some o->∀e∈o.after,Region.binds .any e=true->e.on<i+k
 | [],_,_,k,o,h=>by simp at h
 | o::l,i,hok,k,o',h=>by
  simp only[qly,bA,List.all_eq_true]at hok;cases k with
  | zero=>
   simp at h;subst h;intro e he hb;have:=hok.1 e (by simpa using he);rw[hb]at this;simp only[Bool.not_true,Bool.false_or]at this;rw[blt_true]at this;omega
  | succ k=>
   intro e he hb;have:=qk1 l (i+1) hok.2 k o' (by simpa using h) e he hb;omega
def plAt (E:Env) (ops:Array Oper) (i:Nat) (o:Oper) (b:Nat):Pl:={i:=i,bef:=b,dst:=o.dst,lk:=qfp ops o,sil:=qj8 o.op,al:=qfi E o}
theorem plOf_get (E:Env) (ops:Array Oper):∀(l:List Oper) (i:Nat) (bl:List Nat) (k:Nat) (o:Oper),l[k]?=some o->(plOf E ops l i bl)[k]?=some (plAt E ops (i+k) o (bl.getD k 0))
 | [],_,_,k,o,h=>by simp at h
 | o::l,i,bl,0,o',h=>by
  simp at h;subst h;simp only[plOf,plAt,List.getElem?_cons_zero];cases bl<;>simp
 | o::l,i,bl,k+1,o',h=>by
  simp only[plOf,List.getElem?_cons_succ];rw[plOf_get E ops l (i+1) bl.tail k o' (by simpa using h)];rw[show i+1+k=i+(k+1) by omega];cases bl<;>simp
theorem qh0 {p:Pl}:∀{l:List Pl},qhg p l=true->∀q∈l,unord p q=true->apartN p.dst p.lk q.dst q.lk=true
 | [],_,q,h=>by cases h
 | x::l,hok,q,h=>by
  simp only[qhg,bA]at hok;intro hu;cases h with
  | head=>rw[hu]at hok; exact hok.1
  | tail _ hm=>exact qh0 hok.2 q hm hu
theorem qn8:∀{l:List Pl},tmpsOk l=true->∀(i j:Nat) (p q:Pl),i<j->l[i]?=some p->l[j]?=some q->unord p q=true->apartN p.dst p.lk q.dst q.lk=true
 | [],_,i,j,p,q,_,h,_=>by simp at h
 | x::l,hok,i,j,p,q,hij,hi,hj=>by
  simp only[tmpsOk,bA]at hok;intro hu;cases j with
  | zero=>omega
  | succ j=>
   have hj':l[j]?=some q:=by simpa using hj
   cases i with
   | zero=>
    simp at hi;subst hi;exact qh0 hok.1 q (List.mem_of_getElem? hj') hu
   | succ i=>exact qn8 hok.2 i j p q (by omega) (by simpa using hi) hj' hu
theorem qht {p:Pl}:∀{l:List Pl} (q:Pl),q∈l->unord p q=true->q.sil=false->q.i∈qfa p l
 | [],q,h=>by cases h
 | x::l,q,h=>by
  intro hu hs;simp only[qfa];cases h with
  | head=>rw[hu,hs]; exact List.mem_cons_self ..
  | tail _ hm=>
   have:=qht q hm hu hs;cases(unord p x&&!x.sil)
   . exact this
   . exact mO _ this
theorem pairs_spec:∀{l:List Pl} (i j:Nat) (p q:Pl),i<j->l[i]?=some p->l[j]?=some q->unord p q=true->p.sil=false->q.sil=false->∃js,(p.i,js)∈pairs l/\q.i∈js
 | [],i,j,p,q,_,h,_=>by simp at h
 | x::l,i,j,p,q,hij,hi,hj=>by
  intro hu hp hq;cases j with
  | zero=>omega
  | succ j=>
   have hj':l[j]?=some q:=by simpa using hj
   cases i with
   | zero=>
    simp at hi;subst hi;have hm:=qht (p:=x) q (List.mem_of_getElem? hj') hu hq;refine⟨qfa x l,?_,hm⟩;simp only[pairs,hp,cF];split
    . rename_i h; rw[h]at hm; cases hm
    . exact List.mem_cons_self ..
   | succ i=>
    obtain⟨js,h1,h2⟩:=pairs_spec i j p q (by omega) (by simpa using hi) hj' hu hp hq;refine⟨js,?_,h2⟩;simp only[pairs];cases x.sil
    . simp only[cF]
      split
      . exact h1
      . exact mO _ h1
    . exact h1
theorem qlp {e:LE}:∀{l:List LE},qgf e l=false->∀x∈l,meet e x=false
 | [],_,x,h=>by cases h
 | y::l,hc,x,h=>by
  simp only[qgf]at hc;cases hm:meet e y with
  | true=>rw[hm]at hc; cases hc
  | false=>
   rw[hm]at hc;cases h with
   | head=>exact hm
   | tail _ h=>exact qlp hc x h
theorem clash_spec {b:List LE}:∀{a:List LE},qbi a b=false->∀x∈a,∀y∈b,meet x y=false
 | [],_,x,h=>by cases h
 | z::a,hc,x,h=>by
  simp only[qbi]at hc;cases hm:qgf z b with
  | true=>rw[hm]at hc; cases hc
  | false=>
   rw[hm]at hc;cases h with
   | head=>exact qlp hm
   | tail _ h=>exact clash_spec hc x h
theorem meet_spec {e f:LE} (h:meet e f=false) (hb:e.b=f.b):e.w=false/\f.w=false:=by
 unfold meet at h;rw[hb,Nat.beq_refl]at h;simp only[cT]at h;cases he:e.w<;>rw[he]at h
 . exact⟨rfl,h⟩
 . cases h
theorem qil {x:List LE} {logs:List (List LE)}:∀{js:List Nat},qea x logs js=false->∀j∈js,qbi x (qg7 j logs)=false
 | [],_,j,h=>by cases h
 | k::js,hc,j,h=>by
  simp only[qea]at hc;cases hm:qbi x (qg7 k logs)with
  | true=>rw[hm]at hc; cases hc
  | false=>
   rw[hm]at hc;cases h with
   | head=>exact hm
   | tail _ h=>exact qil hc j h
theorem qkb {logs:List (List LE)}:∀{prs:List (Nat×List Nat)},qag logs prs=true->∀i js,(i,js)∈prs->∀j∈js,qbi (qg7 i logs) (qg7 j logs)=false
 | [],_,i,js,h=>by cases h
 | (k,ks)::prs,hc,i,js,h=>by
  simp only[qag]at hc;cases hm:qea (qg7 k logs) logs ks with
  | true=>rw[hm]at hc; cases hc
  | false=>
   rw[hm]at hc;cases h with
   | head=>exact qil hm
   | tail _ h=>exact qkb hc i js h
theorem qkz:∀(logs:List (List LE)) (i:Nat),qg7 i logs=logs.getD i []
 | [],i=>by simp[qg7]
 | x::l,0=>by simp[qg7]
 | x::l,i+1=>by simp only[qg7]; rw[show Nat.beq (i+1) 0=false from rfl]; simp[qkz l i]
theorem qjm {k:Nat}:∀{l:List Nat},memN k l=false->k∉l
 | [],_=>by simp
 | x::l,h=>by
  simp only[memN]at h;cases hb:Nat.beq x k with
  | true=>rw[hb]at h; cases h
  | false=>
   rw[hb]at h;have hne:=Nat.ne_of_beq_eq_false hb;simp only[List.mem_cons,not_or];exact⟨fun e=>hne e.symm,qjm h⟩
theorem qe3 {dx dy:Option Tmp} {lx ly:List Tmp} (h:apartN dx lx dy ly=true):(∀d,dx=some d->d∉ly/\dy≠some d)/\(∀d,dy=some d->d∉lx):=by
 unfold apartN at h;simp only[bA]at h;refine⟨fun d hd=>?_,fun d hd=>?_⟩
 . subst hd
   simp only[bA,Bool.not_eq_true']at h;refine⟨qjm h.1.1,fun he=>?_⟩;subst he;have:(!Nat.beq d d)=true:=h.1.2;rw[Nat.beq_refl]at this;cases this
 . subst hd
   simp only[Bool.not_eq_true']at h;exact qjm h.2
structure PlanOk (ops:Array Oper):Prop where
 back:qga ops
 tmps:∀(i j:Nat) (x y:Oper),i<j->ops[i]?=some x->ops[j]?=some y->(bef ops j).testBit i=false->apartN x.dst (qfp ops x) y.dst (qfp ops y)=true
theorem qfs {E:Env} {ops:Array Oper} {k:Nat} {o:Oper} (h:ops[k]?=some o):(qas E ops).pls[k]?=some (plAt E ops k o (bef ops k)):=by
 have:=plOf_get E ops ops.toList 0 (befs ops.toList []) k o (by simpa using h);rw[Nat.zero_add]at this;unfold bef;rw[nthN_eq];exact this
theorem plan_ok {E:Env} {ops:Array Oper} (h:(qas E ops).ok=true):PlanOk ops:=by
 have h':(qly ops.toList 0&&tmpsOk (qas E ops).pls)=true:=h;simp only[bA]at h';refine⟨fun k o ho e he hb=>?_,fun i j x y hij hi hj hbit=>?_⟩
 . have:=qk1 ops.toList 0 h'.1 k o (by simpa using ho) e he hb
   omega
 . exact qn8 h'.2 i j _ _ hij (qfs hi) (qfs hj) (by show(!Nat.testBit (bef ops j) i)=true; rw[hbit]; rfl)
theorem plan_pairs {E:Env} {ops:Array Oper} {logs:List (List LE)} (h:qag logs (qas E ops).prs=true) {i j:Nat} {x y:Oper} (hij:i<j) (hi:ops[i]?=some x) (hj:ops[j]?=some y)
 (hbit:(bef ops j).testBit i=false) (hx:qj8 x.op=false) (hy:qj8 y.op=false):∀e∈logs.getD i [],∀f∈logs.getD j [],e.b=f.b->e.w=false/\f.w=false:=by
 obtain⟨js,h1,h2⟩:=pairs_spec (l:=(qas E ops).pls) i j _ _ hij (qfs hi) (qfs hj) (by show(!Nat.testBit (bef ops j) i)=true; rw[hbit]; rfl) hx hy;have hc:=qkb (prs:=(qas E ops).prs) h _ _ h1 _ h2;have hc':qbi (qg7 i logs) (qg7 j logs)=false:=hc;rw[qkz,qkz]at hc';intro e he f hf hb;exact meet_spec (clash_spec hc' e he f hf) hb
theorem noW_spec:∀{l:List LE},noW l=true->∀e∈l,e.w=false
 | [],_,e,h=>by cases h
 | x::l,hok,e,h=>by
  unfold noW at hok;cases hw:x.w with
  | true=>rw[hw]at hok; cases hok
  | false=>
   rw[hw]at hok;cases h with
   | head=>exact hw
   | tail _ h=>exact noW_spec hok e h
theorem qj2 {i b:Nat} {logs:List (List LE)}:∀{l:List Pl},qfr i b logs l=true->∀q∈l,q.i=i\/b.testBit q.i=true\/q.bef.testBit i=true\/(q.i<i/\noW (qg7 q.i logs)=true)\/(¬q.i<i/\q.al=true)
 | [],_,q,h=>by cases h
 | x::l,hok,q,h=>by
  simp only[qfr,bA,Bool.or_eq_true]at hok;cases h with
  | head=>
   rcases hok.1 with((h1|h1)|h1)|h1
   . exact .inl (Nat.eq_of_beq_eq_true h1)
   . exact .inr (.inl h1)
   . exact .inr (.inr (.inl h1))
   . cases hb:Nat.blt x.i i with
     | true=>rw[hb]at h1; exact .inr (.inr (.inr (.inl ⟨blt_true.1 hb,h1⟩)))
     | false=>rw[hb]at h1; exact .inr (.inr (.inr (.inr ⟨fun h=>(by rw[blt_true.2 h]at hb; cases hb),h1⟩)))
  | tail _ h=>exact qj2 hok.2 q h
theorem dropT_spec {i b:Nat} {t:Nat} {v:V}:∀{l:List Pl} {m:Tr V},(dropT i b l m).get t=some v->m.get t=some v/\∀q∈l,q.i≠i->b.testBit q.i=false->q.bef.testBit i=false->q.dst≠some t
 | [],m,h=>⟨h,fun q hq=>by cases hq⟩
 | x::l,m,h=>by
  obtain⟨h1,h2⟩:=dropT_spec (l:=l) h;cases hc:(Nat.beq x.i i||Nat.testBit b x.i||Nat.testBit x.bef i)with
  | true=>
   rw[hc]at h1;simp only[Bool.or_eq_true]at hc;refine⟨h1,fun q hq hne hb hbi=>?_⟩;cases hq with
   | head=>
    exfalso;rcases hc with(hc|hc)|hc
    . exact hne (Nat.eq_of_beq_eq_true hc)
    . rw[hb]at hc; cases hc
    . rw[hbi]at hc; cases hc
   | tail _ hq=>exact h2 q hq hne hb hbi
  | false=>
   rw[hc]at h1;simp only[cF]at h1;cases hd:x.dst with
   | none=>
    rw[hd]at h1;refine⟨h1,fun q hq hne hb hbi=>?_⟩;cases hq with
    | head=>rw[hd]; exact fun h=>by cases h
    | tail _ hq=>exact h2 q hq hne hb hbi
   | some d=>
    rw[hd]at h1;obtain⟨h3,h4⟩:=Tr.get_del _ _ _ h1;refine⟨h4,fun q hq hne hb hbi=>?_⟩;cases hq with
    | head=>rw[hd]; exact fun h=>h3 (by simpa using h.symm)
    | tail _ hq=>exact h2 q hq hne hb hbi
theorem pinned_round {i:Nat} {logs:List (List LE)} {pls:List Pl} {a a':Ac} (h:pinned i logs pls a=some a'):a'.round=a.round:=by
 unfold pinned at h;split at h
 . rename_i p _
   cases hat:qfr i p.bef logs pls with
   | false=>rw[hat]at h; cases h
   | true=>
    rw[hat]at h;simp only[cT,oS]at h;subst h; rfl
 . cases h
theorem plan_pinned {E:Env} {ops:Array Oper} {i:Nat} {o:Oper} {logs:List (List LE)} {a a':Ac} (ho:ops[i]?=some o) (h:pinned i logs (qas E ops).pls a=some a') :
 (∀j x,ops[j]?=some x->j≠i->(bef ops i).testBit j=true\/(bef ops j).testBit i=true\/(j<i/\noW (logs.getD j [])=true)\/(i<j/\qfi E x=true))/\
 a'.n=a.n/\a'.defers=a.defers/\a'.round=a.round/\
 ∀t v,a'.tmps.get t=some v->a.tmps.get t=some v/\∀j x,ops[j]?=some x->j≠i->(bef ops i).testBit j=false->(bef ops j).testBit i=false->x.dst≠some t:=by
 unfold pinned at h;cases hf:(qas E ops).pls.find? fun p=>Nat.beq p.i i with
 | none=>rw[hf]at h; cases h
 | some p=>
  rw[hf]at h;have hp:=List.find?_some hf;have hpi:p.i=i:=Nat.eq_of_beq_eq_true hp;obtain⟨k,hk⟩:=List.mem_iff_getElem?.1 (List.mem_of_find?_eq_some hf)
  have hkk:p=plAt E ops i o (bef ops i):=by
   have hlt:k<ops.size:=by
    rcases Nat.lt_or_ge k ops.size with h1|h1
    . exact h1
    . have hlen:(qas E ops).pls.length=ops.size:=by
       have:∀(l:List Oper) (i:Nat) (bl:List Nat),(plOf E ops l i bl).length=l.length:=by
        intro l
        induction l with
        | nil=>intro i bl; rfl
        | cons o l ih=>intro i bl; simp[plOf,ih]
       have:=this ops.toList 0 (befs ops.toList []);rw[Array.length_toList]at this;exact this
      rw[List.getElem?_eq_none (by omega)]at hk;cases hk
   have hg:=qfs (E:=E) (ops:=ops) (k:=k) (o:=ops[k]) (Array.getElem?_eq_getElem hlt);rw[hk]at hg;simp only[oS]at hg;have hki:k=i:=by rw[hg]at hpi; exact hpi
   subst hki;have:ops[k]=o:=by rw[Array.getElem?_eq_getElem hlt]at ho; simpa using ho
   rw[hg,this]
  cases hat:qfr i p.bef logs (qas E ops).pls with
  | false=>simp only[hat,cF,reduceCtorEq]at h
  | true=>
  simp only[hat,cT,oS]at h;subst h;refine⟨fun j x hj hne=>?_,rfl,rfl,rfl,fun t v ht=>?_⟩
  . have hs:=qj2 hat (plAt E ops j x (bef ops j)) (List.mem_of_getElem? (qfs hj))
    rcases hs with h1|h1|h1|⟨h1,h2⟩|⟨h1,h2⟩
    . exact absurd h1 hne
    . rw[hkk]at h1; exact .inl h1
    . exact .inr (.inl h1)
    . refine .inr (.inr (.inl ⟨h1,?_⟩))
      rw[<- qkz]; exact h2
    . refine .inr (.inr (.inr ⟨?_,h2⟩))
      have h1':¬j<i:=h1;omega
  . obtain⟨h1,h2⟩:=dropT_spec ht
    refine⟨h1,fun j x hj hne hb hbi=>?_⟩;exact h2 (plAt E ops j x (bef ops j)) (List.mem_of_getElem? (qfs hj)) hne (by rw[hkk]; exact hb) hbi
section
variable {E:Env} {a a2:Ac} {s:St}
theorem evO_congr {x:Operand} (h:∀t,x=.tmp t->a2.tmps.get t=a.tmps.get t):evO E a2 x=evO E a x:=by
 cases x with
 | tmp t=>show(getP (bits t t)).run a2.tmps=(getP (bits t t)).run a.tmps; rw[qi2,qi2]; exact h t rfl
 | const c=>rfl
 | global g=>rfl
 | func f=>rfl
theorem qcb:∀{l:List Operand},(∀x∈l,evO E a2 x=evO E a x)->qcn E a2 l=qcn E a l
 | [],_=>rfl
 | x::l,h=>by simp only[qcn,h x (List.mem_cons_self ..),qcb (l:=l) fun y hy=>h y (mO _ hy)]
theorem qgr:∀{l:List (Nat×Operand)},(∀x∈l.map (·.2),evO E a2 x=evO E a x)->qei E a2 l=qei E a l
 | [],_=>rfl
 | (i,x)::l,h=>by simp only[qei,h x (List.mem_cons_self ..),qgr (l:=l) fun y hy=>h y (mO _ hy)]
theorem qi0:∀{o:Option Operand},(∀x∈o.toArray,evO E a2 x=evO E a x)->qg6 E a2 o=qg6 E a o
 | none,_=>rfl
 | some x,h=>by simp only[qg6,h x (by simp)]
theorem builtinF_congr {b:Builtin} {ts:List TypeId} {args:List Operand} (h:∀x∈args,evO E a2 x=evO E a x):(qa8 E b ts args).run a2 s=(qa8 E b ts args).run a s:=by
 cases b<;>try rfl
 case append=>
  simp only[qa8];split
  . show qgc E _ _ _ _ a2 s=qgc E _ _ _ _ a s
    unfold qgc;simp only[h _ (List.mem_cons_self ..),h _ (mO _ (List.mem_cons_self ..))]
  . rfl
 case cap=>
  simp only[qa8];split
  . show bCap E _ _ a2 s=bCap E _ _ a s
    unfold bCap;simp only[h _ (List.mem_cons_self ..)]
  . rfl
 case copy=>
  simp only[qa8];split
  . show bCopy E _ _ _ a2 s=bCopy E _ _ _ a s
    unfold bCopy;simp only[h _ (List.mem_cons_self ..),h _ (mO _ (List.mem_cons_self ..))]
  . rfl
 case delete=>
  simp only[qa8];split
  . show qgd E _ _ _ a2 s=qgd E _ _ _ a s
    unfold qgd;simp only[h _ (List.mem_cons_self ..),h _ (mO _ (List.mem_cons_self ..))]
  . rfl
 case len=>
  simp only[qa8];split
  . show bLen E _ _ a2 s=bLen E _ _ a s
    unfold bLen;simp only[h _ (List.mem_cons_self ..)]
  . rfl
 case max=>
  simp only[qa8];split
  . show qik E _ _ _ a2 s=qik E _ _ _ a s
    unfold qik;simp only[h _ (List.mem_cons_self ..),qcb fun x hx=>h x (mO _ hx)]
  . rfl
 case min=>
  simp only[qa8];split
  . show qik E _ _ _ a2 s=qik E _ _ _ a s
    unfold qik;simp only[h _ (List.mem_cons_self ..),qcb fun x hx=>h x (mO _ hx)]
  . rfl
 case unsafeSliceData=>
  simp only[qa8];split
  . show qdz E _ a2 s=qdz E _ a s
    unfold qdz;simp only[h _ (List.mem_cons_self ..)]
  . rfl
 case unsafeString=>
  simp only[qa8];split
  . show qcg E _ _ _ a2 s=qcg E _ _ _ a s
    unfold qcg;simp only[h _ (List.mem_cons_self ..),h _ (mO _ (List.mem_cons_self ..))]
  . rfl
 case panic=>
  simp only[qa8];split
  . show qg4 E _ a2 s=qg4 E _ a s
    unfold qg4;simp only[h _ (List.mem_cons_self ..)]
  . rfl
theorem opF_congr {op:Op} (h:∀x∈op.operands,evO E a2 x=evO E a x):(opF E op).run a2 s=(opF E op).run a s:=by
 cases op<;>simp only[Op.operands]at h<;>try rfl
 case move x=>show oMove E x a2 s=oMove E x a s; unfold oMove; rw[h x (by simp)]
 case assign x=>show oMove E x a2 s=oMove E x a s; unfold oMove; rw[h x (by simp)]
 case pick c x y=>show oPick E c x y a2 s=oPick E c x y a s; unfold oPick; rw[h c (by simp),h x (by simp),h y (by simp)]
 case box t x=>show oBox E t x a2 s=oBox E t x a s; unfold oBox; rw[h x (by simp)]
 case build t ps=>show qhn E t ps.toList a2 s=qhn E t ps.toList a s; unfold qhn; rw[qgr fun x hx=>h x (by simpa using hx)]
 case buildSlice t n ps=>show qcd E t n ps.toList a2 s=qcd E t n ps.toList a s; unfold qcd; rw[qgr fun x hx=>h x (by simpa using hx)]
 case load t x=>show oLoad E t x a2 s=oLoad E t x a s; unfold oLoad; rw[h x (by simp)]
 case store t x y=>show qk9 E t x y a2 s=qk9 E t x y a s; unfold qk9; rw[h x (by simp),h y (by simp)]
 case nilCheck x=>show qcp E x a2 s=qcp E x a s; unfold qcp; rw[h x (by simp)]
 case binOp op t x y t2=>show oBin E op t x y a2 s=oBin E op t x y a s; unfold oBin; rw[h x (by simp),h y (by simp)]
 case unOp op t x=>show oUn E op x a2 s=oUn E op x a s; unfold oUn; rw[h x (by simp)]
 case convert t u x=>show qeg E t u x a2 s=qeg E t u x a s; unfold qeg; rw[h x (by simp)]
 case makeInterface t x=>show qbz E t x a2 s=qbz E t x a s; unfold qbz; rw[h x (by simp)]
 case makeFunc fn x y=>
  show qco E fn x.toList y.toList a2 s=qco E fn x.toList y.toList a s;unfold qco;rw[qcb (l:=x.toList) fun z hz=>h z (by simp at hz; simp[hz]),qcb (l:=y.toList) fun z hz=>h z (by simp at hz; simp[hz])]
 case makeMap t r=>
  cases r with
  | none=>rfl
  | some x=>show qeh E t (some x) a2 s=qeh E t (some x) a s; unfold qeh; simp only; rw[h x (by simp)]
 case makeSlice t x y=>show qcu E t x y a2 s=qcu E t x y a s; unfold qcu; rw[h x (by simp),h y (by simp)]
 case slice t x lo hi mx=>
  show qk8 E t x lo hi mx a2 s=qk8 E t x lo hi mx a s;unfold qk8;rw[h x (by simp),qi0 (o:=lo) fun z hz=>h z (by simp at hz; simp[hz]),qi0 (o:=hi) fun z hz=>h z (by simp at hz; simp[hz]),qi0 (o:=mx) fun z hz=>h z (by simp at hz; simp[hz])]
 case fieldAddr t x f=>show qbx E t x f a2 s=qbx E t x f a s; unfold qbx; rw[h x (by simp)]
 case field t x f=>show qhp E t x f a2 s=qhp E t x f a s; unfold qhp; rw[h x (by simp)]
 case indexAddr t x y=>show qby E t x y a2 s=qby E t x y a s; unfold qby; rw[h x (by simp),h y (by simp)]
 case index t x y=>show qhq E t x y a2 s=qhq E t x y a s; unfold qhq; rw[h x (by simp),h y (by simp)]
 case lookup t x y ok=>show qgp E t x y ok a2 s=qgp E t x y ok a s; unfold qgp; rw[h x (by simp),h y (by simp)]
 case mapUpdate t x y z=>show qd1 E t x y z a2 s=qd1 E t x y z a s; unfold qd1; rw[h x (by simp),h y (by simp),h z (by simp)]
 case insert t x y z=>show qd1 E t x y z a2 s=qd1 E t x y z a s; unfold qd1; rw[h x (by simp),h y (by simp),h z (by simp)]
 case mapEntry t x y=>show qk6 E t x y a2 s=qk6 E t x y a s; unfold qk6; rw[h x (by simp),h y (by simp)]
 case entryStore t x y z=>show qce E x y z a2 s=qce E x y z a s; unfold qce; rw[h x (by simp),h y (by simp),h z (by simp)]
 case typeAssert x xt t ok=>show qes E x t ok a2 s=qes E x t ok a s; unfold qes; rw[h x (by simp)]
 case range t x=>show qk7 E t x a2 s=qk7 E t x a s; unfold qk7; rw[h x (by simp)]
 case next x b=>show oNext E x b a2 s=oNext E x b a s; unfold oNext; rw[h x (by simp)]
 case extract x i=>show qdf E x i a2 s=qdf E x i a s; unfold qdf; rw[h x (by simp)]
 case panic x=>show qg4 E x a2 s=qg4 E x a s; unfold qg4; rw[h x (by simp)]
 case call c=>
  simp only[opF];cases hc:c.callee with
  | builtin b=>exact builtinF_congr fun x hx=>h x (by simp at hx; simp[Call.operands,hx])
  | value f=>
   show qmj E f c.args.toList a2 s=qmj E f c.args.toList a s;unfold qmj;rw[h f (by simp[Call.operands,hc]),qcb fun x hx=>h x (by simp at hx; simp[Call.operands,hx])]
  | invoke x n=>rfl
 case defer c=>
  simp only[opF];cases hc:c.callee with
  | builtin b=>rfl
  | value f=>
   show qho E f c.args.toList a2 s=qho E f c.args.toList a s;unfold qho;rw[h f (by simp[Call.operands,hc]),qcb fun x hx=>h x (by simp at hx; simp[Call.operands,hx])]
  | invoke x n=>rfl
theorem qne {ops:Array Oper} {o:Oper} (hn:a2.n=a.n) (h:∀t∈qfp ops o,a2.tmps.get t=a.tmps.get t):(qe8 ops o).run a2=(qe8 ops o).run a:=by
 unfold qe8;cases hg:o.guard with
 | none=>rfl
 | some gw=>
  obtain⟨j,want⟩:=gw;simp only;cases hd:(ops[j]?).bind (·.dst)with
  | none=>rfl
  | some t=>
   show qkf t (getP (bits t t)) want a2=qkf t (getP (bits t t)) want a;unfold qkf;rw[qi2,qi2,hn,h t (by unfold qfp; simp[hg,hd])]
theorem looks_op {ops:Array Oper} {o:Oper} {t:Nat} (h:Operand.tmp t∈o.op.operands):t∈qfp ops o:=by
 unfold qfp;exact List.mem_append_left _ (List.mem_filterMap.2 ⟨.tmp t,by simpa using h,rfl⟩)
theorem made_congr {ops:Array Oper} {o:Oper} {self:EV} {v:V} {s':St} (hn:a2.n=a.n) (h:∀t∈qfp ops o,a2.tmps.get t=a.tmps.get t) (hm:Made E ops o self a s v s'):Made E ops o self a2 s v s':=by
 have hw:=qne (ops:=ops) (o:=o) hn h;have ho:(opF E o.op).run a2 s=(opF E o.op).run a s:=opF_congr fun x hx=>evO_congr fun t ht=>h t (looks_op (ht▸hx));cases hm with
 | no h1=>exact .no (hw.trans h1)
 | val h1 h2=>exact .val (hw.trans h1) (ho.trans h2)
 | call h1 h2 h3=>exact .call (hw.trans h1) (ho.trans h2) h3
 | round h1 h2 h3=>exact .round (hw.trans h1) (ho.trans h2) h3
theorem qib {op:Op} (h:qj8 op=true) {nx:Nx} (hr:(opF E op).run a s=some nx):∃v,nx=.val v s:=by
 have hp:∀{o:Option V},pS o s=some nx->∃v,nx=.val v s:=fun hh=>by
  unfold pS at hh; simp only[oI,oS]at hh; obtain⟨v,_,rfl⟩:=hh; exact⟨v,rfl⟩
 cases op<;>simp only[qj8,Bool.false_eq_true]at h
 case move x=>exact hp hr
 case assign x=>exact hp hr
 case pick c x y=>
  have hr':oPick E c x y a s=some nx:=hr;unfold oPick at hr';simp only[oI]at hr';obtain⟨v,hv,hr'⟩:=hr';cases v<;>simp only[reduceCtorEq]at hr';rename_i b;cases b<;>exact hp hr'
 case build t ps=>
  have hr':qhn E t ps.toList a s=some nx:=hr;unfold qhn at hr';simp only[oI]at hr';obtain⟨v,hv,hr'⟩:=hr';exact hp hr'
 case nilCheck x=>
  have hr':qcp E x a s=some nx:=hr;unfold qcp at hr';simp only[oI]at hr';obtain⟨v,hv,hr'⟩:=hr';cases hn:qmf v<;>rw[hn]at hr'
  . cases hr'
  . simp only[cT,oS]at hr'; exact⟨v,hr'.symm⟩
 case binOp op t x y t2=>
  have hr':oBin E op t x y a s=some nx:=hr;unfold oBin at hr';simp only[oI]at hr';obtain⟨v,hv,u,hu,hr'⟩:=hr';exact hp hr'
 case unOp op t x=>
  have hr':oUn E op x a s=some nx:=hr;unfold oUn at hr';simp only[oI]at hr';obtain⟨v,hv,hr'⟩:=hr';exact hp hr'
 case makeInterface t x=>
  have hr':qbz E t x a s=some nx:=hr;unfold qbz at hr';simp only[oI]at hr';obtain⟨d,hd,hr'⟩:=hr';cases hn:qbr d<;>rw[hn]at hr'
  . cases hr'
  . simp only[cT,oI,oS]at hr'
    obtain⟨v,_,rfl⟩:=hr';exact⟨_,rfl⟩
 case makeFunc fn x y=>
  have hr':qco E fn x.toList y.toList a s=some nx:=hr;unfold qco at hr';simp only[oI,oS]at hr';obtain⟨v,hv,u,hu,rfl⟩:=hr';exact⟨_,rfl⟩
 case fieldAddr t x f=>
  have hr':qbx E t x f a s=some nx:=hr;unfold qbx at hr';simp only[oI]at hr';obtain⟨p,hp',hr'⟩:=hr';cases hb:Nat.beq p.2.2 0<;>rw[hb]at hr'
  . simp only[cF,oI]at hr'
    obtain⟨v,hv,hr'⟩:=hr';cases v<;>try simp only[reduceCtorEq,oS]at hr'
    . exact⟨_,hr'.symm⟩
    . rename_i u
      cases u<;>try simp only[reduceCtorEq]at hr'
      simp only[oI,oS]at hr';obtain⟨w,_,rfl⟩:=hr';exact⟨_,rfl⟩
  . cases hr'
 case field t x f=>
  have hr':qhp E t x f a s=some nx:=hr;unfold qhp at hr';simp only[oI]at hr';obtain⟨p,hp',v,hv,hr'⟩:=hr';cases v<;>simp only[reduceCtorEq]at hr';exact hp hr'
 case indexAddr t x y=>
  have hr':qby E t x y a s=some nx:=hr;unfold qby at hr';simp only[oI]at hr';obtain⟨d,hd,vi,hvi,n,hn,v,hv,hr'⟩:=hr'
  have hat:∀{n z len b off:Nat},qg0 n z len b off s=some nx->∃v,nx=.val v s:=fun{n z len b off} hh=>by
   unfold qg0 at hh;cases hb:Nat.blt n len<;>rw[hb]at hh
   . cases hh
   . simp only[cT,oS]at hh; exact⟨_,hh.symm⟩
  have hcond:∀{b:Bool} {o:Option V},(bif b then o.bind fun v=>some (Nx.val (V.cptr v) s)else none)=some nx->∃v,nx=.val v s:=fun{b o} hh=>by
   cases b
   . cases hh
   . simp only[cT,oI,oS]at hh
     obtain⟨w,_,rfl⟩:=hh;exact⟨_,rfl⟩
  unfold qh9 at hr';cases d<;>simp only[reduceCtorEq]at hr'
  all_goals
   simp only[oI]at hr';obtain⟨z,hz,hr'⟩:=hr';cases v<;>try simp only[reduceCtorEq]at hr'
   all_goals first
    | exact hat hr'
    | exact hcond hr'
    | (rename_i u
       cases u<;>try simp only[reduceCtorEq]at hr'
       exact hcond hr')
 case index t x y=>
  have hr':qhq E t x y a s=some nx:=hr;unfold qhq at hr';simp only[oI]at hr';obtain⟨d,hd,vi,hvi,n,hn,v,hv,hr'⟩:=hr';unfold indexV at hr';cases d<;>simp only[reduceCtorEq]at hr'
  . cases v<;>simp only[reduceCtorEq]at hr'
    rename_i len k;cases hb:Nat.blt n len<;>rw[hb]at hr'
    . cases hr'
    . simp only[cT,oS]at hr'; exact⟨_,hr'.symm⟩
  . cases v<;>simp only[reduceCtorEq]at hr'
    rename_i len e m cs;simp only[oI]at hr';obtain⟨z,hz,hr'⟩:=hr';cases hb:Nat.blt n len<;>rw[hb]at hr'
    . cases hr'
    . exact hp hr'
 case typeAssert x xt t ok=>
  have hr':qes E x t ok a s=some nx:=hr;unfold qes at hr';simp only[oI]at hr';obtain⟨d,hd,hr'⟩:=hr'
  have hno:qde E t ok s=some nx->∃v,nx=.val v s:=fun hh=>by
   unfold qde at hh;cases ok
   . cases hh
   . simp only[cT,oI,oS]at hh
     obtain⟨z,_,rfl⟩:=hh;exact⟨_,rfl⟩
  cases hn:qbr d<;>rw[hn]at hr'
  . cases hr'
  . simp only[cT,oI]at hr'
    obtain⟨v,hv,hr'⟩:=hr';unfold assertV at hr';cases v<;>simp only[reduceCtorEq]at hr'
    . rename_i t' v
      cases hb:Nat.beq t' t<;>rw[hb]at hr'
      . exact hno hr'
      . simp only[cT,oS]at hr'; exact⟨_,hr'.symm⟩
    . exact hno hr'
 case extract x i=>
  have hr':qdf E x i a s=some nx:=hr;unfold qdf at hr';simp only[oI]at hr';obtain⟨v,hv,hr'⟩:=hr';cases v<;>simp only[reduceCtorEq]at hr';exact hp hr'
theorem qmc {ops:Array Oper} {o:Oper} {self:EV} {v:V} {s':St} (h:qj8 o.op=true) (hm:Made E ops o self a s v s'):s'=s:=by
 cases hm with
 | no h1=>rfl
 | val h1 h2=>obtain⟨u,hu⟩:=qib h h2; simp only[Nx.val.injEq]at hu; exact hu.2
 | call h1 h2 h3=>obtain⟨u,hu⟩:=qib h h2; cases hu
 | round h1 h2 h3=>obtain⟨u,hu⟩:=qib h h2; cases hu
theorem made_loc {ops:Array Oper} {o:Oper} {self:EV} (hs:EVLoc self) {v:V} {s':St} (hon:s.on=true) (hm:Made E ops o self a s v s') :
 Grows s s'/\∀F t,Agree F s t->Within F s'->∃t',Made E ops o self a t v t'/\Agree F s' t'/\Grows t t':=by
 cases hm with
 | no h1=>exact⟨Grows.refl hon,fun F t hA _=>⟨t,.no h1,hA,Grows.refl (hA.on.trans hon)⟩⟩
 | val h1 h2=>
  obtain⟨g1,l1⟩:=loc_opF E o.op a s _ hon h2;refine⟨g1,fun F t hA hW=>?_⟩;obtain⟨t',e1,A1⟩:=l1 F t hA hW;exact⟨t',.val h1 e1,A1,(loc_opF E o.op a t _ (hA.on.trans hon) e1).1⟩
 | @call f args s1 _ _ h1 h2 h3=>
  obtain⟨g1,l1⟩:=loc_opF E o.op a s _ hon h2;obtain⟨g2,l2⟩:=hs.1 f args s1 _ g1.on h3;refine⟨g1.trans g2,fun F t hA hW=>?_⟩;obtain⟨t1,e1,A1⟩:=l1 F t hA fun e he=>hW e (g2.sub he);obtain⟨t2,e2,A2⟩:=l2 F t1 A1 hW;have gt1:=(loc_opF E o.op a t _ (hA.on.trans hon) e1).1;exact⟨t2,.call h1 e1 e2,A2,gt1.trans (hs.1 f args t1 _ (A1.on.trans g1.on) e2).1⟩
 | @round f args s1 _ _ h1 h2 h3=>
  obtain⟨g1,l1⟩:=loc_opF E o.op a s _ hon h2;obtain⟨g2,l2⟩:=hs.2 f args s1 _ g1.on h3;refine⟨g1.trans g2,fun F t hA hW=>?_⟩;obtain⟨t1,e1,A1⟩:=l1 F t hA fun e he=>hW e (g2.sub he);obtain⟨t2,e2,A2⟩:=l2 F t1 A1 hW;have gt1:=(loc_opF E o.op a t _ (hA.on.trans hon) e1).1;exact⟨t2,.round h1 e1 e2,A2,gt1.trans (hs.2 f args t1 _ (A1.on.trans g1.on) e2).1⟩
end
theorem Tr.part {α:Type} (t:Tr α):∀(l:List Nat),∃u:Tr α,∀k,u.get k=if k∈l then t.get k else none
 | []=>⟨.nil,fun k=>by simp[Tr.get_nil]⟩
 | x::l=>by
  obtain⟨u,hu⟩:=Tr.part t l;cases hx:t.get x with
  | none=>
   refine⟨u,fun k=>?_⟩;rw[hu];by_cases hk:k=x
   . subst hk; simp[hx]
   . simp[hk]
  | some v=>
   refine⟨u.set v x,fun k=>?_⟩;rw[Tr.get_set,hu];by_cases hk:k=x
   . subst hk; simp[hx]
   . simp[hk]
def Rho.upto (ρ:Rho) (N:Nat):Rho:={ρ with blk:=fun b=>if b<N then ρ b else none}
theorem Rho.upto_eq (ρ:Rho) (N b:Nat):(ρ.upto N) b=if b<N then ρ b else none:=rfl
theorem Rho.upto_some {ρ:Rho} {N b:Nat} {x:Nat×Nat×Nat} (h:ρ b=some x) (hb:b<N):ρ.upto N b=some x:=by rw[Rho.upto_eq,iP hb]; exact h
theorem Rho.upto_le (ρ:Rho) (N:Nat):(ρ.upto N).le ρ:=⟨fun b x h=>(by
 rw[Rho.upto_eq]at h;by_cases hb:b<N
 . rw[iP hb]at h; exact h
 . rw[iN hb]at h; cases h),fun _ _ h=>h⟩
section
variable {ρ ρ2:Rho} {N:Nat}
mutual
theorem VRel.upto (hN:∀b x,ρ2 b=some x->b<N):∀{v:V} {cv cv2:Value},VRel ρ v cv->VRel ρ2 v cv2->VRel (ρ.upto N) v cv
 | _,_,_,.bool b,_=>.bool b
 | _,_,_,.int k n,_=>.int k n
 | _,_,_,.str s,_=>.str s
 | _,_,_,.ptr h,.ptr h2=>.ptr (Rho.upto_some h (hN _ _ h2))
 | _,_,_,.nilptr,_=>.nilptr
 | _,_,_,.slice h hl ha,.slice h2 _ _=>.slice (Rho.upto_some h (hN _ _ h2)) hl ha
 | _,_,_,.oslice h hl hz hc ha,.oslice h2 _ _ _ _=>.oslice (Rho.upto_some h (hN _ _ h2)) hl hz hc ha
 | _,_,_,.eslice a c,_=>.eslice a c
 | _,_,_,.nilslice,_=>.nilslice
 | _,_,_,.map h,.map h2=>.map (Rho.upto_some h (hN _ _ h2))
 | _,_,_,.nilmap,_=>.nilmap
 | _,_,_,.fn hx hy,.fn hx2 hy2=>.fn (VRels.upto hN hx hx2) (VRels.upto hN hy hy2)
 | _,_,_,.yield h,.yield h2=>.yield (Rho.upto_some h (hN _ _ h2))
 | _,_,_,.nilfn,_=>.nilfn
 | _,_,_,.iface h,.iface h2=>.iface (VRel.upto hN h h2)
 | _,_,_,.niliface,_=>.niliface
 | _,_,_,.agg hn h1 h,.agg (cs:=cs2) hn2 h12 h2=>.agg hn h1 fun i v hi cv hc=>
  VRel.upto hN (h i v hi cv hc) (h2 i v hi (cs2[i]'(by
   have:=(Array.getElem?_eq_some_iff.1 hc).1
   omega)) (Array.getElem?_eq_getElem _))
 | _,_,_,.tuple h,.tuple h2=>.tuple (VRels.upto hN h h2)
 | _,_,_,.list h ht hn hl hf,.list h2 _ _ _ _=>.list (VRels.upto hN h h2) ht hn hl hf
 | _,_,_,.cptr h hf,.cptr h2 _=>.cptr (VRel.upto hN h h2) hf
theorem VRels.upto (hN:∀b x,ρ2 b=some x->b<N):∀{l:List V} {cl cl2:List Value},VRels ρ l cl->VRels ρ2 l cl2->VRels (ρ.upto N) l cl
 | _,_,_,.nil,_=>.nil
 | _,_,_,.cons h t,.cons h2 t2=>.cons (VRel.upto hN h h2) (VRels.upto hN t t2)
end
theorem MERels.upto (hN:∀b x,ρ2 b=some x->b<N):∀{l:List ME} {cl cl2:List MapEntry},MERels ρ l cl->MERels ρ2 l cl2->MERels (ρ.upto N) l cl
 | _,_,_,.nil,_=>.nil
 | _,_,_,.cons h t,.cons h2 t2=>.cons ⟨VRel.upto hN h.k h2.k,VRel.upto hN h.v h2.v,h.born⟩ (MERels.upto hN t t2)
end
open Go.RowKit Classical
def Lw {β:Type} (f:Nat->β) (wrt:Nat->Prop) (D:Nat->Prop):Nat->β
 | 0=>f 0
 | k+1=>if D k/\wrt k then f (k+1)else Lw f wrt D k
section
variable {β:Type} {f:Nat->β} {wrt D:Nat->Prop} {m:Nat}
theorem Lw_eq (hf:∀k,k<m->¬wrt k->f (k+1)=f k):∀j,j<=m->(∀k,k<j->wrt k->D k)->Lw f wrt D j=f j
 | 0,_,_=>rfl
 | j+1,hj,h=>by
  simp only[Lw];by_cases hw:wrt j
  . rw[iP ⟨h j (by omega) hw,hw⟩]
  . rw[iN (fun hh=>hw hh.2),Lw_eq hf j (by omega) fun k hk=>h k (by omega),hf j (by omega) hw]
theorem qig {j:Nat}:∀n,j<=n->(∀k,j<=k->k<n->D k->¬wrt k)->Lw f wrt D n=Lw f wrt D j
 | 0,hj,_=>by rw[show j=0 by omega]
 | n+1,hj,h=>by
  by_cases e:j=n+1
  . rw[e]
  . simp only[Lw]
    rw[iN fun hh=>h n (by omega) (by omega) hh.1 hh.2];exact qig n (by omega) fun k h1 h2=>h k h1 (by omega)
def qh1 (D:Nat->Prop) (j:Nat):Nat->Prop:=fun k=>k=j\/D k
theorem qjd {j:Nat} (hw:¬wrt j):∀n,Lw f wrt (qh1 D j) n=Lw f wrt D n
 | 0=>rfl
 | n+1=>by
  simp only[Lw,qjd hw n];by_cases e:n=j
  . subst e
    rw[iN fun hh=>hw hh.2,iN fun hh=>hw hh.2]
  . have:(qh1 D j n/\wrt n)↔(D n/\wrt n):=by unfold qh1; simp[e]
    simp only[this]
theorem qlb {j n:Nat} (hj:j<n) (hw:wrt j) (h:∀k,j<k->k<n->D k->¬wrt k):Lw f wrt (qh1 D j) n=f (j+1):=by
 rw[qig (j:=j+1) n (by omega) fun k h1 h2 hd=>?_]
 . simp only[Lw]
   rw[iP ⟨.inl rfl,hw⟩]
 . rcases hd with hd|hd
   . omega
   . exact h k (by omega) h2 hd
end
section
variable {E:Env} {ρ ρ' ρt:Rho} {w wt:World}
theorem OR.restrict {B B' Bt:Prt} {b:Nat} {o:O} {N:Nat} (h:OR B ρ b o w) (ht:OR Bt ρt b o wt) (hN:∀b x,ρt b=some x->b<N) (hold:∀cb sh sz,ρ b=some (cb,sh,sz)->B.old cb->B'.old cb)
 (hprot:∀cb sh sz,ρ b=some (cb,sh,sz)->o.mine=true->¬B.prot cb->¬B'.prot cb):OR B' (ρ.upto N) b o w:=by
 cases o with
 | dead=>trivial
 | cells e esz n ro c=>
  obtain⟨cb,sh,sz,cs,fr,hρ,hc⟩:=h;obtain⟨cb2,sh2,sz2,cs2,fr2,hρ2,hc2⟩:=ht;refine⟨cb,sh,sz,cs,fr,Rho.upto_some hρ (hN _ _ hρ2),hc.heap,hc.size,hc.room,hc.al,fun hr=>hold _ _ _ hρ (hc.old hr),fun hr=>⟨hprot _ _ _ hρ (by simp[O.mine,hr]) (hc.own hr).1,(hc.own hr).2⟩,hc.one,fun off v cv h1 h2 h3=>?_⟩;have hlt:sh2+off<cs2.size:=by have:=hc2.room; have:=hc2.size; omega
  exact VRel.upto hN (hc.cell off v cv h1 h2 h3) (hc2.cell off v _ h1 h2 (Array.getElem?_eq_getElem hlt))
 | map es cl=>
  obtain⟨cr,sh,sz,ces,hρ,hB,hw,hm⟩:=h;obtain⟨cr2,sh2,sz2,ces2,hρ2,hB2,hw2,hm2⟩:=ht;exact⟨cr,sh,sz,ces,Rho.upto_some hρ (hN _ _ hρ2),hprot _ _ _ hρ rfl hB,hw,hm.upto hN hm2⟩
 | siter l n pos=>
  obtain⟨cr,sz,str,hρ,hB,hw,hm⟩:=h;obtain⟨cr2,sz2,str2,hρ2,_⟩:=ht;exact⟨cr,sz,str,Rho.upto_some hρ (hN _ _ hρ2),hprot _ _ _ hρ rfl hB,hw,hm⟩
 | loop=>
  obtain⟨cr,sz,r,hρ,hB,hw,hm⟩:=h;obtain⟨cr2,sz2,r2,hρ2,_,_,hm2⟩:=ht;exact⟨cr,sz,r,Rho.upto_some hρ (hN _ _ hρ2),hprot _ _ _ hρ rfl hB,hw,hm.st,hm.pend,hm.n,fun t v hv=>VRel.upto hN (hm.tmp t v hv) (hm2.tmp t v hv),hm.params,hm.assign,hm.body⟩
 | defb=>
  obtain⟨cr,sz,hρ,hB,hw⟩:=h;obtain⟨cr2,sz2,hρ2,_⟩:=ht;exact⟨cr,sz,Rho.upto_some hρ (hN _ _ hρ2),hprot _ _ _ hρ rfl hB,hw⟩
theorem OR.conv {B B':Prt} {b:Nat} {o:O} (h:OR B ρ b o w) (hle:ρ.le ρ') (hold:∀cb,B.old cb->B'.old cb) (hprot:∀cb,¬B.prot cb->¬B'.prot cb):OR B' ρ' b o w:=by
 cases o with
 | dead=>trivial
 | cells e esz n ro c=>
  obtain⟨cb,sh,sz,cs,fr,hρ,hc⟩:=h;exact⟨cb,sh,sz,cs,fr,hle _ _ hρ,hc.heap,hc.size,hc.room,hc.al,fun hr=>hold _ (hc.old hr),fun hr=>⟨hprot _ (hc.own hr).1,(hc.own hr).2⟩,hc.one,fun off v cv h1 h2 h3=>(hc.cell off v cv h1 h2 h3).mono hle⟩
 | map es cl=>
  obtain⟨cr,sh,sz,ces,hρ,hB,hw,hm⟩:=h;exact⟨cr,sh,sz,ces,hle _ _ hρ,hprot _ hB,hw,hm.mono hle⟩
 | siter l n pos=>
  obtain⟨cr,sz,str,hρ,hB,hw,hm⟩:=h;exact⟨cr,sz,str,hle _ _ hρ,hprot _ hB,hw,hm⟩
 | loop=>
  obtain⟨cr,sz,r,hρ,hB,hw,hm⟩:=h;exact⟨cr,sz,r,hle _ _ hρ,hprot _ hB,hw,hm.mono hle⟩
 | defb=>
  obtain⟨cr,sz,hρ,hB,hw⟩:=h;exact⟨cr,sz,hle _ _ hρ,hprot _ hB,hw⟩
theorem OR.place {B:Prt} {b:Nat} {o:O} (h:OR B ρ b o w) (ha:o.alive=true):∃cb sh sz,ρ b=some (cb,sh,sz)/\cb<w.heap.size:=by
 have key:∀{cb:Nat} {x:Obj},w.heap[cb]?=some x->cb<w.heap.size:=fun{cb x} hx=>by
  rcases Nat.lt_or_ge cb w.heap.size with h|h
  . exact h
  . rw[Array.getElem?_eq_none h]at hx; cases hx
 cases o with
 | dead=>simp[O.alive]at ha
 | cells e esz n ro c=>obtain⟨cb,sh,sz,cs,fr,hρ,hc⟩:=h; exact⟨cb,sh,sz,hρ,key hc.heap⟩
 | map es cl=>obtain⟨cr,sh,sz,ces,hρ,hB,hw,hm⟩:=h; exact⟨cr,sh,sz,hρ,key hw⟩
 | siter l n pos=>obtain⟨cr,sz,str,hρ,hB,hw,hm⟩:=h; exact⟨cr,0,sz,hρ,key hw⟩
 | loop=>obtain⟨cr,sz,r,hρ,hB,hw,hm⟩:=h; exact⟨cr,0,sz,hρ,key hw⟩
 | defb=>obtain⟨cr,sz,hρ,hB,hw⟩:=h; exact⟨cr,0,sz,hρ,key hw⟩
theorem OR.mine_not {B:Prt} {b:Nat} {o:O} (h:OR B ρ b o w) (hm:o.mine=true) {cb sh sz:Nat} (hρ:ρ b=some (cb,sh,sz)):¬B.prot cb:=by
 cases o with
 | dead=>simp[O.mine]at hm
 | cells e esz n ro c=>
  obtain⟨cb',sh',sz',cs,fr,hρ',hc⟩:=h;rw[hρ]at hρ'; simp only[oS,pM]at hρ'; obtain⟨rfl,rfl,rfl⟩:=hρ';exact(hc.own (by simpa [O.mine]using hm)).1
 | map es cl=>
  obtain⟨cr,sh',sz',ces,hρ',hB,_⟩:=h;rw[hρ]at hρ'; simp only[oS,pM]at hρ'; obtain⟨rfl,rfl,rfl⟩:=hρ';exact hB
 | siter l n pos=>
  obtain⟨cr,sz',str,hρ',hB,_⟩:=h;rw[hρ]at hρ'; simp only[oS,pM]at hρ'; obtain⟨rfl,rfl,rfl⟩:=hρ';exact hB
 | loop=>
  obtain⟨cr,sz',r,hρ',hB,_⟩:=h;rw[hρ]at hρ'; simp only[oS,pM]at hρ'; obtain⟨rfl,rfl,rfl⟩:=hρ';exact hB
 | defb=>
  obtain⟨cr,sz',hρ',hB,_⟩:=h;rw[hρ]at hρ'; simp only[oS,pM]at hρ'; obtain⟨rfl,rfl,rfl⟩:=hρ';exact hB
theorem OR.other_prot {B:Prt} {b:Nat} {o:O} (h:OR B ρ b o w) (ha:o.alive=true) (hm:o.mine=false) {cb sh sz:Nat} (hρ:ρ b=some (cb,sh,sz)):B.prot cb:=by
 cases o with
 | dead=>simp[O.alive]at ha
 | cells e esz n ro c=>
  obtain⟨cb',sh',sz',cs,fr,hρ',hc⟩:=h;rw[hρ]at hρ'; simp only[oS,pM]at hρ'; obtain⟨rfl,rfl,rfl⟩:=hρ';exact B.sub _ (hc.old (by simpa [O.mine]using hm))
 | map es cl=>simp[O.mine]at hm
 | siter l n pos=>simp[O.mine]at hm
 | loop=>simp[O.mine]at hm
 | defb=>simp[O.mine]at hm
theorem qda {o:O} (h:o.mine=true):o.alive=true:=by cases o<;>simp[O.mine,O.alive]at h ⊢
end
def fresh (s:St):St:={s with on:=true,log:=[]}
def wr (S:Nat->St) (k b:Nat):Prop:=∃e∈(S (k+1)).log,e.b=b/\e.w=true
def fp (S:Nat->St) (k b:Nat):Prop:=∃e∈(S (k+1)).log,e.b=b
theorem qkx {S:Nat->St} {k b:Nat} (h:wr S k b):fp S k b:=let ⟨e,h1,h2,_⟩:=h; ⟨e,h1,h2⟩
structure Text (P:Program) (E:Env) (w0:Base) (ops:Array Oper) (sf:EV) (A:Nat->Ac) (S:Nat->St) (m:Nat) (ρ0:Rho):Prop where
 ok:EnvOk P E
 sim:EVSim P E sf
 loc:EVLoc sf
 plan:PlanOk ops
 made:∀k,k<m->∃o v,ops[k]?=some o/\Made E ops o sf (A k) (fresh (S k)) v (S (k+1))/\(qjc o.dst).run (A k) v=some (A (k+1))
 nc:∀i j,i<j->j<m->(bef ops j).testBit i=false->∀b,¬(wr S i b/\fp S j b)/\¬(fp S i b/\wr S j b)
 zero:∀b x,ρ0 b=some x->b<(S 0).next
 lo:w0.lo<=(S 0).next
 txt:∀j,j<=m->∃ρt wt cat,Rel E w0 ρt (S j) wt/\ARel ρt (A j) cat
def qlx (ops:Array Oper) (k:Nat):Option Tmp:=(ops[k]?).bind (·.dst)
def HS (S:Nat->St) (D:Nat->Prop) (m b:Nat):Option O:=Lw (fun k=>(S k).heap.get b) (fun k=>wr S k b) D m
def TS (ops:Array Oper) (A:Nat->Ac) (D:Nat->Prop) (m t:Nat):Option V:=Lw (fun k=>(A k).tmps.get t) (fun k=>qlx ops k=some t) D m
structure Inv (E:Env) (w0:Base) (ops:Array Oper) (A:Nat->Ac) (S:Nat->St) (m:Nat) (ρ0:Rho) (Z D:Nat->Prop) (ρ:Rho) (ca:Act) (w:World):Prop where
 le:ρ0.le ρ
 keep:Keeps w0.pt.prot w0.w w
 dom:∀b,((S m).next<=b\/w0.out b\/∃k,k<m/\¬D k/\(S k).next<=b/\b<(S (k+1)).next)->ρ b=none
 obj:∀b o,HS S D m b=some o->OR w0.pt ρ b o w
 sep:∀b b' o o' cb sh sz sh' sz',HS S D m b=some o->HS S D m b'=some o'->o.mine=true->o'.mine=true->ρ b=some (cb,sh,sz)->ρ b'=some (cb,sh',sz')->b=b'
 glob:∀g b,E.glob.get g=some b->∃sz,ρ b=some (g,0,sz)
 n:ca.tmps.size=(A 0).n
 tmp:∀t v,¬Z t->TS ops A D m t=some v->VRel ρ v (ca.tmps.getD t undef)
 defers:DRels ρ0 (A 0).defers ca.defers
 fz:∀k o,ρ.fz k=some o->w.heap[k]?=some o
 apart:∀b o cb sh sz,HS S D m b=some o->o.mine=true->ρ b=some (cb,sh,sz)->ρ.fz cb=none
 fzIn:∀k o,ρ.fz k=some o->w0.pt.prot k->w0.fzp k
section
variable {P:Program} {E:Env} {w0:Base} {ops:Array Oper} {self:EV} {A:Nat->Ac} {S:Nat->St} {m:Nat} {ρ0:Rho}
theorem Text.grows (T:Text P E w0 ops self A S m ρ0) {k:Nat} (hk:k<m):(S k).next<=(S (k+1)).next/\∀b,¬wr S k b->(S (k+1)).heap.get b=(S k).heap.get b:=by
 obtain⟨o,v,ho,hm,hp⟩:=T.made k hk;obtain⟨g,_⟩:=made_loc T.loc rfl hm;obtain⟨new,hn,hh⟩:=g.log;have hn':(S (k+1)).log=new:=by rw[hn]; simp[fresh]
 refine⟨g.next,fun b hb=>hh b fun e he heb=>?_⟩;cases hw:e.w with
 | false=>rfl
 | true=>exact absurd ⟨e,by rw[hn']; exact he,heb,hw⟩ hb
theorem Text.next_le (T:Text P E w0 ops self A S m ρ0) {i:Nat}:∀j,i<=j->j<=m->(S i).next<=(S j).next
 | 0,h,_=>by rw[show i=0 by omega]; exact lR _
 | j+1,h,hj=>by
  by_cases e:i=j+1
  . rw[e]; exact lR _
  . exact Nat.le_trans (T.next_le j (by omega) (by omega)) (T.grows (by omega)).1
theorem ql5 {dst:Option Tmp} {a a':Ac} {v:V} (h:(qjc dst).run a v=some a'):a'.n=a.n/\a'.defers=a.defers/\(∀t,dst≠some t->a'.tmps.get t=a.tmps.get t)/\(∀t,dst=some t->a'.tmps.get t=some v/\t<a.n):=by
 cases dst with
 | none=>
  have h':some a=some a':=h;simp only[oS]at h'; subst h';exact⟨rfl,rfl,fun _ _=>rfl,fun t ht=>by cases ht⟩
 | some d=>
  have h':putAt (setPC (bits d d)) d a v=some a':=h;rw[ql4]at h';cases hd:Nat.blt d a.n with
  | false=>rw[hd]at h'; cases h'
  | true=>
   rw[hd]at h';simp only[cT,oS]at h';subst h';rw[blt_true]at hd;have hg:∀t,((setP (bits d d)).run v a.tmps).get t=if t=d then some v else a.tmps.get t:=fun t=>qn4 d d _ _ _ (lR _)
   refine⟨rfl,rfl,fun t ht=>?_,fun t ht=>?_⟩
   . show((setP (bits d d)).run v a.tmps).get t=_
     rw[hg,iN (fun e=>ht (by rw[e]))]
   . simp only[oS]at ht
     subst ht;exact⟨by show((setP (bits d d)).run v a.tmps).get d=_; rw[hg,iP rfl],hd⟩
theorem Text.tmps (T:Text P E w0 ops self A S m ρ0) {k:Nat} (hk:k<m):(A (k+1)).n=(A k).n/\(A (k+1)).defers=(A k).defers/\∀t,¬qlx ops k=some t->(A (k+1)).tmps.get t=(A k).tmps.get t:=by
 obtain⟨o,v,ho,hm,hp⟩:=T.made k hk;obtain⟨h1,h2,h3,h4⟩:=ql5 hp;refine⟨h1,h2,fun t ht=>h3 t fun e=>ht ?_⟩;unfold qlx;rw[ho];exact e
theorem Text.an (T:Text P E w0 ops self A S m ρ0):∀j,j<=m->(A j).n=(A 0).n/\(A j).defers=(A 0).defers
 | 0,_=>⟨rfl,rfl⟩
 | j+1,hj=>by
  obtain⟨h1,h2,_⟩:=T.tmps (k:=j) (by omega);obtain⟨h3,h4⟩:=T.an j (by omega);exact⟨h1.trans h3,h2.trans h4⟩
theorem Text.H_all (T:Text P E w0 ops self A S m ρ0) {D:Nat->Prop} (h:∀k,k<m->D k) (b:Nat):HS S D m b=(S m).heap.get b:=
 Lw_eq (fun _ hk hw=>(T.grows hk).2 b hw) m (lR _) fun k hk _=>h k hk
theorem Text.T_all (T:Text P E w0 ops self A S m ρ0) {D:Nat->Prop} (h:∀k,k<m->D k) (t:Nat):TS ops A D m t=(A m).tmps.get t:=
 Lw_eq (fun _ hk hw=>(T.tmps hk).2.2 t hw) m (lR _) fun k hk _=>h k hk
structure Next (ops:Array Oper) (m:Nat) (D:Nat->Prop) (j:Nat):Prop where
 lt:j<m
 not:¬D j
 closed:ql9 ops D
 ahead:∀o,ops[j]?=some o->∀e∈o.after,Region.binds .any e=true->D e.on
 below:∀k,D k->k<m
theorem Text.before (T:Text P E w0 ops self A S m ρ0) {D:Nat->Prop} {j:Nat} (N:Next ops m D j) {k:Nat} (h:(bef ops j).testBit k=true):D k:=by
 obtain⟨o,v,ho,_⟩:=T.made j N.lt;exact qh4 T.plan.back N.closed j o ho (N.ahead o ho) h
theorem Text.after (T:Text P E w0 ops self A S m ρ0) {D:Nat->Prop} {j:Nat} (N:Next ops m D j) {k:Nat} (hk:D k):(bef ops k).testBit j=false:=by
 cases h:(bef ops k).testBit j with
 | false=>rfl
 | true=>
  obtain⟨o,v,ho,_⟩:=T.made k (N.below k hk);exact absurd (qh4 T.plan.back N.closed k o ho (N.closed k hk o ho) h) N.not
theorem Text.H_at (T:Text P E w0 ops self A S m ρ0) {D:Nat->Prop} {j:Nat} (N:Next ops m D j) {b:Nat} (hb:fp S j b):HS S D m b=(S j).heap.get b:=by
 have h1:HS S D m b=Lw (fun k=>(S k).heap.get b) (fun k=>wr S k b) D j:=
  qig m (Nat.le_of_lt N.lt) fun k h1 h2 hd hw=>by
   have hne:k≠j:=fun e=>N.not (e▸hd);exact(T.nc j k (by omega) h2 (T.after N hd) b).2 ⟨hb,hw⟩
 rw[h1];refine Lw_eq (m:=m) (fun _ hk hw=>(T.grows hk).2 b hw) j (Nat.le_of_lt N.lt) fun k hk hw=>?_;cases hbit:(bef ops j).testBit k with
 | true=>exact T.before N hbit
 | false=>exact absurd ⟨hw,hb⟩ (T.nc k j hk N.lt hbit b).1
theorem Text.H_add_no (_T:Text P E w0 ops self A S m ρ0) {D:Nat->Prop} {j:Nat} {b:Nat} (hb:¬wr S j b):HS S (qh1 D j) m b=HS S D m b:=qjd (wrt:=fun k=>wr S k b) hb m
theorem Text.H_add_yes (T:Text P E w0 ops self A S m ρ0) {D:Nat->Prop} {j:Nat} (N:Next ops m D j) {b:Nat} (hb:fp S j b):HS S (qh1 D j) m b=(S (j+1)).heap.get b:=by
 by_cases hw:wr S j b
 . refine qlb (f:=fun k=>(S k).heap.get b) N.lt hw fun k h1 h2 hd hw2=>?_
   exact(T.nc j k h1 h2 (T.after N hd) b).1 ⟨hw,qkx hw2⟩
 . rw[T.H_add_no hw,T.H_at N hb,(T.grows N.lt).2 b hw]
theorem Text.T_at (T:Text P E w0 ops self A S m ρ0) {D:Nat->Prop} {j:Nat} (N:Next ops m D j) {o:Oper} (ho:ops[j]?=some o) {t:Nat} (ht:t∈qfp ops o):TS ops A D m t=(A j).tmps.get t:=by
 have h1:TS ops A D m t=Lw (fun k=>(A k).tmps.get t) (fun k=>qlx ops k=some t) D j:=
  qig m (Nat.le_of_lt N.lt) fun k h1 h2 hd hw=>by
   have hne:k≠j:=fun e=>N.not (e▸hd);obtain⟨o',v',ho',_⟩:=T.made k h2;have hap:=T.plan.tmps j k o o' (by omega) ho ho' (T.after N hd);unfold qlx at hw;rw[ho']at hw;exact(qe3 hap).2 t hw ht
 rw[h1];refine Lw_eq (m:=m) (fun _ hk hw=>(T.tmps hk).2.2 t hw) j (Nat.le_of_lt N.lt) fun k hk hw=>?_;cases hbit:(bef ops j).testBit k with
 | true=>exact T.before N hbit
 | false=>
  obtain⟨o',v',ho',_⟩:=T.made k (by have:=N.lt; omega);have hap:=T.plan.tmps k j o' o hk ho' ho hbit;unfold qlx at hw;rw[ho']at hw;exact absurd ht ((qe3 hap).1 t hw).1
theorem Text.T_add_yes (T:Text P E w0 ops self A S m ρ0) {D:Nat->Prop} {j:Nat} (N:Next ops m D j) {o:Oper} (ho:ops[j]?=some o) {t:Nat} (ht:o.dst=some t):TS ops A (qh1 D j) m t=(A (j+1)).tmps.get t:=by
 refine qlb (f:=fun k=>(A k).tmps.get t) N.lt (by unfold qlx; rw[ho]; exact ht) fun k h1 h2 hd hw=>?_;obtain⟨o',v',ho',_⟩:=T.made k h2;have hap:=T.plan.tmps j k o o' h1 ho ho' (T.after N hd);unfold qlx at hw;rw[ho']at hw;exact((qe3 hap).1 t ht).2 hw
theorem Text.step (T:Text P E w0 ops self A S m ρ0) {Z D:Nat->Prop} {j:Nat} (N:Next ops m D j) {ρ:Rho} {ca:Act} {w:World} (I:Inv E w0 ops A S m ρ0 Z D ρ ca w) (hZ:∀o,ops[j]?=some o->∀t∈qfp ops o,¬Z t)
 (rd:Option Nat) {K:Act->World->Prop} {Q:Exit->Act->World->Prop} (hK:∀ρ' ca' w',Inv E w0 ops A S m ρ0 Z (qh1 D j) ρ' ca' w'->K ca' w'):wpOpIn (qbb rd) 0 P ops Q j K ca w:=by
 obtain⟨o,v,ho,hmade,hput⟩:=T.made j N.lt;obtain⟨ρt,wt,cat,Rt,At⟩:=T.txt j (Nat.le_of_lt N.lt)
 have hN:∀b x,ρt b=some x->b<(S j).next:=fun b x hx=>by
  rcases Nat.lt_or_ge b (S j).next with h|h
  . exact h
  . rw[Rt.dom b (.inl h)]at hx; cases hx
 obtain⟨th,hth⟩:=Tr.part (S j).heap ((S (j+1)).log.map (·.b))
 have hmem:∀b,b∈(S (j+1)).log.map (·.b)↔fp S j b:=fun b=>by
  rw[List.mem_map]; exact⟨fun⟨e,h1,h2⟩=>⟨e,h1,h2⟩,fun⟨e,h1,h2⟩=>⟨e,h1,h2⟩⟩
 have hthy:∀b,fp S j b->th.get b=(S j).heap.get b:=fun b hb=>by rw[hth,iP ((hmem b).2 hb)]
 have hthn:∀b,¬fp S j b->th.get b=none:=fun b hb=>by rw[hth,iN (fun h=>hb ((hmem b).1 h))]
 let t:St:={heap:=th,next:=(S j).next,on:=true,log:=[]}
 obtain⟨tt,htt⟩:=Tr.part (A j).tmps (qfp ops o)
 let a:Ac:={tmps:=tt,n:=(A j).n,defers:=(A 0).defers,round:=none}
 have hagree:Agree (fp S j) (fresh (S j)) t:=⟨rfl,rfl,rfl,hthy⟩
 have hmade2:Made E ops o self a (fresh (S j)) v (S (j+1)):=made_congr (a:=A j) (a2:=a) rfl (fun x hx=>by show tt.get x=_; rw[htt,iP hx]) hmade;obtain⟨t',hmt,hag',hgt⟩:=(made_loc T.loc rfl hmade2).2 (fp S j) t hagree fun e he=>⟨e,he,rfl⟩
 have hmono:=(T.grows N.lt).1;have hnl:=T.next_le (i:=j+1) m N.lt (lR _);have h0j:=T.next_le (i:=0) j (Nat.zero_le _) (Nat.le_of_lt N.lt)
 let mineAt:Nat->Prop:=fun cb=>∃b ob sh sz,fp S j b/\HS S D m b=some ob/\ob.mine=true/\ρ b=some (cb,sh,sz)
 have mine_prot:∀cb,mineAt cb->¬w0.pt.prot cb:=fun cb ⟨b,ob,sh,sz,hf,hH,hm,hρ⟩=>(I.obj b ob hH).mine_not hm hρ;have prot_in:∀cb,w0.pt.prot cb->cb<w.heap.size:=fun cb h=>Nat.lt_of_lt_of_le (w0.protLt cb h) I.keep.size
 let B:Base:=
  { w:=w
    pt:={prot:=fun cb=>cb<w.heap.size/\¬mineAt cb,old:=w0.pt.old,sub:=fun k hk=>⟨prot_in k (w0.pt.sub k hk),fun hm=>mine_prot k hm (w0.pt.sub k hk)⟩}
    out:=fun b=>b<(S j).next/\ρ b=none
    lo:=(S j).next
    fzp:=fun k=>∃o,ρ.fz k=some o
    protLt:=fun cb h=>h.1
    outLt:=fun b h=>h.1 }
 have prot_B:∀cb,w0.pt.prot cb->B.pt.prot cb:=fun cb h=>⟨prot_in cb h,fun hm=>mine_prot cb hm h⟩
 let ρj:Rho:=ρ.upto (S j).next
 have hρj:ρj.le ρ:=Rho.upto_le ρ _
 have hback:∀b x,ρj b=some x->b<(S j).next:=fun b x h=>by
  rcases Nat.lt_or_ge b (S j).next with h'|h'
  . exact h'
  . have:ρj b=none:=by show(if b<(S j).next then ρ b else none)=none; rw[iN (by omega)]
    rw[this]at h; cases h
 have hR:Rel E B ρj t w:=by
  have hf:∀x ox,t.heap.get x=some ox->HS S D m x=some ox:=fun x ox hx=>by
   have hf:fp S j x:=Classical.byContradiction fun hn=>by
    have hx':th.get x=some ox:=hx;rw[hthn x hn]at hx'; cases hx'
   rw[T.H_at N hf,<- hthy x hf]; exact hx
  refine⟨⟨rfl,rfl,rfl,lR _,fun _ _=>rfl⟩,fun b hb=>?_,lR _,fun b ob hb=>?_,fun b b' ob ob' cb sh sz sh' sz' hb hb' hm hm' r1 r2=>?_,fun g b hg=>?_,I.fz,fun b ob cb sh sz hb hm r1=>?_,fun k o hk _=>⟨o,hk⟩⟩
  . rcases hb with hb|hb
    . show(if b<(S j).next then ρ b else none)=none
      rw[iN (by have:(S j).next<=b:=hb; omega)]
    . have hb':b<(S j).next/\ρ b=none:=hb
      show(if b<(S j).next then ρ b else none)=none;rw[iP hb'.1,hb'.2]
  . have hf:fp S j b:=Classical.byContradiction fun hn=>by
     have hb':th.get b=some ob:=hb;rw[hthn b hn]at hb'; cases hb'
    have hb':(S j).heap.get b=some ob:=by rw[<- hthy b hf]; exact hb
    have hH:HS S D m b=some ob:=by rw[T.H_at N hf]; exact hb'
    exact(I.obj b ob hH).restrict (Rt.obj b ob hb') hN (fun _ _ _ _ h=>h) (fun cb sh sz hρ hm _ hp=>hp.2 ⟨b,ob,sh,sz,hf,hH,hm,hρ⟩)
  . exact I.sep b b' ob ob' cb sh sz sh' sz' (hf b ob hb) (hf b' ob' hb') hm hm' (hρj _ _ r1) (hρj _ _ r2)
  . obtain⟨sz,h1⟩:=I.glob g b hg
    obtain⟨sz2,h2⟩:=Rt.glob g b hg;exact⟨sz,Rho.upto_some h1 (hN _ _ h2)⟩
  . exact I.apart b ob cb sh sz (hf b ob hb) hm (hρj _ _ r1)
 have hA:ARel ρj a ca:=by
  refine⟨by rw[I.n]; exact((T.an j (Nat.le_of_lt N.lt)).1).symm,fun x u hx=>?_,?_⟩
  . have hx':tt.get x=some u:=hx
    rw[htt]at hx';by_cases hl:x∈qfp ops o
    . rw[iP hl]at hx'
      have hT:TS ops A D m x=some u:=by rw[T.T_at N ho hl]; exact hx'
      exact VRel.upto hN (I.tmp x u (hZ o ho x hl) hT) (At.tmp x u hx')
    . rw[iN hl]at hx'; cases hx'
  . exact I.defers.mono ⟨fun b x hb=>Rho.upto_some (I.le b x hb) (Nat.lt_of_lt_of_le (T.zero b x hb) h0j),I.le.fz⟩
 refine ql0 T.ok T.sim ho hR hA hmt rd fun ρ' cv w' hle hv hR'=>?_;have hnext':t'.next=(S (j+1)).next:=hag'.next
 let ρ2:Rho:={blk:=fun b=>if(S j).next<=b/\b<(S (j+1)).next then ρ' b else ρ b,fz:=ρ'.fz}
 have hwin:∀b,(S j).next<=b->b<(S (j+1)).next->ρ b=none:=fun b h1 h2=>I.dom b (.inr (.inr ⟨j,N.lt,N.not,h1,h2⟩))
 have le2:ρ.le ρ2:=⟨fun b x hx=>(by
  show(if(S j).next<=b/\b<(S (j+1)).next then ρ' b else ρ b)=some x;by_cases hb:(S j).next<=b/\b<(S (j+1)).next
  . rw[hwin b hb.1 hb.2]at hx; cases hx
  . rw[iN hb]; exact hx),fun k o hk=>hle.fz k o hk⟩
 have le2':ρ'.le ρ2:=⟨fun b x hx=>(by
  show(if(S j).next<=b/\b<(S (j+1)).next then ρ' b else ρ b)=some x;by_cases hb:(S j).next<=b/\b<(S (j+1)).next
  . rw[iP hb]; exact hx
  . rw[iN hb]
    rcases Nat.lt_or_ge b (S j).next with h1|h1
    . cases hr:ρ b with
      | none=>rw[hR'.dom b (.inr ⟨h1,hr⟩)]at hx; cases hx
      | some y=>
       have:=hle b y (Rho.upto_some hr h1);rw[hx]at this; exact this.symm
    . rw[hR'.dom b (.inl (by rw[hnext']; omega))]at hx; cases hx),fun k o hk=>hk⟩
 have H_yes:∀b,fp S j b->HS S (qh1 D j) m b=t'.heap.get b:=fun b hb=>by rw[T.H_add_yes N hb,hag'.heap b hb]
 have H_no:∀b,¬fp S j b->HS S (qh1 D j) m b=HS S D m b:=fun b hb=>T.H_add_no fun hw=>hb (qkx hw);have not_prot:∀cb,¬B.pt.prot cb->¬w0.pt.prot cb:=fun cb h hp=>h (prot_B cb hp)
 have kept:∀b ob,¬fp S j b->HS S D m b=some ob->ob.alive=true->∀cb sh sz,ρ b=some (cb,sh,sz)->B.pt.prot cb:=fun b ob hb hH hal cb sh sz hρ=>by
  obtain⟨cb',sh',sz',hρ',hlt⟩:=(I.obj b ob hH).place hal;rw[hρ]at hρ'; simp only[oS,pM]at hρ'; obtain⟨rfl,rfl,rfl⟩:=hρ';refine⟨hlt,fun⟨b2,o2,sh2,sz2,hf2,hH2,hm2,hρ2⟩=>?_⟩;cases hm:ob.mine with
  | true=>exact hb (I.sep b b2 ob o2 cb sh sz sh2 sz2 hH hH2 hm hm2 hρ hρ2▸hf2)
  | false=>exact(I.obj b2 o2 hH2).mine_not hm2 hρ2 ((I.obj b ob hH).other_prot hal hm hρ)
 refine hK ρ2 _ w' ⟨Rho.le_trans I.le le2,?_,fun b hb=>?_,fun b ob hH=>?_,fun b b' ob ob' cb sh sz sh' sz' hb hb' hm hm' r1 r2=>?_,fun g b hg=>?_,?_,fun x u hz hx=>?_,?_,hR'.fz,fun b ob cb sh sz hH hm r1=>?_,fun k o hk hp=>?_⟩
 . have k2:=hR'.below
   exact⟨k2.os.trans I.keep.os,k2.tape.trans I.keep.tape,k2.output.trans I.keep.output,Nat.le_trans I.keep.size k2.size,fun k hk=>(k2.block k (prot_B k hk)).trans (I.keep.block k hk)⟩
 . show(if(S j).next<=b/\b<(S (j+1)).next then ρ' b else ρ b)=none
   have hno:¬((S j).next<=b/\b<(S (j+1)).next)/\ρ b=none:=by
    rcases hb with hb|hb|⟨k,hk,hD,h1,h2⟩
    . exact⟨by omega,I.dom b (.inl hb)⟩
    . exact⟨fun hh=>by have:=w0.outLt b hb; have:=T.lo; omega,I.dom b (.inr (.inl hb))⟩
    . have hkj:k≠j:=fun e=>hD (.inl e)
      refine⟨fun hh=>?_,I.dom b (.inr (.inr ⟨k,hk,fun hd=>hD (.inr hd),h1,h2⟩))⟩;rcases Nat.lt_or_ge k j with h|h
      . have:=T.next_le (i:=k+1) j (by omega) (Nat.le_of_lt N.lt); omega
      . have:=T.next_le (i:=j+1) k (by omega) (Nat.le_of_lt hk); omega
   rw[iN hno.1,hno.2]
 . by_cases hf:fp S j b
   . rw[H_yes b hf]at hH
     exact(hR'.obj b ob hH).conv le2' (fun _ h=>h) not_prot
   . rw[H_no b hf]at hH
     cases hal:ob.alive with
     | false=>cases ob<;>first|trivial|simp[O.alive]at hal
     | true=>exact(I.obj b ob hH).of_same le2 fun cb sh sz hρ=>hR'.below.block cb (kept b ob hf hH hal cb sh sz hρ)
 . -- two blocks of the call's own at one place
   have place:∀x ox,fp S j x->HS S (qh1 D j) m x=some ox->ox.mine=true->∀c h z,ρ2 x=some (c,h,z)->t'.heap.get x=some ox/\ρ' x=some (c,h,z):=fun x ox hf hx hmx c h z hr=>by
    rw[H_yes x hf]at hx;obtain⟨c2,h2,z2,hr2,_⟩:=(hR'.obj x ox hx).place (qda hmx);have:=le2' _ _ hr2;rw[hr]at this;simp only[oS,pM]at this;obtain⟨rfl,rfl,rfl⟩:=this;exact⟨hx,hr2⟩
   have other:∀x ox,¬fp S j x->HS S (qh1 D j) m x=some ox->ox.mine=true->∀c h z,ρ2 x=some (c,h,z)->HS S D m x=some ox/\ρ x=some (c,h,z):=fun x ox hf hx hmx c h z hr=>by
    rw[H_no x hf]at hx;obtain⟨c2,h2,z2,hr2,_⟩:=(I.obj x ox hx).place (qda hmx);have:=le2 _ _ hr2;rw[hr]at this;simp only[oS,pM]at this;obtain⟨rfl,rfl,rfl⟩:=this;exact⟨hx,hr2⟩
   by_cases hf:fp S j b
   . obtain⟨h1,h2⟩:=place b ob hf hb hm _ _ _ r1
     by_cases hf':fp S j b'
     . obtain⟨h1',h2'⟩:=place b' ob' hf' hb' hm' _ _ _ r2
       exact hR'.sep b b' ob ob' cb sh sz sh' sz' h1 h1' hm hm' h2 h2'
     . obtain⟨h1',h2'⟩:=other b' ob' hf' hb' hm' _ _ _ r2
       exact absurd (kept b' ob' hf' h1' (qda hm') _ _ _ h2') ((hR'.obj b ob h1).mine_not hm h2)
   . obtain⟨h1,h2⟩:=other b ob hf hb hm _ _ _ r1
     by_cases hf':fp S j b'
     . obtain⟨h1',h2'⟩:=place b' ob' hf' hb' hm' _ _ _ r2
       exact absurd (kept b ob hf h1 (qda hm) _ _ _ h2) ((hR'.obj b' ob' h1').mine_not hm' h2')
     . obtain⟨h1',h2'⟩:=other b' ob' hf' hb' hm' _ _ _ r2
       exact I.sep b b' ob ob' cb sh sz sh' sz' h1 h1' hm hm' h2 h2'
 . obtain⟨sz,h1⟩:=I.glob g b hg
   exact⟨sz,le2 _ _ h1⟩
 . rw[<- I.n]
   cases o.dst<;>simp[Act.put]
 . obtain⟨p1,p2,p3,p4⟩:=ql5 hput
   by_cases hd:o.dst=some x
   . rw[T.T_add_yes N ho hd]at hx
     obtain⟨hx2,hlt⟩:=p4 x hd;rw[hx2]at hx;simp only[oS]at hx;subst hx;have hsz:x<ca.tmps.size:=by rw[I.n,<- (T.an j (Nat.le_of_lt N.lt)).1]; exact hlt
     rw[hd];simp only[Act.put,Array.getD_eq_getD_getElem?,Array.getElem?_setIfInBounds,if_true];rw[iP hsz];exact hv.mono le2'
   . have hx':TS ops A D m x=some u:=by
      rw[<- hx];exact(qjd (wrt:=fun k=>qlx ops k=some x) (by unfold qlx; rw[ho]; exact hd) m).symm
     have:=(I.tmp x u hz hx').mono le2;cases hdst:o.dst with
     | none=>exact this
     | some d=>
      simp only[Act.put,Array.getD_eq_getD_getElem?]at this ⊢;rw[Array.getElem?_setIfInBounds_ne (fun e=>hd (by rw[hdst,e]))];exact this
 . have:(ca.put o.dst cv).defers=ca.defers:=by cases o.dst<;>rfl
   rw[this]; exact I.defers
 . by_cases hf:fp S j b
   . have hx:=hH
     rw[H_yes b hf]at hx;obtain⟨c2,h2,z2,hr2,_⟩:=(hR'.obj b ob hx).place (qda hm);have:=le2' _ _ hr2;rw[r1]at this;simp only[oS,pM]at this;obtain⟨rfl,rfl,rfl⟩:=this;exact hR'.apart b ob cb sh sz hx hm hr2
   . have hx:=hH
     rw[H_no b hf]at hx;obtain⟨c2,h2,z2,hr2,_⟩:=(I.obj b ob hx).place (qda hm);have:=le2 _ _ hr2;rw[r1]at this;simp only[oS,pM]at this;obtain⟨rfl,rfl,rfl⟩:=this;have hk:=kept b ob hf hx (qda hm) _ _ _ hr2;cases hfz:ρ'.fz cb with
     | none=>rfl
     | some y=>
      obtain⟨y',hy'⟩:=hR'.fzIn cb y hfz hk;rw[I.apart b ob cb sh sz hx hm hr2]at hy'; cases hy'
 . obtain⟨y,hy⟩:=hR'.fzIn k o hk (prot_B k hp)
   exact I.fzIn k y hy hp
theorem Text.extra (T:Text P E w0 ops self A S m ρ0) {Z D:Nat->Prop} {j:Nat} {o:Oper} (ho:ops[j]?=some o) (hal:qfi E o=true) (hz:∀t,o.dst=some t->Z t) {ρ:Rho} {ca:Act} {w:World} (I:Inv E w0 ops A S m ρ0 Z D ρ ca w)
 (rd:Option Nat) {K:Act->World->Prop} {Q:Exit->Act->World->Prop} (hK:∀ca' w',Inv E w0 ops A S m ρ0 Z D ρ ca' w'->K ca' w'):wpOpIn (qbb rd) 0 P ops Q j K ca w:=by
 unfold qfi at hal;split at hal
 case h_2=>cases hal
 rename_i ty hop;simp only[bA,Option.isNone_iff_eq_none,Option.isSome_iff_exists]at hal;obtain⟨⟨hg,_⟩,z,hzt⟩:=hal
 let t:St:={heap:=.nil,next:=(S m).next,on:=true,log:=[]}
 let a:Ac:={tmps:=.nil,n:=(A 0).n,defers:=(A 0).defers,round:=none}
 have hmade:Made E ops o self a t (.ptr t.next 0) (qan t ty z.size [z.cells]):=by
  refine .val ?_ ?_
  . unfold qe8; rw[hg]
  . rw[hop]
    show qmh E ty a t=_;unfold qmh;rw[hzt]; rfl
 let B:Base:=
  { w:=w
    pt:={prot:=fun cb=>cb<w.heap.size,old:=fun _=>False,sub:=fun _ h=>h.elim}
    out:=fun b=>b<(S m).next/\ρ b=none
    lo:=(S m).next
    fzp:=fun k=>∃o,ρ.fz k=some o
    protLt:=fun cb h=>h
    outLt:=fun b h=>h.1 }
 have hR:Rel E B ρ t w:=by
  refine⟨⟨rfl,rfl,rfl,lR _,fun _ _=>rfl⟩,fun b hb=>?_,lR _,fun b ob hb=>?_,fun b b' ob ob' cb sh sz sh' sz' hb=>?_,I.glob,I.fz,fun b ob cb sh sz hb=>?_,fun k o hk _=>⟨o,hk⟩⟩
  . rcases hb with hb|hb
    . exact I.dom b (.inl hb)
    . exact hb.2
  . have hb':(Tr.nil:Tr O).get b=some ob:=hb
    rw[Tr.get_nil]at hb'; cases hb'
  . have hb':(Tr.nil:Tr O).get b=some ob:=hb
    rw[Tr.get_nil]at hb'; cases hb'
  . have hb':(Tr.nil:Tr O).get b=some ob:=hb
    rw[Tr.get_nil]at hb'; cases hb'
 have hA:ARel ρ a ca:=⟨I.n,fun x u hx=>(by have hx':(Tr.nil:Tr V).get x=some u:=hx; rw[Tr.get_nil]at hx'; cases hx'),I.defers.mono I.le⟩
 refine ql0 T.ok T.sim ho hR hA hmade rd fun ρ' cv w' hle hv hR'=>?_;have k2:=hR'.below;have prot_in:∀cb,w0.pt.prot cb->cb<w.heap.size:=fun cb h=>Nat.lt_of_lt_of_le (w0.protLt cb h) I.keep.size;refine hK _ w' ⟨I.le,⟨k2.os.trans I.keep.os,k2.tape.trans I.keep.tape,k2.output.trans I.keep.output,Nat.le_trans I.keep.size k2.size,fun k hk=>(k2.block k (prot_in k hk)).trans (I.keep.block k hk)⟩,I.dom,fun b ob hH=>?_,I.sep,I.glob,?_,fun x u hx hT=>?_,?_,fun k o hk=>?_,I.apart,I.fzIn⟩
 . cases hal:ob.alive with
   | false=>cases ob<;>first|trivial|simp[O.alive]at hal
   | true=>
    refine(I.obj b ob hH).of_same (Rho.le_refl _) fun cb sh sz hρ=>k2.block cb ?_;obtain⟨cb',sh',sz',hρ',hlt⟩:=(I.obj b ob hH).place hal;rw[hρ]at hρ'; simp only[oS,pM]at hρ'; obtain⟨rfl,rfl,rfl⟩:=hρ';exact hlt
 . rw[<- I.n]
   cases o.dst<;>simp[Act.put]
 . have:=I.tmp x u hx hT
   cases hdst:o.dst with
   | none=>exact this
   | some d=>
    simp only[Act.put,Array.getD_eq_getD_getElem?]at this ⊢;rw[Array.getElem?_setIfInBounds_ne (fun e=>hx (hz x (by rw[hdst,e])))];exact this
 . have:(ca.put o.dst cv).defers=ca.defers:=by cases o.dst<;>rfl
   rw[this]; exact I.defers
 . rw[k2.block k ?_]
   . exact I.fz k o hk
   . show k<w.heap.size
     rcases Nat.lt_or_ge k w.heap.size with hl|hl
     . exact hl
     . have:=I.fz k o hk; rw[Array.getElem?_eq_none hl]at this; cases this
end
section
variable {P:Program} {E:Env} {w0:Base} {ops:Array Oper} {self:EV}
theorem opsD_norm:∀(l:List Oper) {a:Ac} {s:St} {a':Ac} {s':St} {logs:List (List LE)},(opsD E ops l).run self a s=some (.norm,a',s',logs)->
 ∃(A:Nat->Ac) (S:Nat->St),A 0=a/\S 0=s/\A l.length=a'/\S l.length=s'/\∀(k:Nat) (o:Oper),l[k]?=some o->(op1 E ops o).run self (A k) (fresh (S k))=some (.norm,A (k+1),S (k+1))/\logs[k]?=some (S (k+1)).log
 | [],a,s,a',s',logs,h=>by
  have h':some (X.norm,a,s,[])=some (X.norm,a',s',logs):=h;simp only[oS,pM,true_and]at h';obtain⟨rfl,rfl,rfl⟩:=h';exact⟨fun _=>a,fun _=>s,rfl,rfl,rfl,rfl,by simp⟩
 | o::l,a,s,a',s',logs,h=>by
  have h':((op1 E ops o).run self a (fresh s)).bind (qf1 (opsD E ops l) self)=some (X.norm,a',s',logs):=h;simp only[oI,Prod.exists]at h';obtain⟨x1,a1,s1,h1,h2⟩:=h';cases x1<;>simp only[qf1,oS,pM,reduceCtorEq,false_and]at h2;simp only[oI,oS]at h2;obtain⟨q,hq,h2⟩:=h2;obtain⟨qx,qa,qs,ql⟩:=q;simp only[pM]at h2;obtain⟨rfl,rfl,rfl,rfl⟩:=h2;obtain⟨A,S,hA0,hS0,hA,hS,hall⟩:=opsD_norm l hq;refine⟨fun k=>match k with|0=>a|k+1=>A k,fun k=>match k with|0=>s|k+1=>S k,rfl,rfl,hA,hS,fun k o' hk=>?_⟩;cases k with
  | zero=>
   simp at hk;subst hk;refine⟨?_,?_⟩
   . show(op1 E ops o).run self a (fresh s)=some (.norm,A 0,S 0)
     rw[hA0,hS0]; exact h1
   . show(s1.log::ql)[0]?=some (S 0).log
     rw[hS0]; rfl
  | succ k=>exact hall k o' (by simpa using hk)
theorem opsD_pan:∀(l:List Oper) {a:Ac} {s:St} {v:V} {a':Ac} {s':St} {logs:List (List LE)},(opsD E ops l).run self a s=some (.pan v,a',s',logs)->
 ∃(A:Nat->Ac) (S:Nat->St) (p:Nat) (o:Oper),A 0=a/\S 0=s/\l[p]?=some o/\logs.length=p+1/\(op1 E ops o).run self (A p) (fresh (S p))=some (.pan v,a',s')/\
  ∀(k:Nat) (o:Oper),k<p->l[k]?=some o->(op1 E ops o).run self (A k) (fresh (S k))=some (.norm,A (k+1),S (k+1))/\logs[k]?=some (S (k+1)).log
 | [],a,s,v,a',s',logs,h=>by
  have h':some (X.norm,a,s,[])=some (X.pan v,a',s',logs):=h;simp at h'
 | o::l,a,s,v,a',s',logs,h=>by
  have h':((op1 E ops o).run self a (fresh s)).bind (qf1 (opsD E ops l) self)=some (X.pan v,a',s',logs):=h;simp only[oI,Prod.exists]at h';obtain⟨x1,a1,s1,h1,h2⟩:=h';cases x1<;>simp only[qf1,oS,pM,reduceCtorEq,false_and]at h2
  . simp only[oI,oS]at h2
    obtain⟨q,hq,h2⟩:=h2;obtain⟨qx,qa,qs,ql⟩:=q;simp only[pM]at h2;obtain⟨rfl,rfl,rfl,rfl⟩:=h2;obtain⟨A,S,p,o2,hA0,hS0,hp,hlen,hlast,hall⟩:=opsD_pan l hq;refine⟨fun k=>match k with|0=>a|k+1=>A k,fun k=>match k with|0=>s|k+1=>S k,p+1,o2,rfl,rfl,by simpa using hp,by simp[hlen],hlast,fun k o' hkp hk=>?_⟩;cases k with
    | zero=>
     simp at hk;subst hk;refine⟨?_,?_⟩
     . show(op1 E ops o).run self a (fresh s)=some (.norm,A 0,S 0)
       rw[hA0,hS0]; exact h1
     . show(s1.log::ql)[0]?=some (S 0).log
       rw[hS0]; rfl
    | succ k=>exact hall k o' (by omega) (by simpa using hk)
  . obtain⟨⟨rfl⟩,rfl,rfl,rfl⟩:=h2
    exact⟨fun _=>a,fun _=>s,0,o,rfl,rfl,by simp,by simp,h1,fun k o' hk=>by omega⟩
theorem made_of_op1 {A:Nat->Ac} {S:Nat->St} {m:Nat} (h:∀k,k<m->∃o,ops[k]?=some o/\(op1 E ops o).run self (A k) (fresh (S k))=some (.norm,A (k+1),S (k+1))) (hd:(A m).defers.length=(A 0).defers.length) :
 ∀k,k<m->∃o v,ops[k]?=some o/\Made E ops o self (A k) (fresh (S k)) v (S (k+1))/\(qjc o.dst).run (A k) v=some (A (k+1)):=by
 have step:∀k,k<m->∃o,ops[k]?=some o/\((∃v,Made E ops o self (A k) (fresh (S k)) v (S (k+1))/\(qjc o.dst).run (A k) v=some (A (k+1))/\(A (k+1)).defers.length=(A k).defers.length)\/(A (k+1)).defers.length=(A k).defers.length+1):=fun k hk=>by
  obtain⟨o,ho,hr⟩:=h k hk;refine⟨o,ho,?_⟩;rcases qmm hr with⟨_,v,hm,hp⟩|⟨_,_,hw,d,hd,hp⟩|⟨v,hx,_⟩
  . exact .inl ⟨v,hm,hp,by rw[(ql5 hp).2.1]⟩
  . exact .inr (by rw[(ql5 hp).2.1]; rfl)
  . cases hx
 have mono:∀j,j<=m->∀i,i<=j->(A i).defers.length<=(A j).defers.length:=fun j=>by
  induction j with
  | zero=>intro _ i hi; rw[show i=0 by omega]; exact lR _
  | succ j ih=>
   intro hj i hi;by_cases e:i=j+1
   . rw[e]; exact lR _
   . have h1:=ih (by omega) i (by omega)
     obtain⟨o,_,⟨v,_,_,h2⟩|h2⟩:=step j (by omega)<;>omega
 intro k hk;obtain⟨o,ho,⟨v,h1,h2,_⟩|h2⟩:=step k hk
 . exact⟨o,v,ho,h1,h2⟩
 . have:=mono m (lR _) (k+1) (by omega)
   have:=mono k (by omega) 0 (by omega);omega
theorem wpOp_exists {i:Nat} {K:Act->World->Prop} {ca:Act} {w:World} (h:wpOpIn (qbb none) 0 P ops (fun _ _ _=>False) i K ca w):∃ca' w',K ca' w':=by
 unfold wpOpIn at h;split at h
 . exact⟨_,_,h⟩
 . split at h
   . have h2:=h.2
     clear h;unfold Oper.uponIn at h2;split at h2
     all_goals try exact h2.elim
     all_goals try exact⟨_,_,h2⟩
     . obtain⟨e,w',fr,hR,_⟩:=h2.2.2 [] (fun d hd=>by cases hd)
       cases e with
       | returned v=>exact⟨_,_,hR⟩
       | panicked c=>exact hR.elim
       | outgrown=>obtain⟨_,_,hf⟩:=hR; exact hf.elim
     . obtain⟨v,w',hR,_⟩:=h2.2 default [] (fun d hd=>by cases hd)
       exact⟨_,_,hR⟩
     . obtain⟨e,w',hR,_⟩:=h2.2.2 default [] (fun d hd=>by cases hd)
       cases e with
       | returned v=>exact⟨_,_,hR⟩
       | panicked c=>exact hR.elim
       | outgrown=>obtain⟨_,_,hf⟩:=hR; exact hf.elim
   . exact⟨_,_,h.2⟩
theorem text_sim (hE:EnvOk P E) (hs:EVSim P E self) {A:Nat->Ac} {S:Nat->St} {m:Nat} (h:∀k,k<m->∃o v,ops[k]?=some o/\Made E ops o self (A k) (fresh (S k)) v (S (k+1))/\(qjc o.dst).run (A k) v=some (A (k+1)))
 {ρ:Rho} {w:World} {ca:Act} (hR:Rel E w0 ρ (S 0) w) (hA:ARel ρ (A 0) ca):∀j,j<=m->∃ρt wt cat,Rel E w0 ρt (S j) wt/\ARel ρt (A j) cat
 | 0,_=>⟨ρ,w,ca,hR,hA⟩
 | j+1,hj=>by
  obtain⟨ρt,wt,cat,Rt,At⟩:=text_sim hE hs h hR hA j (by omega);obtain⟨o,v,ho,hm,hp⟩:=h j (by omega);have Rt':Rel E w0 ρt (fresh (S j)) wt:=Rt.congr rfl rfl
  obtain⟨ca',w',ρ',h1,h2⟩:=wpOp_exists (ql0 (K:=fun ca' w'=>∃ρ',ARel ρ' (A (j+1)) ca'/\Rel E w0 ρ' (S (j+1)) w') (Q:=fun _ _ _=>False) hE hs ho Rt' At hm none fun ρ' cv w' hle hv hR'=>
   ⟨ρ',(qeu (At.mono hle) hp hv).1,hR'⟩)
  exact⟨ρ',w',ca',h2,h1⟩
def qct (listed:Array Bool):Nat->Prop:=fun k=>listed.getD k false=true
def qio (m:Nat) (listed:Array Bool):Nat->Prop:=fun k=>k<m/\qct listed k
theorem qh5 {listed:Array Bool} {j:Nat} (hj:j<listed.size):qct (listed.setIfInBounds j true)=qh1 (qct listed) j:=by
 funext k
 unfold qct qh1;apply propext;by_cases e:k=j
 . subst e
   simp[hj]
 . have:j≠k:=fun h=>e h.symm
   simp[e,Array.getElem?_setIfInBounds_ne this]
theorem doneB_set {m:Nat} {listed:Array Bool} {j:Nat} (hj:j<listed.size) (hm:j<m):qio m (listed.setIfInBounds j true)=qh1 (qio m listed) j:=by
 funext k
 unfold qio;rw[qh5 hj];unfold qh1;apply propext;refine⟨fun⟨h1,h2⟩=>h2.imp id fun h=>⟨h1,h⟩,fun h=>?_⟩;rcases h with h|h
 . exact⟨by omega,.inl h⟩
 . exact⟨h.1,.inr h.2⟩
theorem doneB_out {m:Nat} {listed:Array Bool} {j:Nat} (hj:j<listed.size) (hm:m<=j):qio m (listed.setIfInBounds j true)=qio m listed:=by
 funext k
 unfold qio;rw[qh5 hj];unfold qh1;apply propext;refine⟨fun⟨h1,h2⟩=>⟨h1,h2.resolve_left (by omega)⟩,fun h=>⟨h.1,.inr h.2⟩⟩
theorem Lw_none {β:Type} {f:Nat->β} {wrt D:Nat->Prop} (h:∀k,¬D k) (m:Nat):Lw f wrt D m=f 0:=qig (j:=0) m (Nat.zero_le _) fun k _ _ hd=>absurd hd (h k)
theorem every {rd:Option Nat} {A:Nat->Ac} {S:Nat->St} {m:Nat} {ρ0:Rho} (T:Text P E w0 ops self A S m ρ0) {Q:Exit->Act->World->Prop} {Z:Nat->Prop} (hm:m<=ops.size)
 (hZ:∀k o,k<m->ops[k]?=some o->∀t∈qfp ops o,¬Z t)
 (hend:m=ops.size->∀D ρ ca w,(∀k,k<m->D k)->Inv E w0 ops A S m ρ0 Z D ρ ca w->Q .normal ca w)
 (hpan:m<ops.size->∀D ρ ca w K,(∀k,k<m->(bef ops m).testBit k=true->D k)->Inv E w0 ops A S m ρ0 Z D ρ ca w->wpOpIn (qbb rd) 0 P ops Q m K ca w)
 (hord:m<ops.size->∀j o,ops[j]?=some o->m<j->(bef ops j).testBit m=false->qfi E o=true/\∀t,o.dst=some t->Z t) :
 ∀(fuel:Nat) (listed:Array Bool) (ρ:Rho) (ca:Act) (w:World),listed.size=ops.size->ql9 ops (qct listed)->¬qct listed m->listed.toList.countP (fun b=>!b)<=fuel->
  Inv E w0 ops A S m ρ0 Z (qio m listed) ρ ca w->wpAnyIn (qbb rd) 0 P .any ops Q fuel listed ca w:=by
 have none_left:∀(listed:Array Bool),listed.size=ops.size->¬qct listed m->Region.ready .any ops listed=[]->m=ops.size/\∀k,k<m->qio m listed k:=fun listed hsz hb hr=>by
  have all:∀k,k<ops.size->qct listed k:=by
   intro k
   induction k using Nat.strongRecOn with
   | _ k ih=>
    intro hk;refine Classical.byContradiction fun hn=>?_
    have hmem:k∈Region.ready .any ops listed:=by
     rw[mem_ready];refine⟨?_,ops[k],Array.getElem?_eq_getElem hk,fun e he hbind=>?_⟩
     . unfold qct at hn
       have hlt:k<listed.size:=by omega
       simp only[Array.getD_eq_getD_getElem?,Array.getElem?_eq_getElem hlt,Option.getD_some]at hn ⊢;simpa using hn
     . have hlt:=T.plan.back k ops[k] (Array.getElem?_eq_getElem hk) e he hbind
       exact ih e.on hlt (by omega)
    rw[hr]at hmem;cases hmem
  have hge:ops.size<=m:=by
   rcases Nat.lt_or_ge m ops.size with h|h
   . exact absurd (all m h) hb
   . exact h
  exact⟨by omega,fun k hk=>⟨hk,all k (by omega)⟩⟩
 have closedB:∀(listed:Array Bool),ql9 ops (qct listed)->ql9 ops (qio m listed):=fun listed hc k hk o ho e he hbind=>
  ⟨Nat.lt_trans (T.plan.back k o ho e he hbind) hk.1,hc k hk.2 o ho e he hbind⟩
 intro fuel
 induction fuel with
 | zero=>
  intro listed ρ ca w hsz hc hb hcnt I
  have hr:Region.ready .any ops listed=[]:=by
   cases hr:Region.ready .any ops listed with
   | nil=>rfl
   | cons j rest=>
    exfalso;have hj:j∈Region.ready .any ops listed:=by rw[hr]; exact List.mem_cons_self ..
    obtain⟨h0,o,ho,_⟩:=mem_ready.1 hj;have hlt:j<listed.size:=by rw[hsz]; exact(Array.getElem?_eq_some_iff.1 ho).1
    have hv:listed.toList[j]?=some false:=by
     simp only[Array.getD_eq_getD_getElem?,Array.getElem?_eq_getElem hlt,Option.getD_some]at h0;simp[Array.getElem?_eq_getElem hlt,h0]
    have:0<listed.toList.countP (fun b=>!b):=List.countP_pos_iff.2 ⟨false,List.mem_of_getElem? hv,rfl⟩;omega
  obtain⟨h1,h2⟩:=none_left listed hsz hb hr;exact⟨hr,hend h1 _ ρ ca w h2 I⟩
 | succ fuel ih=>
  intro listed ρ ca w hsz hc hb hcnt I;refine⟨fun hr=>?_,fun j hj=>?_⟩
  . obtain⟨h1,h2⟩:=none_left listed hsz hb hr
    exact hend h1 _ ρ ca w h2 I
  . obtain⟨h0,o,ho,hall⟩:=mem_ready.1 hj
    have hjn:j<ops.size:=(Array.getElem?_eq_some_iff.1 ho).1;have hlt:j<listed.size:=by rw[hsz]; exact hjn
    have hfalse:listed[j]=false:=by simpa [hlt]using h0
    have hnot:¬qct listed j:=by unfold qct; simp[hlt,hfalse]
    have hahead:∀o',ops[j]?=some o'->∀e∈o'.after,Region.binds .any e=true->qct listed e.on:=fun o' ho' e he hbind=>by
     rw[ho]at ho'; simp only[oS]at ho'; subst ho';exact hall e he hbind
    have hclosed':ql9 ops (qct (listed.setIfInBounds j true)):=by
     rw[qh5 hlt];intro k hk o' ho' e he hbind;rcases hk with hk|hk
     . subst hk; exact .inr (hahead o' ho' e he hbind)
     . exact .inr (hc k hk o' ho' e he hbind)
    have hcnt':(listed.setIfInBounds j true).toList.countP (fun b=>!b)<=fuel:=by
     rw[Array.toList_setIfInBounds];have hl:j<listed.toList.length:=by simpa using hlt
     rw[List.countP_set hl];have:listed.toList[j]=false:=by simpa using hfalse
     simp only[this,nF,if_true,Bool.not_true,Bool.false_eq_true,if_false];omega
    have hb':j≠m->¬qct (listed.setIfInBounds j true) m:=fun hne=>by
     rw[qh5 hlt];exact fun h=>h.elim (fun e=>hne e.symm) hb
    rcases Nat.lt_trichotomy j m with hjm|hjm|hjm
    . refine T.step ⟨hjm,fun h=>hnot h.2,closedB listed hc,fun o' ho' e he hbind=>⟨Nat.lt_trans (T.plan.back j o' ho' e he hbind) hjm,hahead o' ho' e he hbind⟩,fun k hk=>hk.1⟩ I (fun o' ho'=>hZ j o' hjm ho') rd fun ρ' ca' w' I'=>?_
      rw[<- doneB_set hlt hjm]at I';exact ih _ ρ' ca' w' (by simp[hsz]) hclosed' (hb' (by omega)) hcnt' I'
    . subst hjm
      refine hpan hjn _ ρ ca w _ (fun k hk h=>⟨hk,?_⟩) I;exact qh4 T.plan.back hc j o ho (hahead o ho) h
    . have hmn:m<ops.size:=by omega
      cases hbit:(bef ops j).testBit m with
      | true=>exact absurd (qh4 T.plan.back hc j o ho (hahead o ho) hbit) hb
      | false=>
       obtain⟨h1,h2⟩:=hord hmn j o ho hjm hbit;refine T.extra ho h1 h2 I rd fun ca' w' I'=>?_;rw[<- doneB_out hlt (Nat.le_of_lt hjm)]at I';exact ih _ ρ ca' w' (by simp[hsz]) hclosed' (hb' (by omega)) hcnt' I'
theorem bef_alloc {o:Oper} {j:Nat} (hb:qga ops) (ho:ops[j]?=some o) (h:qfi E o=true) (i:Nat):(bef ops j).testBit i=false:=by
 cases hbit:(bef ops j).testBit i with
 | false=>rfl
 | true=>
  obtain⟨e,he,_⟩:=bef_bit hb ho hbit;unfold qfi at h;split at h
  . simp only[bA]at h
    have hnil:=h.1.2;rw[List.isEmpty_iff]at hnil;have:e∈o.after.toList:=by simpa using he
    rw[hnil]at this; cases this
  . cases h
theorem panBy_congr {o:Oper} {a a2:Ac} {s s':St} {v:V} (h:∀t∈qfp ops o,a2.tmps.get t=a.tmps.get t) (hp:PanBy E o self a s v s'):PanBy E o self a2 s v s':=by
 have ho:(opF E o.op).run a2 s=(opF E o.op).run a s:=opF_congr fun x hx=>evO_congr fun t ht=>h t (looks_op (ht▸hx));unfold PanBy at hp ⊢;rw[ho]; exact hp
theorem drawn_sim (hE:EnvOk P E) (hs:EVSim P E self) (hl:EVLoc self) {rd:Option Nat} {id:Nat} {ρ:Rho} {s:St} {w:World} {a:Ac} {ca:Act} (hR:Rel E w0 ρ s w) (hA:ARel ρ a ca) {x:X} {a':Ac} {s':St}
 (h:qlw (qas E ops) (opsD E ops ops.toList) self a s=some (x,a',s')):(Code.region id ops true).wpIn (qbb rd) 0 P (XSim E w0 ρ a' s' x) ca w:=by
 unfold qlw at h;cases hok:(qas E ops).ok with
 | false=>rw[hok]at h; cases h
 | true=>
 rw[hok]at h;simp only[cT,oI]at h;obtain⟨q,hq,h⟩:=h;have hplan:=plan_ok hok;have hheap:∀(u u':St) ls,(qbh u u' ls).heap=u'.heap/\(qbh u u' ls).next=u'.next:=fun u u' ls=>by unfold qbh; cases u.on<;>exact⟨rfl,rfl⟩
 refine wpIn_region_any hE.mixed ?_;have hRd:=hR.drew (w.drawn+1)
 have start:∀(A:Nat->Ac) (S:Nat->St) (m:Nat) (logs:List (List LE)),A 0=a->S 0=s->m<=ops.size->qag logs (qas E ops).prs=true->
  (∀(k:Nat) (o:Oper),k<m->ops[k]?=some o->(op1 E ops o).run self (A k) (fresh (S k))=some (.norm,A (k+1),S (k+1))/\logs[k]?=some (S (k+1)).log)->(A m).defers.length=(A 0).defers.length->
  Text P E w0 ops self A S m ρ/\∀Z,Inv E w0 ops A S m ρ Z (qio m (Array.replicate ops.size false)) ρ ca {w with drawn:=w.drawn+1}:=by
  intro A S m logs hA0 hS0 hm hpairs hall hdef;have hmade:=made_of_op1 (A:=A) (S:=S) (m:=m) (fun k hk=>⟨ops[k],Array.getElem?_eq_getElem (by omega),(hall k ops[k] hk (Array.getElem?_eq_getElem (by omega))).1⟩) hdef
  have hzero:∀b x,ρ b=some x->b<(S 0).next:=fun b x hx=>by
   rcases Nat.lt_or_ge b (S 0).next with h|h
   . exact h
   . rw[hR.dom b (.inl (by rw[<- hS0]; exact h))]at hx; cases hx
  have hlog:∀k,k<m->logs.getD k []=(S (k+1)).log:=fun k hk=>by
   rw[List.getD_eq_getElem?_getD,(hall k ops[k] hk (Array.getElem?_eq_getElem (by omega))).2]; rfl
  have T:Text P E w0 ops self A S m ρ:=by
   refine⟨hE,hs,hl,hplan,hmade,fun i j hij hj hbit b=>?_,hzero,by rw[hS0]; exact hR.lo,text_sim hE hs hmade (ρ:=ρ) (w:=w) (ca:=ca) (by rw[hS0]; exact hR) (by rw[hA0]; exact hA)⟩;obtain⟨oi,vi,hoi,hmi,_⟩:=hmade i (by omega);obtain⟨oj,vj,hoj,hmj,_⟩:=hmade j hj;cases hsi:qj8 oi.op with
   | true=>
    have:=qmc hsi hmi;have hno:∀b,¬fp S i b:=fun b ⟨e,he,_⟩=>by rw[this]at he; cases he
    exact⟨fun hh=>hno b (qkx hh.1),fun hh=>hno b hh.1⟩
   | false=>
    cases hsj:qj8 oj.op with
    | true=>
     have:=qmc hsj hmj;have hno:∀b,¬fp S j b:=fun b ⟨e,he,_⟩=>by rw[this]at he; cases he
     exact⟨fun hh=>hno b hh.2,fun hh=>hno b (qkx hh.2)⟩
    | false=>
     have hp:=plan_pairs hpairs hij hoi hoj hbit hsi hsj;rw[hlog i (by omega),hlog j hj]at hp;refine⟨fun⟨⟨e,he,hb,hw⟩,⟨f,hf,hb2⟩⟩=>?_,fun⟨⟨e,he,hb⟩,⟨f,hf,hb2,hw⟩⟩=>?_⟩
     . have:=(hp e he f hf (hb.trans hb2.symm)).1; rw[hw]at this; cases this
     . have:=(hp e he f hf (hb.trans hb2.symm)).2; rw[hw]at this; cases this
  have hno:∀k,¬qio m (Array.replicate ops.size false) k:=fun k=>by
   unfold qio qct;refine fun hk=>absurd hk.2 ?_;simp only[Array.getD_eq_getD_getElem?,Array.getElem?_replicate];split<;>simp
  have hH:∀b,HS S (qio m (Array.replicate ops.size false)) m b=s.heap.get b:=fun b=>by
   unfold HS;rw[Lw_none hno,hS0]
  have hT:∀t,TS ops A (qio m (Array.replicate ops.size false)) m t=a.tmps.get t:=fun t=>by
   unfold TS;rw[Lw_none hno,hA0]
  refine⟨T,fun Z=>⟨Rho.le_refl ρ,hRd.below,fun b hb=>?_,fun b o ho=>?_,fun b b' o o' cb sh sz sh' sz' h1 h2=>?_,hRd.glob,by rw[hA.n,hA0],fun t v _ ht=>?_,by rw[hA0]; exact hA.defers,hRd.fz,fun b o cb sh sz h1=>?_,hRd.fzIn⟩⟩
  . have h0m:=T.next_le (i:=0) m (Nat.zero_le _) (lR _)
    rcases hb with hb|hb|⟨k,hk,_,h1,_⟩
    . exact hR.dom b (.inl (by rw[<- hS0]; omega))
    . exact hR.dom b (.inr hb)
    . have:=T.next_le (i:=0) k (Nat.zero_le _) (Nat.le_of_lt hk)
      exact hR.dom b (.inl (by rw[<- hS0]; omega))
  . rw[hH]at ho; exact hRd.obj b o ho
  . rw[hH]at h1 h2; exact hRd.sep b b' o o' cb sh sz sh' sz' h1 h2
  . rw[hT]at ht; exact hA.tmp t v ht
  . rw[hH]at h1; exact hRd.apart b o cb sh sz h1
 have full:∀{A:Nat->Ac} {S:Nat->St} {m:Nat},S 0=s->A 0=a->Text P E w0 ops self A S m ρ->∀{D:Nat->Prop} {ρ':Rho} {ca':Act} {w':World},(∀k,k<m->D k)->Inv E w0 ops A S m ρ (fun _=>False) D ρ' ca' w'->
  ρ.le ρ'/\ARel ρ' (A m) ca'/\Rel E w0 ρ' (S m) w':=by
  intro A S m hS0 hA0 T D ρ' ca' w' hD I;refine⟨I.le,⟨by rw[I.n,(T.an m (lR _)).1],fun t v ht=>I.tmp t v (fun h=>h) (by rw[T.T_all hD]; exact ht),by rw[(T.an m (lR _)).2]; exact I.defers.mono I.le⟩,⟨I.keep,fun b hb=>I.dom b (hb.imp (fun h=>h) .inl),?_,fun b o ho=>I.obj b o (by rw[T.H_all hD]; exact ho),fun b b' o o' cb sh sz sh' sz' h1 h2=>I.sep b b' o o' cb sh sz sh' sz' (by rw[T.H_all hD]; exact h1) (by rw[T.H_all hD]; exact h2),I.glob,I.fz,fun b o cb sh sz h1=>I.apart b o cb sh sz (by rw[T.H_all hD]; exact h1),I.fzIn⟩⟩;exact Nat.le_trans T.lo (T.next_le (i:=0) m (Nat.zero_le _) (lR _))
 have cnt:(Array.replicate ops.size false).toList.countP (fun b=>!b)<=ops.size:=by
  refine Nat.le_trans (List.countP_le_length ..) ?_;simp
 have hclosed:ql9 ops (qct (Array.replicate ops.size false)):=fun k hk=>by
  exfalso;unfold qct at hk;simp only[Array.getD_eq_getD_getElem?,Array.getElem?_replicate]at hk;split at hk<;>simp at hk
 have hnone:∀(m:Nat),¬qct (Array.replicate ops.size false) m:=fun m hk=>by
  unfold qct at hk;simp only[Array.getD_eq_getD_getElem?,Array.getElem?_replicate]at hk;split at hk<;>simp at hk
 obtain⟨qx,qa,qs,logs⟩:=q;unfold qc3 at h;cases qx<;>simp only[reduceCtorEq]at h
 . -- all ends well
   cases hc:(qag logs (qas E ops).prs&&Nat.beq qa.defers.length a.defers.length)with
   | false=>rw[hc]at h; cases h
   | true=>
   rw[hc]at h;simp only[cT,oS,pM]at h;obtain⟨rfl,rfl,rfl⟩:=h;simp only[bA]at hc;obtain⟨A,S,hA0,hS0,hAn,hSn,hall⟩:=opsD_norm ops.toList hq;rw[Array.length_toList]at hAn hSn;obtain⟨T,I⟩:=start A S ops.size logs hA0 hS0 (lR _) hc.1 (fun k o _ ho=>hall k o (by simpa using ho)) (by rw[hAn,hA0]; exact Nat.eq_of_beq_eq_true hc.2);refine every T (Z:=fun _=>False) (lR _) (fun _ _ _ _ _ _ h=>h) (fun _ D ρ' ca' w' hD I'=>?_) (fun h=>by omega) (fun h=>by omega) _ _ ρ ca _ (by simp) hclosed (hnone _) cnt (I _);obtain⟨h1,h2,h3⟩:=full hS0 hA0 T hD I';rw[hAn]at h2;rw[hSn]at h3;exact⟨rfl,ρ',h1,h2,h3.congr (hheap s qs logs).1 (hheap s qs logs).2⟩
 . -- a panic
   rename_i v;cases hc:(qag logs (qas E ops).prs&&Nat.beq qa.defers.length a.defers.length)with
   | false=>rw[hc]at h; cases h
   | true=>
   rw[hc]at h;simp only[cT,oI,oS,pM]at h;obtain⟨a1,hpin,rfl,rfl,rfl⟩:=h;simp only[bA]at hc;obtain⟨A,S,p,o,hA0,hS0,hp,hlen,hlast,hall⟩:=opsD_pan ops.toList hq;have hp':ops[p]?=some o:=by simpa using hp
   have hpn:p<ops.size:=(Array.getElem?_eq_some_iff.1 hp').1;have hlp:logs.length-1=p:=by omega
   rw[hlp]at hpin;rcases qmm hlast with⟨hx,_⟩|⟨hx,_⟩|⟨v',hx,rfl,hw,hcase⟩
   . cases hx
   . cases hx
   simp only[X.pan.injEq]at hx;subst hx;obtain⟨T,I⟩:=start A S p logs hA0 hS0 (Nat.le_of_lt hpn) hc.1 (fun k o hk ho=>hall k o hk (by simpa using ho)) (by rw[hA0]; exact Nat.eq_of_beq_eq_true hc.2);obtain⟨hpl,hn1,hd1,hr1,ht1⟩:=plan_pinned hp' hpin
   have behind:∀j x,ops[j]?=some x->p<j->(bef ops j).testBit p=false->qfi E x=true:=fun j x hx hj hbit=>by
    rcases hpl j x hx (by omega)with h|h|⟨h,_⟩|⟨_,h⟩
    . have:=bef_lt T.plan.back p o hp' h; omega
    . rw[hbit]at h; cases h
    . omega
    . exact h
   have apart:∀k ok j x,ops[k]?=some ok->k<=p->ops[j]?=some x->p<j->(bef ops j).testBit p=false->∀t,x.dst=some t->t∉qfp ops ok:=fun k ok j x hk hkp hx hj hbit t ht=>
    (qe3 (T.plan.tmps k j ok x (by omega) hk hx (bef_alloc T.plan.back hx (behind j x hx hj hbit) k))).2 t ht
   refine every T (Z:=fun t=>∃j x,ops[j]?=some x/\p<j/\(bef ops j).testBit p=false/\x.dst=some t) (Nat.le_of_lt hpn)
    (fun k ok hk hok t ht ⟨j,x,hx,hj,hbit,hd⟩=>apart k ok j x hok (Nat.le_of_lt hk) hx hj hbit t hd ht) (fun h=>by omega) (fun _ D ρ' ca' w' K hD I'=>?_)
    (fun _ j x hx hj hbit=>⟨behind j x hx hj hbit,fun t ht=>⟨j,x,hx,hj,hbit,ht⟩⟩) _ _ ρ ca _ (by simp) hclosed (hnone _) cnt (I _)
   have hH:∀b,HS S D p b=(S p).heap.get b:=fun b=>Lw_eq (fun _ hk hw=>(T.grows hk).2 b hw) p (lR _) fun k hk hw=>by
    have hkn:k<ops.size:=by omega
    rcases hpl k ops[k] (Array.getElem?_eq_getElem hkn) (by omega)with h|h|⟨_,h⟩|⟨h,_⟩
    . exact hD k hk h
    . have:=bef_lt T.plan.back k ops[k] (Array.getElem?_eq_getElem hkn) h; omega
    . exfalso
      rw[List.getD_eq_getElem?_getD,(hall k ops[k] hk (by simp[hkn])).2]at h;obtain⟨e,he,_,hew⟩:=hw;have:=noW_spec h e he;rw[hew]at this; cases this
    . omega
   have hT:∀t,(∀j x,ops[j]?=some x->j<p->(bef ops p).testBit j=false->x.dst≠some t)->TS ops A D p t=(A p).tmps.get t:=fun t ht=>Lw_eq (fun _ hk hw=>(T.tmps hk).2.2 t hw) p (lR _) fun k hk hw=>by
    have hkn:k<ops.size:=by omega
    cases hbit:(bef ops p).testBit k with
    | true=>exact hD k hk hbit
    | false=>
     unfold qlx at hw;rw[Array.getElem?_eq_getElem hkn]at hw;exact absurd hw (ht k ops[k] (Array.getElem?_eq_getElem hkn) hk hbit)
   have h3:Rel E w0 ρ' (S p) w':=⟨I'.keep,fun b hb=>I'.dom b (hb.imp (fun h=>h) .inl),Nat.le_trans T.lo (T.next_le (i:=0) p (Nat.zero_le _) (lR _)),fun b o ho=>I'.obj b o (by rw[hH]; exact ho),
    fun b b' o o' cb sh sz sh' sz' h1 h2=>I'.sep b b' o o' cb sh sz sh' sz' (by rw[hH]; exact h1) (by rw[hH]; exact h2),I'.glob,I'.fz,fun b o cb sh sz h1=>I'.apart b o cb sh sz (by rw[hH]; exact h1),I'.fzIn⟩
   have h3':Rel E w0 ρ' (fresh (S p)) w':=h3.congr rfl rfl;have hdef:DRels ρ' (A p).defers ca'.defers:=by rw[(T.an p (lR _)).2]; exact I'.defers.mono I'.le
   have hn:ca'.tmps.size=(A p).n:=by rw[I'.n,(T.an p (lR _)).1]
   have h2:ARel ρ' a1 ca':=by
    refine⟨by rw[hn,hn1],fun t v ht=>?_,by rw[hd1]; exact hdef⟩;obtain⟨e1,e2⟩:=ht1 t v ht;refine I'.tmp t v (fun⟨j,x,hx,hj,hbit,hd⟩=>?_) ?_
    . refine e2 j x hx (by omega) ?_ hbit hd
      cases hb:(bef ops p).testBit j with
      | false=>rfl
      | true=>have:=bef_lt T.plan.back p o hp' hb; omega
    . rw[hT t fun j x hx hj hbit=>e2 j x hx (by omega) hbit ?_]
      . exact e1
      . cases hb:(bef ops j).testBit p with
        | false=>rfl
        | true=>have:=bef_lt T.plan.back j x hx hb; omega
   obtain⟨tt,htt⟩:=Tr.part (A p).tmps (qfp ops o)
   let a2:Ac:={tmps:=tt,n:=(A p).n,defers:=(A p).defers,round:=none}
   have hag:∀t∈qfp ops o,a2.tmps.get t=(A p).tmps.get t:=fun t ht=>by show tt.get t=_; rw[htt,iP ht]
   have h2':ARel ρ' a2 ca':=by
    refine⟨hn,fun t v ht=>?_,hdef⟩;have ht':tt.get t=some v:=ht;rw[htt]at ht';by_cases hl:t∈qfp ops o
    . rw[iP hl]at ht'
      refine I'.tmp t v (fun⟨j,x,hx,hj,hbit,hd⟩=>apart p o j x hp' (lR _) hx hj hbit t hd hl) ?_;rw[hT t fun j x hx hj hbit hd=>((qe3 (T.plan.tmps j p x o hj hx hp' hbit)).1 t hd).1 hl];exact ht'
    . rw[iN hl]at ht'; cases ht'
   refine pan_sim hE hs hp' h3' h2' ((qne (a:=A p) (a2:=a2) rfl hag).trans hw) (panBy_congr hag hcase) rd fun ρ2 cv w2 hle hv hR2=>?_;exact⟨ρ2,cv,rfl,Rho.le_trans I'.le hle,hv,h2.mono hle,hR2.congr (hheap s qs logs).1 (hheap s qs logs).2⟩
end
end Go.Proofs.YtafbipadnnmccaaDoor.Ev
end
