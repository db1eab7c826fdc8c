/-
  WHAT THE FUNCTIONS COME TO: each is read by the evaluator,printed,and told as a function of data,part 2 of 13 (no condition).
-/
import Derived.Test.YtafbipadnnmccaaDoorW1
import Derived.Test.YtafbipadnnmccaaDoorProg
import Derived.KernelRfl
noncomputable section
namespace Go.Proofs.YtafbipadnnmccaaDoor.W
open Go.Proofs.YtafbipadnnmccaaDoor.Ev Go.RowKit
section
variable {s S T U X Y:St} {α:Type} {v:V} {bs:Bs} {N:Nat}
theorem qjg {α:Type} {l r:List α} {i:Nat} {y:α} (h:l.drop i=y::r):∃hlt:i<l.length,l[i]=y/\l.drop (i+1)=r/\y∈l:=by
 have hlt:i<l.length:=by
  rcases Nat.lt_or_ge i l.length with h'|h'
  . exact h'
  . rw[List.drop_eq_nil_of_le h']at h; cases h
 rw[List.drop_eq_getElem_cons hlt]at h;simp only[List.cons.injEq]at h;exact⟨hlt,h.1,h.2,h.1▸List.getElem_mem hlt⟩
theorem qh6 {α:Type} {l:List α} {i:Nat} (h:l.drop i=[]):l.length<=i:=List.drop_eq_nil_iff.1 h
theorem wrap_succ {i:Nat} (h:i<9223372036854775807):IntKind.i64.wrap ((i:Int)+1)=((i+1:Nat):Int):=by
 rw[qdi (by omega) (by omega)]; omega
def AgAt (s:St) (b e z:Nat) (t:Tr V):Prop:=∃c,s.heap.get b=some (.cells e z 1 false c)/\c.get 0=some t
theorem AgAt.grew {W:Nat->Prop} {u:St} {b e z:Nat} {t:Tr V} (h:AgAt s b e z t) (hb:b<s.next) (hw:¬W b) (g:Grew W s u):AgAt u b e z t:=by
 obtain⟨c,h1,h2⟩:=h;exact⟨c,by rw[g.keep b hb hw]; exact h1,h2⟩
theorem qbp (ho:s.on=false) (e z:Nat) (t:Tr V):AgAt (nwP e z t s).2 s.next e z t/\Grew (fun _=>False) s (nwP e z t s).2/\(nwP e z t s).2.next=s.next+1:=by
 refine⟨⟨Tr.ofListFrom .nil [t] 0,?_,by rw[Tr.get_ofList]; rfl⟩,qeo ho _ _,rfl⟩;show(qan s e z [t]).heap.get s.next=_
 unfold qan;rw[qgo,iP rfl]; rfl
theorem AgAt.ldk (ho:s.on=false) {b e z:Nat} {t:Tr V} (h:AgAt s b e z t) (hz:z<big):ldK s b 0 z=some (t,s):=by
 obtain⟨c,h1,h2⟩:=h;unfold ldK;rw[h1];simp only[ble_true.2 (show 0+z<=z*1 by omega),blt_true.2 (show z*1<big by omega),Bool.and_self,cT];unfold qg1;rw[show Nat.beq z z=true from beq_true.2 rfl,Nat.zero_mod,show Nat.beq 0 0=true from rfl];simp only[Bool.and_self,cT,Nat.zero_div,h2,oB,qau ho]
theorem AgAt.ldA (ho:s.on=false) {b e z:Nat} {t:Tr V} (h:AgAt s b e z t) (hz:z<big):Ev.ldA z (.ptr b 0) s=some (.agg z t,s):=by
 show((ldK s b 0 z).bind fun p=>some (V.agg z p.1,p.2))=_;rw[h.ldk ho hz]; rfl
theorem AgAt.ldrA (ho:s.on=false) {b e z:Nat} {t:Tr V} (h:AgAt s b e z t) (hz:z<big):Ev.ldrA z (.ptr b 0) s=some (.agg z t,s):=by
 show((ldK s b 0 z).bind fun p=>some (V.agg z p.1,p.2))=_;rw[h.ldk ho hz]; rfl
theorem AgAt.stA (ho:s.on=false) {b e z:Nat} {t:Tr V} (h:AgAt s b e z t) (hz:z<big) (u:Tr V):∃w,stP z (.ptr b 0) (.agg z u) s=some (.tuple [],w)/\AgAt w b e z u/\Grew (fun x=>x=b) s w/\w.next=s.next:=by
 obtain⟨c,h1,h2⟩:=h;refine⟨s.put b (.cells e z 1 false (c.set u 0)),?_,⟨c.set u 0,by rw[qft,iP rfl],by rw[Tr.get_set,iP rfl]⟩,qiq b _,rfl⟩;show vu (bif Nat.beq z z&&!false then stK s b 0 z u else none)=_;rw[show Nat.beq z z=true from beq_true.2 rfl];simp only[nF,Bool.and_self,cT]
 have:stK s b 0 z u=some (s.put b (.cells e z 1 false (c.set u 0))):=by
  unfold stK;rw[h1];simp only[ble_true.2 (show 0+z<=z*1 by omega),blt_true.2 (show z*1<big by omega),Bool.and_self,nF,cT];unfold qg2;rw[show Nat.beq z z=true from beq_true.2 rfl,Nat.zero_mod,show Nat.beq 0 0=true from rfl];simp only[Bool.and_self,cT,Nat.zero_div,Tr.setC_eq,oB,qau ho]
 rw[this]; rfl
theorem AgAt.ld1 (ho:s.on=false) {b e z i:Nat} {t:Tr V} {v:V} (h:AgAt s b e z t) (hz:z<big) (hi:i<z) (hv:t.get i=some v):Ev.ld1 (.ptr b i) s=some (v,s):=by
 obtain⟨c,h1,h2⟩:=h;show ld s b i=_;exact ld_of ho h1 (by omega) (by omega) (by rw[cellOf_zero hi,h2]; exact hv)
theorem AgAt.st1 (ho:s.on=false) {b e z i:Nat} {t:Tr V} (h:AgAt s b e z t) (hz:z<big) (h1z:1<z) (hi:i<z) (v:V) (hs:v.size=1) (hc:v.cells=Ev.one v) (hv:qaa v=false):∃w,stP 1 (.ptr b i) v s=some (.tuple [],w)/\AgAt w b e z (t.set v i)/\Grew (fun x=>x=b) s w/\w.next=s.next:=by
 obtain⟨c,h1,h2⟩:=h;refine⟨s.put b (.cells e z 1 false (c.set (t.set v i) 0)),?_,⟨c.set (t.set v i) 0,by rw[qft,iP rfl],by rw[Tr.get_set,iP rfl]⟩,qiq b _,rfl⟩;show vu (bif Nat.beq v.size 1&&!qaa v then stK s b i 1 v.cells else none)=_;rw[hs,hv,hc];simp only[show Nat.beq 1 1=true from rfl,nF,Bool.and_self,cT]
 have:stK s b i 1 (Ev.one v)=some (s.put b (.cells e z 1 false (c.set (t.set v i) 0))):=by
  unfold stK;rw[h1];simp only[ble_true.2 (show i+1<=z*1 by omega),blt_true.2 (show z*1<big by omega),Bool.and_self,nF,cT];unfold qg2;rw[show Nat.beq 1 z=false from beq_false.2 (by omega)];simp only[Bool.false_and,cF,qhx,show(Ev.one v).get 0=some v from rfl,oB,Nat.add_zero,Nat.div_eq_of_lt hi,Nat.mod_eq_of_lt hi,h2,Tr.setC_eq,qau ho]
 rw[this]; rfl
def ixB (l:List UInt8) (c:UInt8):Int:=match l.findIdx? (fun x=>x==c)with|some i=>(i:Int)|none=>-1
theorem extV_one (l n c:Nat) (S:St):extV 1 [.str l n,.int .u8 (.ofNat c)] S=bif Nat.blt c 256 then match indexByte c l 0 n with
 | some i=>some (.val (.int .i64 (.ofNat i)) S)
 | none=>some (.val (.int .i64 (-1)) S)
 else none:=rfl
theorem qln {E:Env} {self:EV} {f k:Nat} (h:E.ext.get f=some k) (x y args:List V) (S:St):qbo E self (.fn (.func f) x y) args S=(extV k (x++args++y) S).bind fun
 | .val v s=>some (.ret v,s)
 | _=>none:=by
 show(match E.ext.get f with|some k=>_|none=>_)=_;rw[h];rfl
theorem ext_ixB (s:List UInt8) (c:UInt8) (S:St):extV 1 [sv s,.int .u8 (c.toNat:Int)] S=some (.val (.int .i64 (ixB s c)) S):=by
 have h1:extV 1 [sv s,.int .u8 (c.toNat:Int)] S=bif Nat.blt c.toNat 256 then match indexByte c.toNat s.length 0 (qb0 s)with
  | some i=>some (.val (.int .i64 (.ofNat i)) S)
  | none=>some (.val (.int .i64 (-1)) S)
  else none:=extV_one _ _ _ _
 rw[h1,blt_true.2 c.toNat_lt,qep,ixB];cases s.findIdx? (fun x=>x==c)with
 | none=>rfl
 | some i=>rfl
theorem und9:und E0 9=some .string:=by kernel_rfl
theorem big1:1<big:=by unfold big; decide
theorem lnS_of {v:V} {s:St} {n:Nat} (hv:∀l k,v≠.str l k) (h:lenV v=some n):lnS v s=some (.int .i64 (n:Int),s):=by
 unfold lnS;split
 . exact absurd rfl (hv _ _)
 . rw[h]; rfl
theorem faPg (off k o:Nat) (g:Bool) (b:Nat):faP off g (k+1) (.ptr b o)=some (.ptr b (o+off)):=faP_ptr off g k b o
def qjs (l:List Bs):List (Tr V):=l.map fun a=>Ev.one (sv a)
theorem qgw (l:List Bs):(qjs l).length=l.length:=by unfold qjs; rw[lM]
theorem rowOf_get {l:List Bs} {i:Nat} {a:Bs} (h:l[i]?=some a):(qjs l)[i]?=some (Ev.one (sv a)):=by unfold qjs; rw[List.getElem?_map,h]; rfl
theorem rowOf_append (l m:List Bs):qjs (l++m)=qjs l++qjs m:=by unfold qjs; rw[List.map_append]
def qah:V->Option Nat
 | .slice r _ _ _=>some r
 | .oslice r _ _ _=>some r
 | _=>none
def TL (S:St) (v:V) (l:List Bs):Prop:=(l=[]/\(v=.nilslice\/v=.eslice\/∃r c,v=.slice r 0 0 c))\/
 ∃r off L,RowAt S r 9 1 (qjs L)/\r<S.next/\off+l.length<=L.length/\(L.drop off).take l.length=l/\(v=.oslice r off l.length 1\/∃c,v=.slice r off l.length c)
theorem TL.nil:TL S .nilslice []:=.inl ⟨rfl,.inl rfl⟩
theorem TL.own {r:Nat} {l:List Bs} (h:RowAt S r 9 1 (qjs l)) (hr:r<S.next):TL S (.oslice r 0 l.length 1) l:=.inr ⟨r,0,l,h,hr,by omega,by simp,.inl rfl⟩
theorem TL.sli {r c:Nat} {l:List Bs} (h:RowAt S r 9 1 (qjs l)) (hr:r<S.next):TL S (.slice r 0 l.length c) l:=.inr ⟨r,0,l,h,hr,by omega,by simp,.inr ⟨c,rfl⟩⟩
theorem TL.grew {W:Nat->Prop} {v:V} {l:List Bs} (h:TL S v l) (hw:∀r e,qah v=some r->RowAt S r 9 1 e->¬W r) (g:Grew W S U):TL U v l:=by
 rcases h with h|⟨r,off,L,h1,h2,h3,h4,h5⟩
 . exact .inl h
 . have hb:qah v=some r:=by rcases h5 with rfl|⟨c,rfl⟩<;>rfl
   exact .inr ⟨r,off,L,h1.grew h2 (hw r _ hb h1) g,Nat.lt_of_lt_of_le h2 g.next,h3,h4,h5⟩
theorem TL.grew0 {v:V} {l:List Bs} (h:TL S v l) (g:Grew (fun _=>False) S U):TL U v l:=h.grew (fun _ _ _ _ h=>h) g
theorem TL.lenV {v:V} {l:List Bs} (h:TL S v l):Ev.lenV v=some l.length:=by
 rcases h with⟨rfl,rfl|rfl|⟨r,c,rfl⟩⟩|⟨r,off,L,h1,h2,h3,h4,rfl|⟨c,rfl⟩⟩<;>rfl
theorem TL.notStr {v:V} {l:List Bs} (h:TL S v l):∀a b,v≠.str a b:=by
 rcases h with⟨rfl,rfl|rfl|⟨r,c,rfl⟩⟩|⟨r,off,L,h1,h2,h3,h4,rfl|⟨c,rfl⟩⟩<;>intro a b e<;>cases e
theorem TL.len {v:V} {l:List Bs} (h:TL S v l) (U:St):lnS v U=some (.int .i64 (l.length:Int),U):=lnS_of h.notStr h.lenV
theorem TL.ix {v:V} {l:List Bs} (h:TL S v l) {i:Nat} {a:Bs} (ha:l[i]?=some a):∃r o L,ixP 1 v (.int .i64 (i:Int))=some (.ptr r o)/\RowAt S r 9 1 L/\L[o]?=some (Ev.one (sv a)):=by
 obtain⟨hi,he⟩:=List.getElem?_eq_some_iff.1 ha;rcases h with⟨rfl,_⟩|⟨r,off,L,h1,h2,h3,h4,h5⟩
 . cases hi
 . refine⟨r,off+i*1,qjs L,?_,h1,?_⟩
   . have:ixP 1 v (.int .i64 (i:Int))=bif Nat.blt i l.length then some (V.ptr r (off+i*1))else none:=by rcases h5 with rfl|⟨c,rfl⟩<;>rfl
     rw[this,blt_true.2 hi]; rfl
   . refine rowOf_get ?_
     rw[Nat.mul_one];have:((L.drop off).take l.length)[i]?=some a:=by rw[h4]; exact ha
     rw[List.getElem?_take,iP hi,List.getElem?_drop]at this;exact this
theorem TL.ld {v:V} {l:List Bs} (h:TL S v l) (ho:S.on=false) {i:Nat} {a:Bs} (ha:l[i]?=some a):∃p,ixP 1 v (.int .i64 (i:Int))=some p/\ld1 p S=some (sv a,S):=by
 obtain⟨r,o,L,h1,h2,h3⟩:=h.ix ha;exact⟨_,h1,h2.ld1 ho h3⟩
def TLo (S:St) (v:V) (l:List Bs) (N:Nat):Prop:=(l=[]/\v=.nilslice)\/∃r,v=.oslice r 0 l.length 1/\RowAt S r 9 1 (qjs l)/\r<S.next/\N<=r/\0<l.length
theorem TLo.nil {N:Nat}:TLo S .nilslice [] N:=.inl ⟨rfl,rfl⟩
theorem TLo.tl {v:V} {l:List Bs} {N:Nat} (h:TLo S v l N):TL S v l:=by
 rcases h with⟨rfl,rfl⟩|⟨r,rfl,h1,h2,_⟩
 . exact .nil
 . exact .own h1 h2
theorem TLo.grew {v:V} {l:List Bs} {N:Nat} (h:TLo S v l N) (g:Grew (fun _=>False) S U):TLo U v l N:=by
 rcases h with h|⟨r,h0,h1,h2,h3⟩
 . exact .inl h
 . exact .inr ⟨r,h0,h1.grew h2 (fun h=>h) g,Nat.lt_of_lt_of_le h2 g.next,h3⟩
theorem eqStr (c d:Bool) (a b:Bs):qa5 E0 .eql 9 c d (sv a) (sv b)=some (.bool (a==b)):=by
 rw[binV_ss];show(some (V.bool (sEq a.length (qb0 a) b.length (qb0 b))))=_;rw[qn0]
theorem neStr (c d:Bool) (a b:Bs):qa5 E0 .neq 9 c d (sv a) (sv b)=some (.bool (!(a==b))):=by
 rw[binV_ss];show(some (V.bool (!sEq a.length (qb0 a) b.length (qb0 b))))=_;rw[qn0]
theorem qc5 (ho:S.on=false) {b i:Nat} {v:V} (h:ld1 (.ptr b i) S=some (v,S)) (l:List LE):ld1 (.ptr b i) (S.lg l)=some (v,S.lg (⟨b,i,i+1,false⟩::l)):=by
 have h':ld S b i=some (v,S):=h;show ld (S.lg l) b i=_;unfold ld at h' ⊢;rw[show(S.lg l).heap=S.heap from rfl];split at h'
 . rename_i e esz n ro c hb
   cases hc:(Nat.blt i (esz*n)&&Nat.blt (esz*n) big)with
   | false=>rw[hc]at h'; cases h'
   | true=>
    rw[hc]at h';simp only[cT,oI,oS,pM]at h' ⊢;obtain⟨t,h1,w,h2,rfl,_⟩:=h';exact⟨t,h1,w,h2,rfl,rfl⟩
 . cases h'
theorem relog_same {T:St} (ho:S.on=false) (hT:T.on=false) (hl:T.log=S.log) (l:List LE) (ls:List (List LE)):qbh S (T.lg l) ls=T:=by
 unfold qbh;rw[ho];cases T;simp only at hT hl;subst hT; subst hl;rfl
theorem TLo.push2 (ho:S.on=false) {v:V} {l:List Bs} {N:Nat} (h:TLo S v l N) (hN:N<=S.next) (hl:l.length<100000) (a:Bs) :
 ∃y W v' U,bsP 9 1 1 (Ev.one (sv [])) [(0,sv a)] S=some (y,W)/\apP 9 1 16 v y W=some (v',U)/\TLo U v' (l++[a]) N/\Grew (fun x=>qah v=some x) S U:=by
 obtain⟨W,h1,h2,h3,h4⟩:=bsP_one ho 9 (Ev.one (sv [])) (oneV_sv a);have on1:=h3.on.trans ho;have hlm:(l++[a]).length=l.length+1:=by rw[lAq]; rfl
 rcases h with⟨rfl,rfl⟩|⟨r,rfl,hr,hr2,hr3,h0⟩
 . obtain⟨U,k1,k2,k3,k4⟩:=ap1_first (B:=16) on1 h2 (by unfold qai; omega)
   exact⟨_,W,_,U,h1,k1,.inr ⟨W.next,rfl,k2,by omega,by omega,by simp⟩,(h3.trans k3).mono fun _ _ h=>h.elim⟩
 . have hrow:=hr.grew hr2 (fun h=>h) h3
   obtain⟨U,k1,k2,k3,k4⟩:=ap1_more (B:=16) on1 h2 hrow (by rw[qgw]; unfold qai; omega) (by rw[qgw]; unfold big; omega);rw[qgw]at k1;refine⟨_,W,_,U,h1,k1,.inr ⟨W.next,by rw[hlm],?_,by omega,by omega,by omega⟩,(h3.mono fun _ _ h=>h.elim).trans (k3.mono fun x _ e=>by subst e; rfl)⟩;rw[rowOf_append];exact k2
theorem meet_ne {e f:LE} (h:e.b≠f.b):meet e f=false:=by
 unfold meet;rw[show Nat.beq e.b f.b=false from by rw[Bool.eq_false_iff]; exact fun hb=>h (Nat.eq_of_beq_eq_true hb)]; rfl
theorem meet_or {e f:LE} (h:e.b≠f.b\/(e.w=false/\f.w=false)):meet e f=false:=by
 rcases h with h|⟨h1,h2⟩
 . exact meet_ne h
 . unfold meet
   rw[h1,h2]; cases Nat.beq e.b f.b<;>rfl
theorem clash1_or {e:LE}:∀{l:List LE},(∀f∈l,e.b≠f.b\/(e.w=false/\f.w=false))->qgf e l=false
 | [],_=>rfl
 | f::l,h=>by
  unfold qgf;rw[meet_or (h f (List.mem_cons_self ..))];exact clash1_or fun g hg=>h g (mO _ hg)
theorem qim:∀{a b:List LE},(∀e∈a,∀f∈b,e.b≠f.b\/(e.w=false/\f.w=false))->qbi a b=false
 | [],_,_=>rfl
 | e::a,b,h=>by
  unfold qbi;rw[clash1_or (h e (List.mem_cons_self ..))];exact qim fun g hg=>h g (mO _ hg)
theorem qdn (ho:S.on=false) (U:St) (l:List LE) (ls:List (List LE)):∃U',qbh S (U.lg l) ls=U'/\U'.heap=U.heap/\U'.next=U.next/\U'.on=false:=by
 refine⟨_,rfl,?_,?_,?_⟩<;>(unfold qbh; rw[ho]; rfl)
theorem lg_of {f:St->Option (α×St)} (h:Lg.LocP f) {a:α} (hf:f S=some (a,U)) (l:List LE):∃l',f (S.lg l)=some (a,U.lg l'):=by
 obtain⟨_,h2⟩:=h S (a,U) hf;obtain⟨t',h3,h4,h5⟩:=h2 (S.lg l) ⟨rfl,rfl⟩;refine⟨t'.log,h3.trans ?_⟩;obtain⟨hp,nx,on,lg⟩:=t';obtain⟨k1,k2⟩:=h4;simp only at k1 k2 h5;have h5':on=true:=h5;subst h5'; subst k1; subst k2;rfl
theorem lg_apP (e z B:Nat) (x y:V):Lg.LocP fun s=>apP e z B x y s:=by
 unfold apP;exact Lg.Loc.opt fun n=>Lg.Loc.opt fun m=>Lg.Loc.cond (Lg.loc_appendV _ _ _ _ _) Lg.Loc.none
theorem nw_lg (ho:s.on=false) (l:List LE) (o:O):nw (s.lg l) o=(nw s o).lg ({b:=s.next,lo:=0,hi:=big,w:=true}::l):=by
 unfold nw;rw[qau ho,note_lg];rfl
theorem stP_lg (ho:s.on=false) {n b off:Nat} {v:V} {t:St} (h:stP n (.ptr b off) v s=some (.tuple [],t)):∃l,stP n (.ptr b off) v (s.lg [])=some (.tuple [],t.lg l):=by
 have h':vu (bif Nat.beq v.size n&&!qaa v then stK s b off n v.cells else none)=some (.tuple [],t):=h;show ∃l,vu (bif Nat.beq v.size n&&!qaa v then stK (s.lg []) b off n v.cells else none)=some (.tuple [],t.lg l);cases hc:(Nat.beq v.size n&&!qaa v)with
 | false=>rw[hc]at h'; cases h'
 | true=>
  rw[hc]at h';simp only[cT]at h' ⊢;unfold vu at h' ⊢;simp only[oI,oS,pM,true_and]at h';obtain⟨u,hu,rfl⟩:=h';obtain⟨_,l,hl⟩:=stK_lg ho hu [];exact⟨l,by rw[hl]; rfl⟩
def stt (S:St):Option (List LE)->St
 | none=>S
 | some l=>S.lg l
theorem und5:und E0 5=some (.int .u8):=by kernel_rfl
theorem qk5 (a b:Nat):qa5 E0 .lss 3 false false (.int .i64 (a:Int)) (.int .i64 (b:Int))=some (.bool (decide (a<b))):=by
 rw[binV_ii,intsV_lss]
 congr 2
 simp
theorem qff {i:Nat} (h:i<9223372036854775807):qa5 E0 .add 3 false true (.int .i64 (i:Int)) (.int .i64 1)=some (.int .i64 ((i+1:Nat):Int)):=by
 rw[binV_ii,intsV_add,wrap_succ h]
def numb:Nat->List V->List (Nat×V)
 | _,[]=>[]
 | i,v::l=>(i,v)::numb (i+1) l
theorem fillE_numb (n:Nat):∀(vs:List V) (i:Nat) (c:Tr (Tr V)),(∀v∈vs,OneV v)->i+vs.length<=n->∃c',qgi n 1 c (numb i vs)=some c'/\∀j,(∀v,i<=j->vs[j-i]?=some v->c'.get j=some (Ev.one v))/\(j<i->c'.get j=c.get j)
 | [],i,c,_,_=>⟨c,rfl,fun j=>⟨fun v _ h=>by simp at h,fun _=>rfl⟩⟩
 | v::vs,i,c,hv,hn=>by
  have h1:=hv v (List.mem_cons_self ..);rw[List.length_cons]at hn;obtain⟨c',h2,h3⟩:=fillE_numb n vs (i+1) (c.set (Ev.one v) i) (fun w hw=>hv w (mO _ hw)) (by omega);refine⟨c',?_,fun j=>⟨fun w hj hw=>?_,fun hj=>?_⟩⟩
  . show qgi n 1 c ((i,v)::numb (i+1) vs)=_
    unfold qgi;rw[h1.size,h1.tup,h1.cells,show Nat.blt i n=true from blt_true.2 (by omega)];simp only[Nat.beq_refl,nF,Bool.and_self,cT,Tr.setC_eq];exact h2
  . by_cases e:j=i
    . subst e
      rw[Nat.sub_self]at hw;simp only[List.getElem?_cons_zero,oS]at hw;rw[(h3 j).2 (by omega),Tr.get_set,iP rfl,hw]
    . refine(h3 j).1 w (by omega) ?_
      rw[show j-i=(j-(i+1))+1 by omega,List.getElem?_cons_succ]at hw;exact hw
  . rw[(h3 j).2 (by omega),Tr.get_set,iN (by omega)]
theorem bsP_ones (ho:S.on=false) (e:Nat) (z:Tr V) (vs:List V) (hv:∀v∈vs,OneV v) (hf:vs.length<big):∃U,(∀m,bsP e 1 vs.length z (numb 0 vs) (stt S m)=some (.slice S.next 0 vs.length vs.length,stt U (m.map fun l=>⟨S.next,0,big,true⟩::l)))/\RowAt U S.next e 1 (vs.map Ev.one)/\Grew (fun _=>False) S U/\U.next=S.next+1:=by
 obtain⟨c,h1,h2⟩:=fillE_numb vs.length vs 0 (Tr.tab vs.length vs.length fun _=>z) hv (by omega);refine⟨nw S (.cells e 1 vs.length false c),fun m=>?_,?_,qeo ho _ _,rfl⟩
 . unfold bsP
   rw[h1,oB];cases m with
   | none=>rfl
   | some l=>
    show some (V.slice S.next 0 vs.length vs.length,nw (S.lg l) _)=_;rw[nw_lg ho]; rfl
 . refine qfv ho (by omega) (by rw[lM]) (by omega) fun i t h=>?_
   rw[List.getElem?_map]at h;cases hg:vs[i]? with
   | none=>rw[hg]at h; cases h
   | some v=>
    rw[hg]at h;simp only[Option.map_some,oS]at h;rw[<- h];exact(h2 i).1 v (Nat.zero_le _) hg
theorem qbf (c d:Bool) {a b:Bs} (h:a.length+b.length<4611686018427387904):qa5 E0 .add 9 c d (sv a) (sv b)=some (sv (a++b)):=by
 rw[binV_ss,strOp_add _ _ h]
theorem AgAt.ldOn {b e z:Nat} {t:Tr V} (h:AgAt S b e z t) (hz:z<big) (l:List LE):Ev.ldA z (.ptr b 0) (S.lg l)=some (.agg z t,S.lg (⟨b,0,0+z,false⟩::l)):=by
 obtain⟨c,h1,h2⟩:=h;show((ldK (S.lg l) b 0 z).bind fun p=>some (V.agg z p.1,p.2))=_;unfold ldK;rw[show(S.lg l).heap.get b=_ from h1];simp only[ble_true.2 (show 0+z<=z*1 by omega),blt_true.2 (show z*1<big by omega),Bool.and_self,cT];unfold qg1;rw[show Nat.beq z z=true from beq_true.2 rfl,Nat.zero_mod,show Nat.beq 0 0=true from rfl];simp only[Bool.and_self,cT,Nat.zero_div,h2,oB];rfl
theorem qd2 (ho:S.on=false) (l:List LE) (ls:List (List LE)):qbh S (S.lg l) ls=S:=relog_same ho ho rfl l ls
def qie (l:List UInt8) (c:UInt8):Nat:=(l.filter (fun x=>x==c)).length
theorem countByte_spec {c:UInt8}:∀(l:List UInt8) (acc:Nat),countByte c.toNat l.length (qb0 l) acc=acc+qie l c
 | [],acc=>rfl
 | b::l,acc=>by
  simp only[List.length_cons,countByte,qb0];have hb:b.toNat<256:=b.toNat_lt;rw[show(b.toNat+256*qb0 l)%256=b.toNat by omega,show(b.toNat+256*qb0 l)/256=qb0 l by omega];unfold qie;by_cases h:b=c
  . subst h
    rw[show Nat.beq b.toNat b.toNat=true from beq_true.2 rfl,cT,countByte_spec l (acc+1),List.filter_cons_of_pos (by simp),List.length_cons];unfold qie;omega
  . have h1:Nat.beq b.toNat c.toNat=false:=beq_false.2 fun e=>h (UInt8.toNat_inj.1 e)
    rw[h1,cF,countByte_spec l acc,List.filter_cons_of_neg (by simpa using h)];rfl
theorem extV_three (l n c:Nat) (S:St):extV 3 [.str l n,.int .u8 (.ofNat c)] S=bif Nat.blt c 256 then some (.val (.int .i64 (.ofNat (countByte c l n 0))) S)else none:=rfl
theorem cnt_le (s:List UInt8) (c:UInt8):qie s c<=s.length:=List.length_filter_le _ _
theorem ixP_sl (r n i:Nat) (h:i<n):ixP 1 (.slice r 0 n n) (.int .i64 (i:Int))=some (.ptr r i):=by
 have h0:ixP 1 (.slice r 0 n n) (.int .i64 (i:Int))=bif Nat.blt i n then some (.ptr r (0+i*1))else none:=rfl;rw[h0,blt_true.2 h,cT,Nat.mul_one,Nat.zero_add]
theorem AgAt.st_one (ho:s.on=false) {b e:Nat} {t:Tr V} (h:AgAt s b e 1 t) (v:V) (hs:v.size=1) (hc:v.cells=Ev.one v) (hv:qaa v=false):∃w,stP 1 (.ptr b 0) v s=some (.tuple [],w)/\AgAt w b e 1 (Ev.one v)/\Grew (fun x=>x=b) s w/\w.next=s.next:=by
 obtain⟨w,h1,h2,h3,h4⟩:=h.stA ho big1 (Ev.one v);refine⟨w,?_,h2,h3,h4⟩;have e1:stP 1 (.ptr b 0) (.agg 1 (Ev.one v)) s=vu (stK s b 0 1 (Ev.one v)):=rfl;have e2:stP 1 (.ptr b 0) v s=vu (bif Nat.beq v.size 1&&!qaa v then stK s b 0 1 v.cells else none):=rfl;rw[e2,hs,hc,hv,<- h1,e1];rfl
theorem AgAt.ldr_one (ho:s.on=false) {b e:Nat} {v:V} (h:AgAt s b e 1 (Ev.one v)):ldr1 (.ptr b 0) s=some (v,s):=AgAt.ld1 ho h big1 (by decide) rfl
end
end Go.Proofs.YtafbipadnnmccaaDoor.W
namespace Go.Proofs.YtafbipadnnmccaaDoor.W
open Go.Proofs.YtafbipadnnmccaaDoor.Ev
set_option maxRecDepth 100000
noncomputable section
def C72:Code:=Tryd.f72.body.getD .skip
def B72:D:=(qaz C72 [[],[],[0,0],[2],[],[],[]]).1
def RL72:List Nat:=cellsOf Tryd.f72.results.toList
def R72_1 (self:EV) (N:Nat) (nk:Ac->St->Rs) (ek:Nat->Ac->St->Rs) (a:Ac) (S:St):Rs:=qb8 [0] a fun a=>dr E0 self RL72 N (B72.r).r (mkK E0 self Tryd.f72 nk ek) a S
theorem R72_1_eq (self:EV) (N:Nat) (nk:Ac->St->Rs) (ek:Nat->Ac->St->Rs) ( v0:V) (S:St):R72_1 self N nk ek (fr 38 [(0,v0)]) S =
(qa1 v0).bind fun t3=>
(faP 0 false 1 t3).bind fun t4=>
(ld1 t4 (onS S)).bind fun p5=>
(qa1 v0).bind fun t7=>
(faP 1 false 1 t7).bind fun t8=>
(ld1 t8 (onS p5.2)).bind fun p9=>
(qa5 E0 .add 3 false true p9.1 (.int .i64 1)).bind fun t10=>
(ixS p5.1 t10).bind fun t11=>
qh7 [(3,[7])] S [[],[],[],p5.2.log,[],[],[],p9.2.log,[],[],[]] (onS p9.2) fun S13=>
(qa1 v0).bind fun t15=>
(faP 1 false 1 t15).bind fun t16=>
(ld1 t16 S13).bind fun p17=>
(qa5 E0 .add 3 false true p17.1 (.int .i64 2)).bind fun t18=>
(qa1 v0).bind fun t19=>
(faP 1 false 1 t19).bind fun t20=>
(stP 1 t20 t18 p17.2).bind fun p21=>
some (.ret t11,p21.2):=by kernel_rfl
def F72 (self:EV) (N:Nat) (x0:V) (S:St):Rs:=qdg E0 self N Tryd.f72 B72 [x0] S
theorem F72_eq (self:EV) (N:Nat) (x0:V) (S:St):F72 self N x0 S =
(qa1 x0).bind fun t25=>
(faP 1 false 1 t25).bind fun t26=>
(ld1 t26 (onS S)).bind fun p27=>
(qa5 E0 .add 3 false true p27.1 (.int .i64 1)).bind fun t28=>
(qa1 x0).bind fun t30=>
(faP 0 false 1 t30).bind fun t31=>
(ld1 t31 (onS p27.2)).bind fun p32=>
(qbw p32.1 (onS p32.2)).bind fun p33=>
(qa5 E0 .geq 3 false false t28 p33.1).bind fun t34=>
qh7 [(3,[8,9])] S [[],[],[],p27.2.log,[],[],[],[],p32.2.log,p33.2.log,[]] (onS p33.2) fun S35=>
ifK t34 (
(qa1 x0).bind fun t37=>
(faP 1 false 1 t37).bind fun t38=>
(ld1 t38 S35).bind fun p39=>
callP (self.f 25 [(.int .i64 19),p39.1] p39.2) fun t40 S40=>
R72_1 self N (qbu E0 self Tryd.f72) qav (fr 38 [(0,x0)]) S40) (
R72_1 self N (qbu E0 self Tryd.f72) qav (fr 38 [(0,x0)]) S35):=by kernel_rfl
def C70:Code:=Tryd.f70.body.getD .skip
def B70:D:=(qaz C70 [[]]).1
def F70 (self:EV) (N:Nat) (x0 x1 x2:V) (S:St):Rs:=qdg E0 self N Tryd.f70 B70 [x0,x1,x2] S
theorem F70_eq (self:EV) (N:Nat) (x0 x1 x2:V) (S:St):F70 self N x0 x1 x2 S =
(ld1 x1 S).bind fun p0=>
callP (qbo E0 self p0.1 [] p0.2) fun t1 S1=>
(ld1 x2 S1).bind fun p2=>
(apP 49 6 80 p2.1 x0 p2.2).bind fun p4=>
(stP 1 x2 p4.1 p4.2).bind fun p5=>
some (.ret (.tuple []),p5.2):=by kernel_rfl
def C69:Code:=Tryd.f69.body.getD .skip
def B69:D:=(qaz C69 [[],[],[],[],[]]).1
def F69 (self:EV) (N:Nat) (x0 x1 x2:V) (S:St):Rs:=qdg E0 self N Tryd.f69 B69 [x0,x1,x2] S
theorem F69_eq (self:EV) (N:Nat) (x0 x1 x2:V) (S:St):F69 self N x0 x1 x2 S =
(ld1 x0 S).bind fun p0=>
(lnS p0.1 p0.2).bind fun p1=>
(qa5 E0 .eql 3 false true p1.1 (.int .i64 0)).bind fun t2=>
ifK t2 (
some (.ret (.tuple []),p1.2)) (
(ld1 x0 p1.2).bind fun p3=>
(qc2 E0 79 9 p3.1 p3.2).bind fun p4=>
(ld1 x1 p4.2).bind fun p5=>
(qab E0 49 [(0,(.int .i64 0)),(1,p4.1),(3,p5.1)]).bind fun t6=>
(some (nwP 49 6 (Tr.ofListFrom .nil [(.int .i64 0),(sv []),(sv []),(.bool false),.nilslice,.nilptr] 0) p5.2)).bind fun p7=>
(stP 6 p7.1 t6 p7.2).bind fun p8=>
(ld1 x1 p8.2).bind fun p9=>
ifK p9.1 (
(faP 0 false 1 p7.1).bind fun t10=>
(stP 1 t10 (.int .i64 1) p9.2).bind fun p11=>
(ld1 x2 p11.2).bind fun p12=>
(ldA 6 p7.1 p12.2).bind fun p13=>
(bsP 49 6 1 (Tr.ofListFrom .nil [(.int .i64 0),(sv []),(sv []),(.bool false),.nilslice,.nilptr] 0) [(0,p13.1)] p13.2).bind fun p14=>
(apP 49 6 80 p12.1 p14.1 p14.2).bind fun p15=>
(stP 1 x2 p15.1 p15.2).bind fun p16=>
(stP 1 x0 .nilslice p16.2).bind fun p17=>
some (.ret (.tuple []),p17.2)) (
(ld1 x2 p9.2).bind fun p18=>
(ldA 6 p7.1 p18.2).bind fun p19=>
(bsP 49 6 1 (Tr.ofListFrom .nil [(.int .i64 0),(sv []),(sv []),(.bool false),.nilslice,.nilptr] 0) [(0,p19.1)] p19.2).bind fun p20=>
(apP 49 6 80 p18.1 p20.1 p20.2).bind fun p21=>
(stP 1 x2 p21.1 p21.2).bind fun p22=>
(stP 1 x0 .nilslice p22.2).bind fun p23=>
some (.ret (.tuple []),p23.2))):=by kernel_rfl
def C90:Code:=Tryd.f90.body.getD .skip
def B90:D:=(qaz C90 [[],[],[],[0,1,5,6],[],[0,1,5,6],[],[0,0,1,5,6],[4],[],[],[],[]]).1
def RL90:List Nat:=cellsOf Tryd.f90.results.toList
def R90_13 (self:EV) (N:Nat) (nk:Ac->St->Rs) (ek:Nat->Ac->St->Rs) (a:Ac) (S:St):Rs:=qb8 [0,1,5,6] a fun a=>dr E0 self RL90 N (B90.r.r.r).r (mkK E0 self Tryd.f90 nk ek) a S
theorem R90_13_eq (self:EV) (N:Nat) (nk:Ac->St->Rs) (ek:Nat->Ac->St->Rs) ( v0 v1 v5 v6:V) (S:St):R90_13 self N nk ek (fr 67 [(0,v0),(1,v1),(5,v5),(6,v6)]) S =
(qa5 E0 .eql 3 false true v6 (.int .i64 0)).bind fun t15=>
(qa2 true t15).bind fun g17=>(bif g17 then some v5 else some (.tuple [])).bind fun t17=>
(qa2 true t15).bind fun g18=>(bif g18 then qa5 E0 .neq 9 false true t17 (sv [])else some (.tuple [])).bind fun t18=>
(qao t15 (some t18) (some (.bool false))).bind fun t19=>
(qa2 true t19).bind fun g21=>(bif g21 then some v5 else some (.tuple [])).bind fun t21=>
(qa2 true t19).bind fun g22=>(bif g22 then ixS t21 (.int .i64 0)else some (.tuple [])).bind fun t22=>
(qa2 true t19).bind fun g23=>callP (bif g23 then self.f 101 [t22] S else some (.ret (.tuple []),S)) fun t23 S23=>
(qa2 true t19).bind fun g24=>(bif g24 then some t23 else some (.tuple [])).bind fun t24=>
(qa2 false t24).bind fun g25=>(bif g25 then some v1 else some (.tuple [])).bind fun t25=>
(qa2 false t24).bind fun g26=>(bif g26 then some v5 else some (.tuple [])).bind fun t26=>
(qa2 false t24).bind fun g27=>(bif g27 then ixS t26 (.int .i64 0)else some (.tuple [])).bind fun t27=>
(qa2 false t24).bind fun g28=>callP (bif g28 then self.f 73 [t25,t27] S23 else some (.ret (.tuple []),S23)) fun t28 S28=>
(qa2 false t24).bind fun g29=>(bif g29 then qa5 E0 .geq 3 false true t28 (.int .i64 0)else some (.tuple [])).bind fun t29=>
(qa2 true t19).bind fun g30=>(bif g30 then qao t24 (some (.bool true)) (some t29)else some (.tuple [])).bind fun t30=>
(qao t19 (some t30) (some (.bool false))).bind fun t31=>
ifK t31 (
(qa1 v0).bind fun t34=>
(faP 1 false 1 t34).bind fun t35=>
(ld1 t35 S28).bind fun p36=>
(qa5 E0 .add 3 false false p36.1 (.int .i64 1)).bind fun t38=>
(qa1 v0).bind fun t39=>
(faP 1 false 1 t39).bind fun t40=>
(stP 1 t40 t38 p36.2).bind fun p41=>
(qak E0 9 v5 none (some (.int .i64 1)) none p41.2).bind fun p44=>
some (.ret p44.1,p44.2)) (
(qa1 v0).bind fun t47=>
(faP 1 false 1 t47).bind fun t48=>
(ld1 t48 S28).bind fun p49=>
(qa5 E0 .add 3 false false p49.1 v6).bind fun t51=>
(qa1 v0).bind fun t52=>
(faP 1 false 1 t52).bind fun t53=>
(stP 1 t53 t51 p49.2).bind fun p54=>
(qak E0 9 v5 none (some v6) none p54.2).bind fun p57=>
some (.ret p57.1,p57.2)):=by kernel_rfl
def L90_59 (self:EV) (N:Nat) (nk:Ac->St->Rs) (ek:Nat->Ac->St->Rs) (n:Nat) ( v0 v1 v5 v6:V) (S:St):Rs:=qdq [0,1,5,6] (dr E0 self RL90 N (B90.r.r.r.l.l.l)) (mkK E0 self Tryd.f90 nk ek) n (fr 67 [(0,v0),(1,v1),(5,v5),(6,v6)]) S
theorem L90_59_eq (self:EV) (N:Nat) (nk:Ac->St->Rs) (ek:Nat->Ac->St->Rs) (n:Nat) ( v0 v1 v5 v6:V) (S:St):L90_59 self N nk ek (n+1) v0 v1 v5 v6 S =
(qbw v5 S).bind fun p62=>
(qa5 E0 .lss 3 false false v6 p62.1).bind fun t63=>
(qa2 true t63).bind fun g65=>(bif g65 then some v5 else some (.tuple [])).bind fun t65=>
(qa2 true t63).bind fun g66=>(bif g66 then some v6 else some (.tuple [])).bind fun t66=>
(qa2 true t63).bind fun g67=>(bif g67 then ixS t65 t66 else some (.tuple [])).bind fun t67=>
(qa2 true t63).bind fun g68=>callP (bif g68 then self.f 100 [t67] p62.2 else some (.ret (.tuple []),p62.2)) fun t68 S68=>
(qa2 true t63).bind fun g69=>(bif g69 then some t68 else some (.tuple [])).bind fun t69=>
(qa2 false t69).bind fun g70=>(bif g70 then some v6 else some (.tuple [])).bind fun t70=>
(qa2 false t69).bind fun g71=>(bif g71 then qa5 E0 .gtr 3 false true t70 (.int .i64 0)else some (.tuple [])).bind fun t71=>
(qa2 false t69).bind fun g72=>(bif g72 then some t71 else some (.tuple [])).bind fun t72=>
(qa2 true t72).bind fun g73=>(bif g73 then some v5 else some (.tuple [])).bind fun t73=>
(qa2 true t72).bind fun g74=>(bif g74 then some v6 else some (.tuple [])).bind fun t74=>
(qa2 true t72).bind fun g75=>(bif g75 then ixS t73 t74 else some (.tuple [])).bind fun t75=>
(qa2 true t72).bind fun g76=>callP (bif g76 then self.f 101 [t75] S68 else some (.ret (.tuple []),S68)) fun t76 S76=>
(qa2 false t69).bind fun g77=>(bif g77 then qao t72 (some t76) (some (.bool false))else some (.tuple [])).bind fun t77=>
(qa2 true t63).bind fun g78=>(bif g78 then qao t69 (some (.bool true)) (some t77)else some (.tuple [])).bind fun t78=>
(qao t63 (some t78) (some (.bool false))).bind fun t79=>
ifK t79 (
(qa5 E0 .add 3 false true v6 (.int .i64 1)).bind fun t81=>
L90_59 self N nk ek n v0 v1 v5 t81 S76) (
ek 0 (fr 67 [(0,v0),(1,v1),(5,v5),(6,v6)]) S76):=by kernel_rfl
def F90 (self:EV) (N:Nat) (x0 x1:V) (S:St):Rs:=qdg E0 self N Tryd.f90 B90 [x0,x1] S
theorem F90_eq (self:EV) (N:Nat) (x0 x1:V) (S:St):F90 self N x0 x1 S =
(qa1 x0).bind fun t2=>
(faP 0 false 1 t2).bind fun t3=>
(ld1 t3 (onS S)).bind fun p4=>
(qa1 x0).bind fun t6=>
(faP 1 false 1 t6).bind fun t7=>
(ld1 t7 (onS p4.2)).bind fun p8=>
(qak E0 9 p4.1 (some p8.1) none none (onS p8.2)).bind fun p9=>
qh7 [(3,[7])] S [[],[],[],p4.2.log,[],[],[],p8.2.log,p9.2.log,[]] (onS p9.2) fun S11=>
L90_59 self N (R90_13 self N (qbu E0 self Tryd.f90) qav) (exB 0 (R90_13 self N (qbu E0 self Tryd.f90) qav) qav) N x0 x1 p9.1 (.int .i64 0) S11:=by kernel_rfl
end
noncomputable section
def C88:Code:=Tryd.f88.body.getD .skip
def B88:D:=(qaz C88 [[],[0,1,4],[],[1],[],[],[],[],[],[],[],[],[],[],[],[],[],[],[0,1],[]]).1
def RL88:List Nat:=cellsOf Tryd.f88.results.toList
def R88_0 (self:EV) (N:Nat) (nk:Ac->St->Rs) (ek:Nat->Ac->St->Rs) (a:Ac) (S:St):Rs:=qb8 [1] a fun a=>dr E0 self RL88 N (B88).r (mkK E0 self Tryd.f88 nk ek) a S
theorem R88_0_eq (self:EV) (N:Nat) (nk:Ac->St->Rs) (ek:Nat->Ac->St->Rs) ( v1:V) (S:St):R88_0 self N nk ek (fr 77 [(1,v1)]) S =
callP (self.f 25 [(.int .i64 19),v1] S) fun t2 S2=>
nk (fr 77 []) S2:=by kernel_rfl
def qkg (self:EV) (N:Nat) (nk:Ac->St->Rs) (ek:Nat->Ac->St->Rs) (n:Nat) ( v0 v1 v4:V) (S:St):Rs:=qdq [0,1,4] (dr E0 self RL88 N (B88.l.r.l.l)) (mkK E0 self Tryd.f88 nk ek) n (fr 77 [(0,v0),(1,v1),(4,v4)]) S
theorem L88_4_eq (self:EV) (N:Nat) (nk:Ac->St->Rs) (ek:Nat->Ac->St->Rs) (n:Nat) ( v0 v1 v4:V) (S:St):qkg self N nk ek (n+1) v0 v1 v4 S =
callP (self.f 24 [v0] S) fun t6 S6=>
ifK t6 (
(qa1 v0).bind fun t8=>
(faP 0 false 1 t8).bind fun t9=>
(ld1 t9 (onS S6)).bind fun p10=>
(qa1 v0).bind fun t12=>
(faP 1 false 1 t12).bind fun t13=>
(ld1 t13 (onS p10.2)).bind fun p14=>
(ixS p10.1 p14.1).bind fun t15=>
qh7 [(3,[7])] S6 [[],[],[],p10.2.log,[],[],[],p14.2.log,[],[]] (onS p14.2) fun S17=>
(qa1 v0).bind fun t19=>
(faP 1 false 1 t19).bind fun t20=>
(ld1 t20 S17).bind fun p21=>
(qa5 E0 .add 3 false true p21.1 (.int .i64 1)).bind fun t22=>
(qa1 v0).bind fun t23=>
(faP 1 false 1 t23).bind fun t24=>
(stP 1 t24 t22 p21.2).bind fun p25=>
(qa5 E0 .eql 5 false true t15 (.int .u8 92)).bind fun t27=>
ifK t27 (
(qa1 v0).bind fun t30=>
(faP 1 false 1 t30).bind fun t31=>
(ld1 t31 p25.2).bind fun p32=>
(qa5 E0 .add 3 false true p32.1 (.int .i64 1)).bind fun t33=>
(qa1 v0).bind fun t34=>
(faP 1 false 1 t34).bind fun t35=>
(stP 1 t35 t33 p32.2).bind fun p36=>
qkg self N nk ek n v0 v1 v4 p36.2) (
(qa5 E0 .eql 5 false true t15 (.int .u8 39)).bind fun t37=>
ifK t37 (
(qa1 v0).bind fun t40=>
(faP 0 false 1 t40).bind fun t41=>
(ld1 t41 (onS p25.2)).bind fun p42=>
(qa1 v0).bind fun t44=>
(faP 1 false 1 t44).bind fun t45=>
(ld1 t45 (onS p42.2)).bind fun p46=>
(qak E0 9 p42.1 (some p46.1) none none (onS p46.2)).bind fun p47=>
qlm (qas E0 (B88.l.r.l.l.r.l.r.r.r.l.r.r.r.l.l).ops) p25.2 9 [[],[],[],p42.2.log,[],[],[],p46.2.log,p47.2.log] (self.f 73 [p47.1,(.int .u8 39)] (onS p47.2)) fun t48 S48=>
qh7 [(3,[7])] p25.2 [[],[],[],p42.2.log,[],[],[],p46.2.log,p47.2.log,S48.log,[]] (onS S48) fun S50=>
(qa5 E0 .lss 3 false true t48 (.int .i64 0)).bind fun t52=>
ifK t52 (
callP (self.f 25 [(.int .i64 19),v1] S50) fun t54 S54=>
(qa1 v0).bind fun t56=>
(faP 1 false 1 t56).bind fun t57=>
(ld1 t57 S54).bind fun p58=>
(qa5 E0 .add 3 false true t48 (.int .i64 1)).bind fun t60=>
(qa5 E0 .add 3 false false p58.1 t60).bind fun t61=>
(qa1 v0).bind fun t62=>
(faP 1 false 1 t62).bind fun t63=>
(stP 1 t63 t61 p58.2).bind fun p64=>
qkg self N nk ek n v0 v1 v4 p64.2) (
(qa1 v0).bind fun t66=>
(faP 1 false 1 t66).bind fun t67=>
(ld1 t67 S50).bind fun p68=>
(qa5 E0 .add 3 false true t48 (.int .i64 1)).bind fun t70=>
(qa5 E0 .add 3 false false p68.1 t70).bind fun t71=>
(qa1 v0).bind fun t72=>
(faP 1 false 1 t72).bind fun t73=>
(stP 1 t73 t71 p68.2).bind fun p74=>
qkg self N nk ek n v0 v1 v4 p74.2)) (
(qa5 E0 .eql 5 false true t15 (.int .u8 34)).bind fun t75=>
ifK t75 (
callP (self.f 98 [v0,v1] p25.2) fun t79 S79=>
qkg self N nk ek n v0 v1 v4 S79) (
(qa5 E0 .eql 5 false true t15 (.int .u8 40)).bind fun t80=>
ifK t80 (
(qa5 E0 .add 3 false true v4 (.int .i64 1)).bind fun t83=>
qkg self N nk ek n v0 v1 t83 p25.2) (
(qa5 E0 .eql 5 false true t15 (.int .u8 41)).bind fun t85=>
ifK t85 (
(qa5 E0 .sub 3 false true v4 (.int .i64 1)).bind fun t88=>
(qa5 E0 .eql 3 false true t88 (.int .i64 0)).bind fun t91=>
ifK t91 (
some (.ret (.tuple []),p25.2)) (
qkg self N nk ek n v0 v1 t88 p25.2)) (
qkg self N nk ek n v0 v1 v4 p25.2)))))) (
ek 0 (fr 77 [(1,v1)]) S6):=by kernel_rfl
def F88 (self:EV) (N:Nat) (x0 x1:V) (S:St):Rs:=qdg E0 self N Tryd.f88 B88 [x0,x1] S
theorem F88_eq (self:EV) (N:Nat) (x0 x1:V) (S:St):F88 self N x0 x1 S =
qkg self N (R88_0 self N (qbu E0 self Tryd.f88) qav) (exB 0 (R88_0 self N (qbu E0 self Tryd.f88) qav) qav) N x0 x1 (.int .i64 1) S:=by kernel_rfl
def C98:Code:=Tryd.f98.body.getD .skip
def B98:D:=(qaz C98 [[0,1],[],[1],[],[],[],[],[0,1],[]]).1
def RL98:List Nat:=cellsOf Tryd.f98.results.toList
def R98_0 (self:EV) (N:Nat) (nk:Ac->St->Rs) (ek:Nat->Ac->St->Rs) (a:Ac) (S:St):Rs:=qb8 [1] a fun a=>dr E0 self RL98 N (B98).r (mkK E0 self Tryd.f98 nk ek) a S
theorem R98_0_eq (self:EV) (N:Nat) (nk:Ac->St->Rs) (ek:Nat->Ac->St->Rs) ( v1:V) (S:St):R98_0 self N nk ek (fr 34 [(1,v1)]) S =
callP (self.f 25 [(.int .i64 19),v1] S) fun t2 S2=>
nk (fr 34 []) S2:=by kernel_rfl
def L98_3 (self:EV) (N:Nat) (nk:Ac->St->Rs) (ek:Nat->Ac->St->Rs) (n:Nat) ( v0 v1:V) (S:St):Rs:=qdq [0,1] (dr E0 self RL98 N (B98.l.l.l)) (mkK E0 self Tryd.f98 nk ek) n (fr 34 [(0,v0),(1,v1)]) S
theorem L98_3_eq (self:EV) (N:Nat) (nk:Ac->St->Rs) (ek:Nat->Ac->St->Rs) (n:Nat) ( v0 v1:V) (S:St):L98_3 self N nk ek (n+1) v0 v1 S =
callP (self.f 24 [v0] S) fun t5 S5=>
ifK t5 (
callP (self.f 23 [v0,(sv [92])] S5) fun t7 S7=>
ifK t7 (
(qa1 v0).bind fun t10=>
(faP 1 false 1 t10).bind fun t11=>
(ld1 t11 S7).bind fun p12=>
(qa5 E0 .add 3 false true p12.1 (.int .i64 1)).bind fun t13=>
(qa1 v0).bind fun t14=>
(faP 1 false 1 t14).bind fun t15=>
(stP 1 t15 t13 p12.2).bind fun p16=>
L98_3 self N nk ek n v0 v1 p16.2) (
callP (self.f 23 [v0,(sv [34])] S7) fun t18 S18=>
ifK t18 (
some (.ret (.tuple []),S18)) (
callP (self.f 23 [v0,(sv [36,40])] S18) fun t21 S21=>
ifK t21 (
callP (self.f 88 [v0,v1] S21) fun t25 S25=>
L98_3 self N nk ek n v0 v1 S25) (
(qa1 v0).bind fun t27=>
(faP 1 false 1 t27).bind fun t28=>
(ld1 t28 S21).bind fun p29=>
(qa5 E0 .add 3 false true p29.1 (.int .i64 1)).bind fun t30=>
(qa1 v0).bind fun t31=>
(faP 1 false 1 t31).bind fun t32=>
(stP 1 t32 t30 p29.2).bind fun p33=>
L98_3 self N nk ek n v0 v1 p33.2)))) (
ek 0 (fr 34 [(1,v1)]) S5):=by kernel_rfl
def F98 (self:EV) (N:Nat) (x0 x1:V) (S:St):Rs:=qdg E0 self N Tryd.f98 B98 [x0,x1] S
theorem F98_eq (self:EV) (N:Nat) (x0 x1:V) (S:St):F98 self N x0 x1 S =
L98_3 self N (R98_0 self N (qbu E0 self Tryd.f98) qav) (exB 0 (R98_0 self N (qbu E0 self Tryd.f98) qav) qav) N x0 x1 S:=by kernel_rfl
end
noncomputable section
def C74:Code:=Tryd.f74.body.getD .skip
def B74:D:=(qaz C74 [[],[],[],[],[],[],[],[],[],[0,0,1,6],[6,7],[],[],[],[],[],[]]).1
def F74 (self:EV) (N:Nat) (x0 x1 x2:V) (S:St):Rs:=qdg E0 self N Tryd.f74 B74 [x0,x1,x2] S
theorem F74_eq (self:EV) (N:Nat) (x0 x1 x2:V) (S:St):F74 self N x0 x1 x2 S =
(some (nwP 49 6 (Tr.ofListFrom .nil [(.int .i64 0),(sv []),(sv []),(.bool false),.nilslice,.nilptr] 0) S)).bind fun p0=>
(qa1 x0).bind fun t3=>
(faP 1 false 1 t3).bind fun t4=>
(ld1 t4 p0.2).bind fun p5=>
callP (self.f 44 [x0,(sv [36,40,40])] p5.2) fun t8 S8=>
ifK t8 (
callP (self.f 25 [(.int .i64 19),p5.1] S8) fun t11 S11=>
(qa1 x0).bind fun t13=>
(faP 1 false 1 t13).bind fun t14=>
(ld1 t14 S11).bind fun p15=>
(qa5 E0 .add 3 false true p15.1 (.int .i64 1)).bind fun t16=>
(qa1 x0).bind fun t17=>
(faP 1 false 1 t17).bind fun t18=>
(stP 1 t18 t16 p15.2).bind fun p19=>
callP (self.f 90 [x0,(sv [63,35,64,42])] p19.2) fun t21 S21=>
(qa5 E0 .neq 9 false true t21 (sv [])).bind fun t24=>
ifK t24 (
callP (self.f 68 [x1] S21) fun t27 S27=>
(qab E0 49 [(0,(.int .i64 2)),(1,t21),(3,t27)]).bind fun t28=>
(stP 6 p0.1 t28 S27).bind fun p29=>
(ldrA 6 p0.1 p29.2).bind fun p31=>
some (.ret (.tuple [p31.1,(.bool true)]),p31.2)) (
(qab E0 49 []).bind fun t32=>
(stP 6 p0.1 t32 S21).bind fun p33=>
(ldrA 6 p0.1 p33.2).bind fun p35=>
some (.ret (.tuple [p35.1,(.bool false)]),p35.2))) (
callP (self.f 23 [x0,(sv [36,40])] S8) fun t37 S37=>
ifK t37 (
(qa1 x0).bind fun t40=>
(faP 1 false 1 t40).bind fun t41=>
(ld1 t41 S37).bind fun p42=>
callP (self.f 88 [x0,p5.1] p42.2) fun t46 S46=>
(qa1 x0).bind fun t48=>
(faP 0 false 1 t48).bind fun t49=>
(ld1 t49 (onS S46)).bind fun p50=>
(qa1 x0).bind fun t53=>
(faP 1 false 1 t53).bind fun t54=>
(ld1 t54 (onS p50.2)).bind fun p55=>
(qa5 E0 .sub 3 false true p55.1 (.int .i64 1)).bind fun t56=>
(qak E0 9 p50.1 (some p42.1) (some t56) none (onS p55.2)).bind fun p57=>
qlm (qas E0 (B74.r.r.l.l.r.r.r.l.r.r.l).ops) S46 12 [[],[],[],p50.2.log,[],[],[],[],p55.2.log,[],p57.2.log,[]] (self.f 68 [x1] (onS p57.2)) fun t59 S59=>
(qab E0 49 [(0,(.int .i64 3)),(1,p57.1),(3,t59)]).bind fun t60=>
(stP 6 p0.1 t60 (onS S59)).bind fun p61=>
qh7 [(3,[8,12]),(8,[12]),(10,[12])] S46 [[],[],[],p50.2.log,[],[],[],[],p55.2.log,[],p57.2.log,[],S59.log,[],p61.2.log,[]] (onS p61.2) fun S63=>
(ldrA 6 p0.1 S63).bind fun p64=>
some (.ret (.tuple [p64.1,(.bool true)]),p64.2)) (
callP (self.f 23 [x0,(sv [36,123])] S37) fun t66 S66=>
ifK t66 (
callP (self.f 89 [x0,p5.1,x1,x2] S66) fun t72 S72=>
(stP 6 p0.1 t72 S72).bind fun p73=>
(ldrA 6 p0.1 p73.2).bind fun p75=>
some (.ret (.tuple [p75.1,(.bool true)]),p75.2)) (
(qa1 x0).bind fun t77=>
(faP 1 false 1 t77).bind fun t78=>
(ld1 t78 S66).bind fun p79=>
(qa5 E0 .add 3 false true p79.1 (.int .i64 1)).bind fun t80=>
(qa1 x0).bind fun t81=>
(faP 1 false 1 t81).bind fun t82=>
(stP 1 t82 t80 p79.2).bind fun p83=>
callP (self.f 90 [x0,(sv [63,35,64,42])] p83.2) fun t85 S85=>
(qa5 E0 .neq 9 false true t85 (sv [])).bind fun t88=>
ifK t88 (
callP (self.f 68 [x1] S85) fun t91 S91=>
(qab E0 49 [(0,(.int .i64 2)),(1,t85),(3,t91)]).bind fun t92=>
(stP 6 p0.1 t92 S91).bind fun p93=>
(ldrA 6 p0.1 p93.2).bind fun p95=>
some (.ret (.tuple [p95.1,(.bool true)]),p95.2)) (
(qab E0 49 []).bind fun t96=>
(stP 6 p0.1 t96 S85).bind fun p97=>
(ldrA 6 p0.1 p97.2).bind fun p99=>
some (.ret (.tuple [p99.1,(.bool false)]),p99.2))))):=by kernel_rfl
end
end Go.Proofs.YtafbipadnnmccaaDoor.W
end
