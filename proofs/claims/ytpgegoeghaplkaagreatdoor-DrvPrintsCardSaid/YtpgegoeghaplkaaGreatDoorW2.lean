/-
  WHAT THE FUNCTIONS COME TO: each is read by the evaluator,printed,and told as a function of data,part 2 of 15 (no condition).
-/
import Derived.Test.YtpgegoeghaplkaaGreatDoorW1
noncomputable section
namespace Go.Proofs.YtpgegoeghaplkaaGreatDoor.W
open Go.Proofs.YtpgegoeghaplkaaGreatDoor.Ev Go.RowKit
section
variable {s S T U X Y:St} {α:Type} {v:V} {bs:Bs} {N:Nat}
theorem qba {α:Type} {l r:List α} {i:Nat} {y:α} (h:l.drop i=y::r):∃hlt:i<l.length,l[i]=y/\l.drop (i+1)=r/\y∈l:=by
 have hlt:i<l.length:=by
  rcases Nat.lt_or_ge i l.length with h'|h'
  . exact h'
  . rw[List.drop_eq_nil_of_le h']at h; cases h
 rw[List.drop_eq_getElem_cons hlt]at h;simp only[List.cons.injEq]at h;exact⟨hlt,h.1,h.2,h.1▸List.getElem_mem hlt⟩
theorem qau {α:Type} {l:List α} {i:Nat} (h:l.drop i=[]):l.length<=i:=List.drop_eq_nil_iff.1 h
theorem dec_lt {a b:Nat} (h:a<b):decide ((a:Int)<(b:Int))=true:=by simp; omega
theorem dec_ge {a b:Nat} (h:b<=a):decide ((a:Int)<(b:Int))=false:=by simp; omega
theorem wrap_succ {i:Nat} (h:i<9223372036854775807):IntKind.i64.wrap ((i:Int)+1)=((i+1:Nat):Int):=by
 rw[qbg (by omega) (by omega)]; omega
def AgAt (s:St) (b e z:Nat) (t:Tr V):Prop:=∃c,s.heap.get b=some (.cells e z 1 false c)/\c.get 0=some t
theorem AgAt.grew {W:Nat->Prop} {u:St} {b e z:Nat} {t:Tr V} (h:AgAt s b e z t) (hb:b<s.next) (hw:¬W b) (g:Grew W s u):AgAt u b e z t:=by
 obtain⟨c,h1,h2⟩:=h;exact⟨c,by rw[g.keep b hb hw]; exact h1,h2⟩
theorem qc7 (ho:s.on=false) (e z:Nat) (t:Tr V):AgAt (nwP e z t s).2 s.next e z t/\Grew (fun _=>False) s (nwP e z t s).2/\(nwP e z t s).2.next=s.next+1:=by
 refine⟨⟨Tr.ofListFrom .nil [t] 0,?_,by rw[Tr.get_ofList]; rfl⟩,qca ho _ _,rfl⟩;show(qae s e z [t]).heap.get s.next=_
 unfold qae;rw[qdv,iP rfl]; rfl
theorem AgAt.ldk (ho:s.on=false) {b e z:Nat} {t:Tr V} (h:AgAt s b e z t) (hz:z<big):ldK s b 0 z=some (t,s):=by
 obtain⟨c,h1,h2⟩:=h;unfold ldK;rw[h1];simp only[ble_true.2 (show 0+z<=z*1 by omega),blt_true.2 (show z*1<big by omega),Bool.and_self,cT];unfold qf3;rw[show Nat.beq z z=true from beq_true.2 rfl,Nat.zero_mod,show Nat.beq 0 0=true from rfl];simp only[Bool.and_self,cT,Nat.zero_div,h2,oB,qav ho]
theorem AgAt.ldA (ho:s.on=false) {b e z:Nat} {t:Tr V} (h:AgAt s b e z t) (hz:z<big):Ev.ldA z (.ptr b 0) s=some (.agg z t,s):=by
 show((ldK s b 0 z).bind fun p=>some (V.agg z p.1,p.2))=_;rw[h.ldk ho hz]; rfl
theorem AgAt.ldrA (ho:s.on=false) {b e z:Nat} {t:Tr V} (h:AgAt s b e z t) (hz:z<big):Ev.ldrA z (.ptr b 0) s=some (.agg z t,s):=by
 show((ldK s b 0 z).bind fun p=>some (V.agg z p.1,p.2))=_;rw[h.ldk ho hz]; rfl
theorem AgAt.stA (ho:s.on=false) {b e z:Nat} {t:Tr V} (h:AgAt s b e z t) (hz:z<big) (u:Tr V):∃w,stP z (.ptr b 0) (.agg z u) s=some (.tuple [],w)/\AgAt w b e z u/\Grew (fun x=>x=b) s w/\w.next=s.next:=by
 obtain⟨c,h1,h2⟩:=h;refine⟨s.put b (.cells e z 1 false (c.set u 0)),?_,⟨c.set u 0,by rw[qc0,iP rfl],by rw[Tr.get_set,iP rfl]⟩,qd8 b _,rfl⟩;show vu (bif Nat.beq z z&&!false then stK s b 0 z u else none)=_;rw[show Nat.beq z z=true from beq_true.2 rfl];simp only[nF,Bool.and_self,cT]
 have:stK s b 0 z u=some (s.put b (.cells e z 1 false (c.set u 0))):=by
  unfold stK;rw[h1];simp only[ble_true.2 (show 0+z<=z*1 by omega),blt_true.2 (show z*1<big by omega),Bool.and_self,nF,cT];unfold qer;rw[show Nat.beq z z=true from beq_true.2 rfl,Nat.zero_mod,show Nat.beq 0 0=true from rfl];simp only[Bool.and_self,cT,Nat.zero_div,Tr.setC_eq,oB,qav ho]
 rw[this]; rfl
theorem AgAt.ld1 (ho:s.on=false) {b e z i:Nat} {t:Tr V} {v:V} (h:AgAt s b e z t) (hz:z<big) (hi:i<z) (hv:t.get i=some v):Ev.ld1 (.ptr b i) s=some (v,s):=by
 obtain⟨c,h1,h2⟩:=h;show ld s b i=_;exact ld_of ho h1 (by omega) (by omega) (by rw[cellOf_zero hi,h2]; exact hv)
theorem AgAt.st1 (ho:s.on=false) {b e z i:Nat} {t:Tr V} (h:AgAt s b e z t) (hz:z<big) (h1z:1<z) (hi:i<z) (v:V) (hs:v.size=1) (hc:v.cells=Ev.one v) (hv:qam v=false):∃w,stP 1 (.ptr b i) v s=some (.tuple [],w)/\AgAt w b e z (t.set v i)/\Grew (fun x=>x=b) s w/\w.next=s.next:=by
 obtain⟨c,h1,h2⟩:=h;refine⟨s.put b (.cells e z 1 false (c.set (t.set v i) 0)),?_,⟨c.set (t.set v i) 0,by rw[qc0,iP rfl],by rw[Tr.get_set,iP rfl]⟩,qd8 b _,rfl⟩;show vu (bif Nat.beq v.size 1&&!qam v then stK s b i 1 v.cells else none)=_;rw[hs,hv,hc];simp only[show Nat.beq 1 1=true from rfl,nF,Bool.and_self,cT]
 have:stK s b i 1 (Ev.one v)=some (s.put b (.cells e z 1 false (c.set (t.set v i) 0))):=by
  unfold stK;rw[h1];simp only[ble_true.2 (show i+1<=z*1 by omega),blt_true.2 (show z*1<big by omega),Bool.and_self,nF,cT];unfold qer;rw[show Nat.beq 1 z=false from beq_false.2 (by omega)];simp only[Bool.false_and,cF,qk7,show(Ev.one v).get 0=some v from rfl,oB,Nat.add_zero,Nat.div_eq_of_lt hi,Nat.mod_eq_of_lt hi,h2,Tr.setC_eq,qav ho]
 rw[this]; rfl
def ixB (l:List UInt8) (c:UInt8):Int:=match l.findIdx? (fun x=>x==c)with|some i=>(i:Int)|none=>-1
theorem extV_one (l n c:Nat) (S:St):extV 1 [.str l n,.int .u8 (.ofNat c)] S=bif Nat.blt c 256 then match indexByte c l 0 n with
 | some i=>some (.val (.int .i64 (.ofNat i)) S)
 | none=>some (.val (.int .i64 (-1)) S)
 else none:=rfl
theorem callK_ext {E:Env} {self:EV} {f k:Nat} (h:E.ext.get f=some k) (x y args:List V) (S:St):qc8 E self (.fn (.func f) x y) args S=(extV k (x++args++y) S).bind fun
 | .val v s=>some (.ret v,s)
 | _=>none:=by
 show(match E.ext.get f with|some k=>_|none=>_)=_;rw[h];rfl
theorem ext81:E0.ext.get 121=some 1:=by kernel_rfl
theorem ext_ixB (s:List UInt8) (c:UInt8) (S:St):extV 1 [sv s,.int .u8 (c.toNat:Int)] S=some (.val (.int .i64 (ixB s c)) S):=by
 have h1:extV 1 [sv s,.int .u8 (c.toNat:Int)] S=bif Nat.blt c.toNat 256 then match indexByte c.toNat s.length 0 (qbh s)with
  | some i=>some (.val (.int .i64 (.ofNat i)) S)
  | none=>some (.val (.int .i64 (-1)) S)
  else none:=extV_one _ _ _ _
 rw[h1,blt_true.2 c.toNat_lt,qfd,ixB];cases s.findIdx? (fun x=>x==c)with
 | none=>rfl
 | some i=>rfl
theorem call81 (self:EV) (s:List UInt8) (c:UInt8) (S:St):qc8 E0 self (.fn (.func 121) [] []) [sv s,.int .u8 (c.toNat:Int)] S=some (.ret (.int .i64 (ixB s c)),S):=by
 have h:=callK_ext (E:=E0) (self:=self) ext81 [] [] [sv s,.int .u8 (c.toNat:Int)] S;have h2:=ext_ixB s c S;rw[List.nil_append,List.append_nil,h2]at h;exact h
theorem F64_of (self:EV) (N:Nat) (s:V) (c:UInt8) (S:St) (v:V) (h:qc8 E0 self (.fn (.func 121) [] []) [s,.int .u8 (c.toNat:Int)] S=some (.ret v,S)):F95 self N s (.int .u8 (c.toNat:Int)) S=some (.ret v,S):=by
 rw[F95_eq,h,callP_ret]
theorem F64_spec (self:EV) (N:Nat) (s:List UInt8) (c:UInt8) (S:St):F95 self N (sv s) (.int .u8 (c.toNat:Int)) S=some (.ret (.int .i64 (ixB s c)),S):=
 F64_of self N (sv s) c S (.int .i64 (ixB s c)) (call81 self s c S)
theorem und9:und E0 9=some .string:=by kernel_rfl
theorem big1:1<big:=by unfold big; decide
theorem qjc {v:V} {s:St} {n:Nat} (hv:∀l k,v≠.str l k) (h:lenV v=some n):lnS v s=some (.int .i64 (n:Int),s):=by
 unfold lnS;split
 . exact absurd rfl (hv _ _)
 . rw[h]; rfl
theorem zero3:qg7 E0 3=some (.int .i64 0):=by kernel_rfl
theorem bless_iff:∀{x y:Bs},Op.bytesLess x y=true↔x<y
 | [],[]=>by simp[Op.bytesLess]
 | _::_,[]=>by simp[Op.bytesLess]
 | [],_::_=>by simp[Op.bytesLess]
 | a::x,b::y=>by
  simp only[Op.bytesLess,Bool.or_eq_true,decide_eq_true_eq,bA,beq_iff_eq];rw[List.cons_lt_cons_iff,bless_iff (x:=x) (y:=y)]
def qgf (l:List Bs):List (Tr V):=l.map fun a=>Ev.one (sv a)
theorem qh3 (l:List Bs):(qgf l).length=l.length:=by unfold qgf; rw[lM]
theorem rowOf_get {l:List Bs} {i:Nat} {a:Bs} (h:l[i]?=some a):(qgf l)[i]?=some (Ev.one (sv a)):=by unfold qgf; rw[List.getElem?_map,h]; rfl
theorem rowOf_append (l m:List Bs):qgf (l++m)=qgf l++qgf m:=by unfold qgf; rw[List.map_append]
def qk4:V->Option Nat
 | .slice r _ _ _=>some r
 | .oslice r _ _ _=>some r
 | _=>none
def TL (S:St) (v:V) (l:List Bs):Prop:=(l=[]/\(v=.nilslice\/v=.eslice\/∃r c,v=.slice r 0 0 c))\/
 ∃r off L,RowAt S r 9 1 (qgf L)/\r<S.next/\off+l.length<=L.length/\(L.drop off).take l.length=l/\(v=.oslice r off l.length 1\/∃c,v=.slice r off l.length c)
theorem TL.nil:TL S .nilslice []:=.inl ⟨rfl,.inl rfl⟩
theorem TL.own {r:Nat} {l:List Bs} (h:RowAt S r 9 1 (qgf l)) (hr:r<S.next):TL S (.oslice r 0 l.length 1) l:=.inr ⟨r,0,l,h,hr,by omega,by simp,.inl rfl⟩
theorem TL.sli {r c:Nat} {l:List Bs} (h:RowAt S r 9 1 (qgf l)) (hr:r<S.next):TL S (.slice r 0 l.length c) l:=.inr ⟨r,0,l,h,hr,by omega,by simp,.inr ⟨c,rfl⟩⟩
theorem TL.grew {W:Nat->Prop} {v:V} {l:List Bs} (h:TL S v l) (hw:∀r e,qk4 v=some r->RowAt S r 9 1 e->¬W r) (g:Grew W S U):TL U v l:=by
 rcases h with h|⟨r,off,L,h1,h2,h3,h4,h5⟩
 . exact .inl h
 . have hb:qk4 v=some r:=by rcases h5 with rfl|⟨c,rfl⟩<;>rfl
   exact .inr ⟨r,off,L,h1.grew h2 (hw r _ hb h1) g,Nat.lt_of_lt_of_le h2 g.next,h3,h4,h5⟩
theorem TL.lenV {v:V} {l:List Bs} (h:TL S v l):Ev.lenV v=some l.length:=by
 rcases h with⟨rfl,rfl|rfl|⟨r,c,rfl⟩⟩|⟨r,off,L,h1,h2,h3,h4,rfl|⟨c,rfl⟩⟩<;>rfl
theorem TL.notStr {v:V} {l:List Bs} (h:TL S v l):∀a b,v≠.str a b:=by
 rcases h with⟨rfl,rfl|rfl|⟨r,c,rfl⟩⟩|⟨r,off,L,h1,h2,h3,h4,rfl|⟨c,rfl⟩⟩<;>intro a b e<;>cases e
theorem TL.len {v:V} {l:List Bs} (h:TL S v l) (U:St):lnS v U=some (.int .i64 (l.length:Int),U):=qjc h.notStr h.lenV
theorem TL.ix {v:V} {l:List Bs} (h:TL S v l) {i:Nat} {a:Bs} (ha:l[i]?=some a):∃r o L,ixP 1 v (.int .i64 (i:Int))=some (.ptr r o)/\RowAt S r 9 1 L/\L[o]?=some (Ev.one (sv a)):=by
 obtain⟨hi,he⟩:=List.getElem?_eq_some_iff.1 ha;rcases h with⟨rfl,_⟩|⟨r,off,L,h1,h2,h3,h4,h5⟩
 . cases hi
 . refine⟨r,off+i*1,qgf L,?_,h1,?_⟩
   . have:ixP 1 v (.int .i64 (i:Int))=bif Nat.blt i l.length then some (V.ptr r (off+i*1))else none:=by rcases h5 with rfl|⟨c,rfl⟩<;>rfl
     rw[this,blt_true.2 hi]; rfl
   . refine rowOf_get ?_
     rw[Nat.mul_one];have:((L.drop off).take l.length)[i]?=some a:=by rw[h4]; exact ha
     rw[List.getElem?_take,iP hi,List.getElem?_drop]at this;exact this
theorem TL.ld {v:V} {l:List Bs} (h:TL S v l) (ho:S.on=false) {i:Nat} {a:Bs} (ha:l[i]?=some a):∃p,ixP 1 v (.int .i64 (i:Int))=some p/\ld1 p S=some (sv a,S):=by
 obtain⟨r,o,L,h1,h2,h3⟩:=h.ix ha;exact⟨_,h1,h2.ld1 ho h3⟩
def TLo (S:St) (v:V) (l:List Bs) (N:Nat):Prop:=(l=[]/\v=.nilslice)\/∃r,v=.oslice r 0 l.length 1/\RowAt S r 9 1 (qgf l)/\r<S.next/\N<=r/\0<l.length
theorem TLo.nil {N:Nat}:TLo S .nilslice [] N:=.inl ⟨rfl,rfl⟩
theorem TLo.tl {v:V} {l:List Bs} {N:Nat} (h:TLo S v l N):TL S v l:=by
 rcases h with⟨rfl,rfl⟩|⟨r,rfl,h1,h2,_⟩
 . exact .nil
 . exact .own h1 h2
theorem TLo.grew {v:V} {l:List Bs} {N:Nat} (h:TLo S v l N) (g:Grew (fun _=>False) S U):TLo U v l N:=by
 rcases h with h|⟨r,h0,h1,h2,h3⟩
 . exact .inl h
 . exact .inr ⟨r,h0,h1.grew h2 (fun h=>h) g,Nat.lt_of_lt_of_le h2 g.next,h3⟩
theorem TLo.push (ho:S.on=false) {v:V} {l:List Bs} {N:Nat} (h:TLo S v l N) (hN:N<=S.next) (hl:l.length<100000) (a:Bs) :
 ∃y W v' U,bsP 9 1 1 (Ev.one (sv [])) [(0,sv a)] S=some (y,W)/\apP 9 1 16 v y W=some (v',U)/\TLo U v' (l++[a]) N/\Grew (fun x=>N<=x) S U:=by
 obtain⟨W,h1,h2,h3,h4⟩:=bsP_one ho 9 (Ev.one (sv [])) (qkg a);have on1:=h3.on.trans ho;have hlm:(l++[a]).length=l.length+1:=by rw[lAq]; rfl
 rcases h with⟨rfl,rfl⟩|⟨r,rfl,hr,hr2,hr3,h0⟩
 . obtain⟨U,k1,k2,k3,k4⟩:=ap1_first (B:=16) on1 h2 (by unfold qac; omega)
   exact⟨_,W,_,U,h1,k1,.inr ⟨W.next,rfl,k2,by omega,by omega,by simp⟩,(h3.trans k3).mono fun _ _ h=>h.elim⟩
 . have hrow:=hr.grew hr2 (fun h=>h) h3
   obtain⟨U,k1,k2,k3,k4⟩:=ap1_more (B:=16) on1 h2 hrow (by rw[qh3]; unfold qac; omega) (by rw[qh3]; unfold big; omega);rw[qh3]at k1;refine⟨_,W,_,U,h1,k1,.inr ⟨W.next,by rw[hlm],?_,by omega,by omega,by omega⟩,(h3.mono fun _ _ h=>h.elim).trans (k3.mono fun x _ e=>by subst e; exact hr3)⟩;rw[rowOf_append];exact k2
theorem Grew.fresh {a b c:St} {N:Nat} (h:Grew (fun _=>False) a b) (hN:a.next<=N) (k:Grew (fun x=>N<=x) b c):Grew (fun _=>False) a c:=
 ⟨Nat.le_trans h.next k.next,k.on.trans h.on,fun x hx hw=>(k.keep x (Nat.lt_of_lt_of_le hx h.next) (by omega)).trans (h.keep x hx hw)⟩
theorem qnw {α:Type} {l:List α} {i:Nat} (h:i<l.length):l.take (i+1)=l.take i++[l[i]]:=(List.take_append_getElem h).symm
theorem eqStr (c d:Bool) (a b:Bs):qa4 E0 .eql 9 c d (sv a) (sv b)=some (.bool (a==b)):=by
 rw[binV_ss];show(some (V.bool (sEq a.length (qbh a) b.length (qbh b))))=_;rw[qnl]
theorem neStr (c d:Bool) (a b:Bs):qa4 E0 .neq 9 c d (sv a) (sv b)=some (.bool (!(a==b))):=by
 rw[binV_ss];show(some (V.bool (!sEq a.length (qbh a) b.length (qbh b))))=_;rw[qnl]
theorem qbx (ho:S.on=false) {b i:Nat} {v:V} (h:ld1 (.ptr b i) S=some (v,S)) (l:List LE):ld1 (.ptr b i) (S.lg l)=some (v,S.lg (⟨b,i,i+1,false⟩::l)):=by
 have h':ld S b i=some (v,S):=h;show ld (S.lg l) b i=_;unfold ld at h' ⊢;rw[show(S.lg l).heap=S.heap from rfl];split at h'
 . rename_i e esz n ro c hb
   cases hc:(Nat.blt i (esz*n)&&Nat.blt (esz*n) big)with
   | false=>rw[hc]at h'; cases h'
   | true=>
    rw[hc]at h';simp only[cT,oI,oS,pM]at h' ⊢;obtain⟨t,h1,w,h2,rfl,_⟩:=h';exact⟨t,h1,w,h2,rfl,rfl⟩
 . cases h'
theorem TL.ldOn (ho:S.on=false) {v:V} {l:List Bs} (h:TL S v l) {i:Nat} {a:Bs} (ha:l[i]?=some a) (L:List LE):∃p r o,ixP 1 v (.int .i64 (i:Int))=some p/\ld1 p (S.lg L)=some (sv a,S.lg (⟨r,o,o+1,false⟩::L)):=by
 obtain⟨r,o,M,h1,h2,h3⟩:=h.ix ha;exact⟨_,r,o,h1,qbx ho (show ld1 (.ptr r o) S=_ from h2.ld1 ho h3) L⟩
theorem rds_of {logs:List (List LE)} (h:∀L∈logs,∀e∈L,e.w=false):rds logs=true:=by
 unfold rds;rw[List.all_eq_true];intro L hL;rw[List.all_eq_true];intro e he;rw[h L hL e he]; rfl
def icy (S:St) (b e z n:Nat) (c:Tr (Tr V)):St:=S.put b (.cells e z n true c)
theorem icy_same {b e z n:Nat} {c:Tr (Tr V)} (h:S.heap.get b=some (.cells e z n false c)) (hb:b<S.next):Fz.Same ⟨b,e,z,n,c⟩ (icy S b e z n c) S:=
 ⟨rfl,fun x hx=>by show S.heap.get x=(S.put b _).heap.get x; rw[qc0,iN hx],by show(S.put b _).heap.get b=_; rw[qc0,iP rfl],h,hb⟩
theorem meet_ne {e f:LE} (h:e.b≠f.b):meet e f=false:=by
 unfold meet;rw[show Nat.beq e.b f.b=false from by rw[Bool.eq_false_iff]; exact fun hb=>h (Nat.eq_of_beq_eq_true hb)]; rfl
theorem meet_or {e f:LE} (h:e.b≠f.b\/(e.w=false/\f.w=false)):meet e f=false:=by
 rcases h with h|⟨h1,h2⟩
 . exact meet_ne h
 . unfold meet
   rw[h1,h2]; cases Nat.beq e.b f.b<;>rfl
theorem clash1_or {e:LE}:∀{l:List LE},(∀f∈l,e.b≠f.b\/(e.w=false/\f.w=false))->qhs e l=false
 | [],_=>rfl
 | f::l,h=>by
  unfold qhs;rw[meet_or (h f (List.mem_cons_self ..))];exact clash1_or fun g hg=>h g (mO _ hg)
theorem qei:∀{a b:List LE},(∀e∈a,∀f∈b,e.b≠f.b\/(e.w=false/\f.w=false))->qdt a b=false
 | [],_,_=>rfl
 | e::a,b,h=>by
  unfold qdt;rw[clash1_or (h e (List.mem_cons_self ..))];exact qei fun g hg=>h g (mO _ hg)
theorem pairs_one {logs:List (List LE)} {i j b:Nat} {rest:List (Nat×List Nat)} (h1:∀e∈qea i logs,e.w=false\/e.b≠b) (h2:∀f∈qea j logs,f.w=false/\f.b=b) (h3:qaw logs rest=true):qaw logs ((i,[j])::rest)=true:=by
 unfold qaw
 have:qd7 (qea i logs) logs [j]=false:=by
  unfold qd7;rw[qei fun e he f hf=>?_]
  . rfl
  . obtain⟨f1,f2⟩:=h2 f hf
    rcases h1 e he with h|h
    . exact .inr ⟨h,f1⟩
    . exact .inl (by rw[f2]; exact h)
 rw[this];exact h3
theorem qjp (ho:S.on=false) (U:St) (l:List LE) (ls:List (List LE)):∃U',qbd S (U.lg l) ls=U'/\U'.heap=U.heap/\U'.next=U.next/\U'.on=false:=by
 refine⟨_,rfl,?_,?_,?_⟩<;>(unfold qbd; rw[ho]; rfl)
theorem lg_of {f:St->Option (α×St)} (h:Lg.LocP f) {a:α} (hf:f S=some (a,U)) (l:List LE):∃l',f (S.lg l)=some (a,U.lg l'):=by
 obtain⟨_,h2⟩:=h S (a,U) hf;obtain⟨t',h3,h4,h5⟩:=h2 (S.lg l) ⟨rfl,rfl⟩;refine⟨t'.log,h3.trans ?_⟩;obtain⟨hp,nx,on,lg⟩:=t';obtain⟨k1,k2⟩:=h4;simp only at k1 k2 h5;have h5':on=true:=h5;subst h5'; subst k1; subst k2;rfl
theorem lg_apP (e z B:Nat) (x y:V):Lg.LocP fun s=>apP e z B x y s:=by
 unfold apP;exact Lg.Loc.opt fun n=>Lg.Loc.opt fun m=>Lg.Loc.cond (Lg.loc_appendV _ _ _ _ _) Lg.Loc.none
theorem lg_bsP (e z n:Nat) (t:Tr V) (ps:List (Nat×V)):Lg.LocP fun s=>bsP e z n t ps s:=by
 unfold bsP;exact Lg.Loc.opt fun l=>Lg.LocP.nw (fun k=>V.slice k 0 n n) fun _=>_
theorem nw_lg (ho:s.on=false) (l:List LE) (o:O):nw (s.lg l) o=(nw s o).lg ({b:=s.next,lo:=0,hi:=big,w:=true}::l):=by
 unfold nw;rw[qav ho,qkf];rfl
theorem newCells_lg (ho:s.on=false) (l:List LE) (e z:Nat) (ts:List (Tr V)):qae (s.lg l) e z ts=(qae s e z ts).lg ({b:=s.next,lo:=0,hi:=big,w:=true}::l):=by
 unfold qae;exact nw_lg ho l _
theorem qh8 (ho:s.on=false) {n b off:Nat} {v:V} {t:St} (h:stP n (.ptr b off) v s=some (.tuple [],t)):∃l,stP n (.ptr b off) v (s.lg [])=some (.tuple [],t.lg l):=by
 have h':vu (bif Nat.beq v.size n&&!qam v then stK s b off n v.cells else none)=some (.tuple [],t):=h;show ∃l,vu (bif Nat.beq v.size n&&!qam v then stK (s.lg []) b off n v.cells else none)=some (.tuple [],t.lg l);cases hc:(Nat.beq v.size n&&!qam v)with
 | false=>rw[hc]at h'; cases h'
 | true=>
  rw[hc]at h';simp only[cT]at h' ⊢;unfold vu at h' ⊢;simp only[oI,oS,pM,true_and]at h';obtain⟨u,hu,rfl⟩:=h';obtain⟨_,l,hl⟩:=stK_lg ho hu [];exact⟨l,by rw[hl]; rfl⟩
def stt (S:St):Option (List LE)->St
 | none=>S
 | some l=>S.lg l
theorem und5:und E0 5=some (.int .u8):=by kernel_rfl
def kvB (kv:List (Int×V)):List (V×V):=kv.map fun p=>(.int .u8 p.1,p.2)
def esKV (es:List ME):List (V×V):=es.map fun e=>(e.k,e.v)
def MapOk (es:List ME) (c:Nat) (kv:List (V×V)):Prop:=esKV es=kv/\qg4 0 es=true/\qdn es 0<=c
def MapAt (S:St) (r:Nat) (kv:List (V×V)):Prop:=∃es clock,S.heap.get r=some (.map es clock)/\MapOk es clock kv
theorem ql4:∀(es:List ME) (m c:Nat) (k v:V),qg4 m es=true->qdn es m<=c->qg4 m (es++[{k:=k,v:=v,born:=c}])=true/\qdn (es++[{k:=k,v:=v,born:=c}]) m=c+1
 | [],m,c,k,v,_,h=>by
  unfold qdn at h;refine⟨?_,rfl⟩;show(Nat.ble m c&&true)=true;rw[ble_true.2 h]; rfl
 | e::es,m,c,k,v,h1,h2=>by
  unfold qg4 at h1;unfold qdn at h2;simp only[bA]at h1;obtain⟨q1,q2⟩:=ql4 es (e.born+1) c k v h1.2 h2;rw[List.cons_append];unfold qg4 qdn;exact⟨by rw[h1.1,q1]; rfl,q2⟩
theorem qnu (k v:V):∀(i:Nat) (es:List ME) (m:Nat),qg4 m (qh7 i k v es)=qg4 m es/\qdn (qh7 i k v es) m=qdn es m
 | _,[],_=>⟨rfl,rfl⟩
 | 0,e::es,m=>⟨rfl,rfl⟩
 | i+1,e::es,m=>by
  obtain⟨h1,h2⟩:=qnu k v i es (e.born+1);refine⟨?_,h2⟩;show(Nat.ble m e.born&&qg4 (e.born+1) (qh7 i k v es))=_;rw[h1]; rfl
theorem MapOk.push {es:List ME} {c:Nat} {kv kv':List (V×V)} (h:MapOk es c kv) (k v:V) (e:esKV (es++[{k:=k,v:=v,born:=c}])=kv'):MapOk (es++[{k:=k,v:=v,born:=c}]) (c+1) kv':=
 let ⟨q1,q2⟩:=ql4 es 0 c k v h.2.1 h.2.2
 ⟨e,q1,by rw[q2]; exact lR _⟩
theorem MapOk.set {es:List ME} {c:Nat} {kv kv':List (V×V)} (h:MapOk es c kv) (i:Nat) (k v:V) (e:esKV (qh7 i k v es)=kv'):MapOk (qh7 i k v es) c kv':=
 let ⟨q1,q2⟩:=qnu k v i es 0
 ⟨e,q1.trans h.2.1,by rw[q2]; exact h.2.2⟩
theorem MapOk.new:MapOk [] 0 []:=⟨rfl,rfl,lR _⟩
def lkI (a:Int):List (Int×V)->Option V
 | []=>none
 | p::l=>if a=p.1 then some p.2 else lkI a l
def ixI (a:Int):List (Int×V)->Nat
 | []=>0
 | p::l=>if a=p.1 then 0 else ixI a l+1
theorem mfind_u8 (a:Int):∀(kv:List (Int×V)) (es:List ME) (i:Nat),esKV es=kvB kv->qjf (.int .u8 a) es i=some ((lkI a kv).map fun v=>(i+ixI a kv,v))
 | [],es,i,h=>by
  cases es with
  | nil=>rfl
  | cons e es=>simp[esKV,kvB]at h
 | p::kv,[],i,h=>by simp[esKV,kvB]at h
 | p::kv,e::es,i,h=>by
  simp only[esKV,kvB,List.map_cons,List.cons.injEq,pM]at h;obtain⟨⟨h1,h2⟩,h3⟩:=h;rw[qjf,h1];simp only[qc5,cT,qgr];unfold lkI ixI;by_cases hc:a=p.1
  . rw[iP hc,iP hc,show(a==p.1)=true by simp[hc],cT,h2]; rfl
  . rw[iN hc,iN hc,show(a==p.1)=false from beq_false_of_ne hc,cF,mfind_u8 a kv es (i+1) h3]
    cases lkI a kv with
    | none=>rfl
    | some v=>simp only[Option.map_some,show i+1+ixI a kv=i+(ixI a kv+1) by omega]
theorem getO_stt (ho:S.on=false) {r:Nat} {o:O} (h:S.heap.get r=some o) (m:Option (List LE)):qgq (stt S m) r=some (o,stt S (m.map fun l=>⟨r,0,big,false⟩::l)):=by
 cases m with
 | none=>exact qj3 ho h
 | some l=>
  show qgq (S.lg l) r=_;unfold qgq;rw[show(S.lg l).heap.get r=some o from h];rfl
theorem setO_stt (ho:S.on=false) (r:Nat) (o:O) (m:Option (List LE)):setO (stt S m) r o=stt (S.put r o) (m.map fun l=>⟨r,0,big,true⟩::l):=by
 cases m with
 | none=>exact qhn ho r o
 | some l=>rfl
def setKI (a:Int) (v:V):List (Int×V)->List (Int×V)
 | []=>[(a,v)]
 | p::l=>if a=p.1 then(a,v)::l else p::setKI a v l
theorem setME_u8 (a:Int) (v:V):∀(kv:List (Int×V)) (es:List ME),esKV es=kvB kv->∀w,lkI a kv=some w->esKV (qh7 (ixI a kv) (.int .u8 a) v es)=kvB (setKI a v kv)
 | [],es,h,w,hw=>by simp[lkI]at hw
 | p::kv,[],h,w,hw=>by simp[esKV,kvB]at h
 | p::kv,e::es,h,w,hw=>by
  simp only[esKV,kvB,List.map_cons,List.cons.injEq,pM]at h;obtain⟨⟨h1,h2⟩,h3⟩:=h;unfold ixI setKI;unfold lkI at hw;by_cases hc:a=p.1
  . rw[iP hc,iP hc]
    show(V.int .u8 a,v)::esKV es=_;rw[show esKV es=kvB kv from h3]; rfl
  . rw[iN hc,iN hc]
    rw[iN hc]at hw;unfold qh7;rw[show Nat.beq (ixI a kv+1) 0=false from rfl,cF,Nat.add_sub_cancel];show(e.k,e.v)::esKV _=(V.int .u8 p.1,p.2)::kvB _;rw[h1,h2,setME_u8 a v kv es h3 w hw]
theorem setKI_none (a:Int) (v:V):∀kv,lkI a kv=none->setKI a v kv=kv++[(a,v)]
 | [],_=>rfl
 | p::kv,h=>by
  unfold lkI at h;unfold setKI;by_cases hc:a=p.1
  . rw[iP hc]at h; cases h
  . rw[iN hc]at h ⊢
    rw[setKI_none a v kv h]; rfl
theorem stt_map2 (T:St) (m:Option (List LE)) (f g:List LE->List LE):stt T ((m.map f).map g)=stt T (m.map fun l=>g (f l)):=by cases m<;>rfl
theorem upd_u8 (ho:S.on=false) {t et:TypeId} (ht:und E0 t=some (.map 5 et)) {r:Nat} {kv:List (Int×V)} (h:MapAt S r (kvB kv)) (a:Int) (v:V):∃es c,MapOk es c (kvB (setKI a v kv))/\∀m,qco E0 t (.map r) (.int .u8 a) v (stt S m)=some (stt (S.put r (.map es c)) (m.map fun l=>⟨r,0,big,true⟩::⟨r,0,big,false⟩::l)):=by
 obtain⟨es,c,h1,hok⟩:=h;have h2:=hok.1
 have hu:∀m,qco E0 t (.map r) (.int .u8 a) v (stt S m)=(qjf (.int .u8 a) es 0).bind fun
  | some (i,_)=>some (setO (stt S (m.map fun l=>⟨r,0,big,false⟩::l)) r (.map (qh7 i (.int .u8 a) v es) c))
  | none=>some (setO (stt S (m.map fun l=>⟨r,0,big,false⟩::l)) r (.map (es++[{k:=.int .u8 a,v:=v,born:=c}]) (c+1))):=fun m=>by
  unfold qco;rw[ht,oB];simp only;rw[und5,oB];simp only[qjb,cT];rw[getO_stt ho h1 m,oB];rfl
 rw[mfind_u8 a kv es 0 h2]at hu;cases hl:lkI a kv with
 | none=>
  refine⟨es++[{k:=.int .u8 a,v:=v,born:=c}],c+1,hok.push _ _ ?_,fun m=>?_⟩
  . rw[setKI_none a v kv hl]
    unfold esKV kvB at h2 ⊢;rw[List.map_append,List.map_append,h2]; rfl
  . rw[hu m,hl]
    show some (setO _ _ _)=_;rw[setO_stt ho,stt_map2]
 | some w=>
  refine⟨qh7 (ixI a kv) (.int .u8 a) v es,c,hok.set _ _ _ (setME_u8 a v kv es h2 w hl),fun m=>?_⟩;rw[hu m,hl];show some (setO _ _ (.map (qh7 (0+ixI a kv) _ _ _) _))=_;rw[setO_stt ho,Nat.zero_add,stt_map2]
def ltrs:Bs:=[48,49,50,51,52,53,54,55,56,57,97,98,99,100,102,103,104,105,106,107,108,109,110,112,113,114,115,118,119,120,121,122]
theorem qej:ltrs.length=32:=rfl
def isH (h:Bs):Bool:=decide (h.length=32)&&h.all fun c=>ltrs.contains c
theorem und82:und E0 80=some (.map 5 3):=by kernel_rfl
theorem qds (a b:Nat):qa4 E0 .lss 3 false false (.int .i64 (a:Int)) (.int .i64 (b:Int))=some (.bool (decide (a<b))):=by
 rw[binV_ii,intsV_lss]
 congr 2
 simp
theorem qc1 {i:Nat} (h:i<9223372036854775807):qa4 E0 .add 3 false true (.int .i64 (i:Int)) (.int .i64 1)=some (.int .i64 ((i+1:Nat):Int)):=by
 rw[binV_ii,intsV_add,wrap_succ h]
theorem look_u8t (ho:S.on=false) {t et:TypeId} {z:V} (ht:und E0 t=some (.map 5 et)) (hz:qg7 E0 et=some z) {r:Nat} {kv:List (Int×V)} (h:MapAt S r (kvB kv)) (a:Int) :
 qe0 E0 t (.map r) (.int .u8 a) true S=some (.tuple [(lkI a kv).getD z,.bool (lkI a kv).isSome],S):=by
 obtain⟨es,c,h1,h2,_⟩:=h;unfold qe0;rw[ht,oB];simp only;rw[und5,oB];simp only[qjb,cT];have hg:=getO_stt ho h1 none;rw[show stt S none=S from rfl]at hg;rw[hg,oB];simp only;rw[oB];dsimp only;rw[mfind_u8 a kv es 0 h2,oB];cases lkI a kv with
 | none=>simp only[Option.map_none]; rw[hz]; rfl
 | some v=>rfl
theorem lkI_setI (i:Int) (w:V) (j:Int):∀kv,lkI j (setKI i w kv)=if j=i then some w else lkI j kv
 | []=>by show(if j=i then some w else none)=_; rfl
 | p::kv=>by
  unfold setKI;by_cases hc:i=p.1
  . rw[iP hc]
    show(if j=i then some w else lkI j kv)=if j=i then some w else if j=p.1 then some p.2 else lkI j kv
    by_cases hj:j=i
    . rw[iP hj,iP hj]
    . rw[iN hj,iN hj,iN (fun e=>hj (e.trans hc.symm))]
  . rw[iN hc]
    show(if j=p.1 then some p.2 else lkI j (setKI i w kv))=if j=i then some w else if j=p.1 then some p.2 else lkI j kv
    rw[lkI_setI i w j kv];by_cases hj:j=p.1
    . rw[iP hj,iP hj,iN (fun e=>hc (e.symm.trans hj))]
    . rw[iN hj,iN hj]
def Keys (S:St) (r:Nat) (l:Bs):Prop:=r<S.next/\∃kv,MapAt S r (kvB kv)/\∀a:UInt8,(lkI (a.toNat:Int) kv).isSome=l.contains a
theorem Keys.put {r:Nat} {l:Bs} (h:Keys S r l) (ho:S.on=false) (c:UInt8) (v:V):∃U,vu (qco E0 80 (.map r) (.int .u8 (c.toNat:Int)) v S)=some (.tuple [],U)/\Keys U r (l++[c])/\Grew (fun x=>x=r) S U:=by
 obtain⟨h1,kv,h2,h3⟩:=h;obtain⟨es,k,k1,k2⟩:=upd_u8 ho und82 h2 (c.toNat:Int) v;have hu:=k2 none;refine⟨S.put r (.map es k),?_,⟨h1,setKI (c.toNat:Int) v kv,⟨es,k,by rw[qc0,iP rfl],k1⟩,fun a=>?_⟩,qd8 _ _⟩
 . rw[show qco E0 80 (.map r) (.int .u8 (c.toNat:Int)) v S=_ from hu]; rfl
 . rw[lkI_setI]
   by_cases e:a=c
   . subst e; simp
   . have:¬((a.toNat:Int)=(c.toNat:Int)):=fun q=>e (UInt8.toNat_inj.1 (Int.ofNat_inj.1 q))
     rw[iN this,h3 a];simp[List.contains_iff_mem,e]
theorem L56_spec {self:EV} {N:Nat} (nk:Ac->St->Rs) (ek:Nat->Ac->St->Rs) {r:Nat}:∀(k i n:Nat) (S:St),S.on=false->i+k=32->k<n->Keys S r (ltrs.take i)->
 ∃U,L65_7 self N nk ek n (.map r) (.int .i64 (i:Int)) S=ek 0 (fr 13 [(1,.map r)]) U/\Keys U r ltrs/\Grew (fun x=>x=r) S U
 | _,_,0,_,_,_,hn,_=>by omega
 | 0,i,n+1,S,ho,hi,_,hK=>by
  refine⟨S,?_,?_,Grew.refl _ _⟩
  . rw[L65_7_eq,show V.int .i64 32=.int .i64 ((32:Nat):Int)from rfl,binV_ii,intsV_lss,dec_ge (by omega),oB,ifK_bool,cF]
  . rwa [List.take_of_length_le (by rw[qej]; omega)]at hK
 | k+1,i,n+1,S,ho,hi,hn,hK=>by
  have hl:i<ltrs.length:=by rw[qej]; omega
  obtain⟨U1,a1,a2,a3⟩:=hK.put ho ltrs[i] (.int .i64 (i:Int));rw[<- qnw hl]at a2;obtain⟨U,b1,b2,b3⟩:=L56_spec (self:=self) (N:=N) nk ek k (i+1) n U1 (a3.on.trans ho) (by omega) (by omega) a2;refine⟨U,?_,b2,a3.trans b3⟩;rw[L65_7_eq,show V.int .i64 32=.int .i64 ((32:Nat):Int)from rfl,binV_ii,intsV_lss,dec_lt (by omega),oB,ifK_bool,cT];have hx:ixS (sv [48,49,50,51,52,53,54,55,56,57,97,98,99,100,102,103,104,105,106,107,108,109,110,112,113,114,115,118,119,120,121,122]) (.int .i64 (i:Int))=some (.int .u8 (ltrs[i].toNat:Int)):=qci ltrs .i64 i hl;rw[hx,oB,a1,oB];dsimp only;rw[qc1 (by omega),oB,b1]
theorem L30_spec {self:EV} {N:Nat} (nk:Ac->St->Rs) (ek:Nat->Ac->St->Rs) {r:Nat} (h:Bs) (hh:h.length<9223372036854775808) (hK:Keys S r ltrs) (ho:S.on=false):∀(q:Bs) (i n:Nat),h.drop i=q->q.length<n->
 L34_11 self N nk ek n (sv h) (.map r) (.int .i64 (h.length:Int)) (.int .i64 (i:Int)) S=if q.all (fun c=>ltrs.contains c)then ek 0 (fr 27 [(0,sv h)]) S else some (.ret (.bool false),S)
 | _,_,0,_,hn=>by omega
 | [],i,n+1,hi,_=>by
  rw[L34_11_eq,qds,dF (Nat.not_lt.2 (qau hi)),oB,ifK_bool,cF];rfl
 | c::q,i,n+1,hi,hn=>by
  obtain⟨hlt,hc,hr,_⟩:=qba hi;have ih:=L30_spec (self:=self) (N:=N) nk ek h hh hK ho q (i+1) n hr (by simpa using hn);obtain⟨h1,kv,h2,h3⟩:=hK;rw[L34_11_eq,qds,dT hlt,oB,ifK_bool,cT,qci h .i64 i hlt,oB,look_u8t ho und82 zero3 h2,oB];dsimp only;rw[hc,h3 c];rw[show ∀a b,qab (.tuple [a,b]) 0=some a from fun _ _=>rfl,oB,show ∀a b,qab (.tuple [a,b]) 1=some b from fun _ _=>rfl,oB,unV_not,oB,ifK_bool,List.all_cons];cases ltrs.contains c with
  | false=>rfl
  | true=>
   rw[Bool.not_true,cF,qc1 (by omega),oB,ih,Bool.true_and]
def numb:Nat->List V->List (Nat×V)
 | _,[]=>[]
 | i,v::l=>(i,v)::numb (i+1) l
theorem fillE_numb (n:Nat):∀(vs:List V) (i:Nat) (c:Tr (Tr V)),(∀v∈vs,OneV v)->i+vs.length<=n->∃c',qgd n 1 c (numb i vs)=some c'/\∀j,(∀v,i<=j->vs[j-i]?=some v->c'.get j=some (Ev.one v))/\(j<i->c'.get j=c.get j)
 | [],i,c,_,_=>⟨c,rfl,fun j=>⟨fun v _ h=>by simp at h,fun _=>rfl⟩⟩
 | v::vs,i,c,hv,hn=>by
  have h1:=hv v (List.mem_cons_self ..);rw[List.length_cons]at hn;obtain⟨c',h2,h3⟩:=fillE_numb n vs (i+1) (c.set (Ev.one v) i) (fun w hw=>hv w (mO _ hw)) (by omega);refine⟨c',?_,fun j=>⟨fun w hj hw=>?_,fun hj=>?_⟩⟩
  . show qgd n 1 c ((i,v)::numb (i+1) vs)=_
    unfold qgd;rw[h1.size,h1.tup,h1.cells,show Nat.blt i n=true from blt_true.2 (by omega)];simp only[Nat.beq_refl,nF,Bool.and_self,cT,Tr.setC_eq];exact h2
  . by_cases e:j=i
    . subst e
      rw[Nat.sub_self]at hw;simp only[List.getElem?_cons_zero,oS]at hw;rw[(h3 j).2 (by omega),Tr.get_set,iP rfl,hw]
    . refine(h3 j).1 w (by omega) ?_
      rw[show j-i=(j-(i+1))+1 by omega,List.getElem?_cons_succ]at hw;exact hw
  . rw[(h3 j).2 (by omega),Tr.get_set,iN (by omega)]
theorem qe5 (ho:S.on=false) (e:Nat) (z:Tr V) (vs:List V) (hv:∀v∈vs,OneV v) (hf:vs.length<big):∃U,(∀m,bsP e 1 vs.length z (numb 0 vs) (stt S m)=some (.slice S.next 0 vs.length vs.length,stt U (m.map fun l=>⟨S.next,0,big,true⟩::l)))/\RowAt U S.next e 1 (vs.map Ev.one)/\Grew (fun _=>False) S U/\U.next=S.next+1:=by
 obtain⟨c,h1,h2⟩:=fillE_numb vs.length vs 0 (Tr.tab vs.length vs.length fun _=>z) hv (by omega);refine⟨nw S (.cells e 1 vs.length false c),fun m=>?_,?_,qca ho _ _,rfl⟩
 . unfold bsP
   rw[h1,oB];cases m with
   | none=>rfl
   | some l=>
    show some (V.slice S.next 0 vs.length vs.length,nw (S.lg l) _)=_;rw[nw_lg ho]; rfl
 . refine qe8 ho (by omega) (by rw[lM]) (by omega) fun i t h=>?_
   rw[List.getElem?_map]at h;cases hg:vs[i]? with
   | none=>rw[hg]at h; cases h
   | some v=>
    rw[hg]at h;simp only[Option.map_some,oS]at h;rw[<- h];exact(h2 i).1 v (Nat.zero_le _) hg
theorem qc6 (c d:Bool) {a b:Bs} (h:a.length+b.length<4611686018427387904):qa4 E0 .add 9 c d (sv a) (sv b)=some (sv (a++b)):=by
 rw[binV_ss,strOp_add _ _ h]
theorem AgAt.ldOn {b e z:Nat} {t:Tr V} (h:AgAt S b e z t) (hz:z<big) (l:List LE):Ev.ldA z (.ptr b 0) (S.lg l)=some (.agg z t,S.lg (⟨b,0,0+z,false⟩::l)):=by
 obtain⟨c,h1,h2⟩:=h;show((ldK (S.lg l) b 0 z).bind fun p=>some (V.agg z p.1,p.2))=_;unfold ldK;rw[show(S.lg l).heap.get b=_ from h1];simp only[ble_true.2 (show 0+z<=z*1 by omega),blt_true.2 (show z*1<big by omega),Bool.and_self,cT];unfold qf3;rw[show Nat.beq z z=true from beq_true.2 rfl,Nat.zero_mod,show Nat.beq 0 0=true from rfl];simp only[Bool.and_self,cT,Nat.zero_div,h2,oB];rfl
theorem geqStr (c d:Bool) (a b:Bs):qa4 E0 .geq 9 c d (sv a) (sv b)=some (.bool (!Op.bytesLess a b)):=by rw[binV_ss,strOp_geq]
theorem ixP_sl (r n i:Nat) (h:i<n):ixP 1 (.slice r 0 n n) (.int .i64 (i:Int))=some (.ptr r i):=by
 have h0:ixP 1 (.slice r 0 n n) (.int .i64 (i:Int))=bif Nat.blt i n then some (.ptr r (0+i*1))else none:=rfl;rw[h0,blt_true.2 h,cT,Nat.mul_one,Nat.zero_add]
theorem AgAt.st_one (ho:s.on=false) {b e:Nat} {t:Tr V} (h:AgAt s b e 1 t) (v:V) (hs:v.size=1) (hc:v.cells=Ev.one v) (hv:qam v=false):∃w,stP 1 (.ptr b 0) v s=some (.tuple [],w)/\AgAt w b e 1 (Ev.one v)/\Grew (fun x=>x=b) s w/\w.next=s.next:=by
 obtain⟨w,h1,h2,h3,h4⟩:=h.stA ho big1 (Ev.one v);refine⟨w,?_,h2,h3,h4⟩;have e1:stP 1 (.ptr b 0) (.agg 1 (Ev.one v)) s=vu (stK s b 0 1 (Ev.one v)):=rfl;have e2:stP 1 (.ptr b 0) v s=vu (bif Nat.beq v.size 1&&!qam v then stK s b 0 1 v.cells else none):=rfl;rw[e2,hs,hc,hv,<- h1,e1];rfl
theorem ap_first_lg (ho:s.on=false) (l0:List LE) {b:Nat} {t:Tr V} (h:RowAt s b 41 2 [t]):∃u l,apP 41 2 32 .nilslice (.slice b 0 1 1) (s.lg l0)=some (.oslice s.next 0 1 2,u.lg l)/\RowAt u s.next 41 2 [t]/\Grew (fun _=>False) s u/\u.next=s.next+1:=by
 have hld:=h.ldN ho 1 0 (by simp);simp only[Nat.zero_mul,List.drop_zero]at hld;obtain⟨_,l1,h1⟩:=ldN_lg ho b 2 1 0 hld l0;refine⟨qae s 41 2 [t],{b:=s.next,lo:=0,hi:=big,w:=true}::l1,?_,qd6 ho (by omega) (by unfold big; simp),qca ho _ _,rfl⟩;unfold apP;simp only[lenV,oB,show Nat.blt ((0+1)*(32+2+1)) qac=true from rfl,cT];unfold qc3 qbc;simp only[h1,oB,show Nat.beq 1 0=false from rfl,cF];rw[newCells_lg ho];rfl
theorem ap_more_lg (ho:s.on=false) (l0:List LE) {b r:Nat} {t:Tr V} {l:List (Tr V)} (h:RowAt s b 41 2 [t]) (hr:RowAt s r 41 2 l) (hl:l.length<=3000):∃u l',apP 41 2 32 (.oslice r 0 l.length 2) (.slice b 0 1 1) (s.lg l0)=some (.oslice s.next 0 (l.length+1) 2,u.lg l')/\RowAt u s.next 41 2 (l++[t])/\Grew (fun x=>x=r) s u/\u.next=s.next+1:=by
 obtain⟨c,hc1,hc2⟩:=hr.row;have hfit:=hr.fit;have hld:=h.ldN ho 1 0 (by simp);simp only[Nat.zero_mul,List.drop_zero]at hld;obtain⟨_,l1,h1⟩:=ldN_lg ho b 2 1 0 hld l0;refine⟨nw (s.put r .dead) (.cells 41 2 (l.length+1) false (c.set t l.length)),({b:=s.next,lo:=0,hi:=big,w:=true}::{b:=r,lo:=0,hi:=big,w:=true}::{b:=r,lo:=big-1,hi:=big,w:=false}::l1),?_,?_,?_,rfl⟩
 . unfold apP
   have hm:Nat.blt ((l.length+1)*(32+2+1)) qac=true:=by rw[blt_true]; unfold qac; omega
   simp only[lenV,oB,hm,cT];unfold qc3 qbc;simp only[h1,oB,show Nat.beq 2 2=true from rfl,cT];unfold qg3;rw[show(s.lg l1).heap.get r=_ from hc1]
   have hb:Nat.ble (0+(l.length+1)*2) (2*l.length)=false:=by
    cases hh:Nat.ble (0+(l.length+1)*2) (2*l.length)with
    | false=>rfl
    | true=>rw[ble_true]at hh; omega
   simp only[blt_true.2 hfit,cT,oB,qkf,hb,cF];unfold qge;rw[show(s.lg ({b:=r,lo:=big-1,hi:=big,w:=false}::l1)).heap.get r=_ from hc1];simp only[show Nat.beq 41 41=true from rfl,Bool.not_true,Bool.or_self,cF,show Nat.beq 2 2=true from rfl,show Nat.beq 0 0=true from rfl,Nat.beq_refl,blt_true.2 hfit,Bool.and_self,cT];rw[show List.take 1 [t]=[t]from rfl];unfold addLC addLC;rw[Tr.setC_eq];unfold setO;rw[qkf,put_lg,nw_lg (s:=s.put r .dead) ho];rfl
 . have hnx:(s.put r .dead).next=s.next:=rfl
   have:=qe8 (s:=s.put r .dead) (e:=41) (z:=2) (n:=l.length+1) (c:=c.set t l.length) (l:=l++[t]) ho (by omega) (by simp) (by unfold big; omega) fun i u h=>by
    rw[Tr.get_set];by_cases hi:i=l.length
    . subst hi
      rw[iP rfl];simpa using h
    . rw[iN hi]
      have hlt:=(List.getElem?_eq_some_iff.1 h).1;rw[lAq,List.length_singleton]at hlt;rw[List.getElem?_append_left (by omega)]at h;exact hc2 i u h
   exact this
 . exact⟨by show s.next<=s.next+1; omega,(nw_on (s:=s.put r .dead) ho _).trans ho.symm,fun x hx hw=>by
    rw[qdv,iN (by show x≠s.next; omega),qc0,iN hw]⟩
end
end Go.Proofs.YtpgegoeghaplkaaGreatDoor.W
end
