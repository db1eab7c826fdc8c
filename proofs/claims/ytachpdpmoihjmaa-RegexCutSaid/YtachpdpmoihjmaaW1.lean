/-
  WHAT THE FUNCTIONS COME TO: each is read by the evaluator,printed,and told as a function of data,part 1 of 12 (no condition).
-/
import Derived.Test.YtachpdpmoihjmaaEv3
import Derived.Test.YtachpdpmoihjmaaProg
import Derived.KernelRfl
namespace Go.Proofs.Ytachpdpmoihjmaa.W
open Go.Proofs.Ytachpdpmoihjmaa.Ev
structure AS where
 p:UInt8->Bool
 kind:Nat
 to_:Nat
def qch (s:AS) (n at_ size:Nat):List Nat:=
 if s.kind=1 then(if 0<at_ then []else [n+1])
 else if s.kind=2 then(if at_<size then []else [n+1])
 else if s.kind=3 then [n+1,s.to_]
 else if s.kind=4 then [s.to_]
 else if s.kind=0 then []
 else if s.kind=6 then []
 else [n+1]
def gon (L:List AS) (n at_ size:Nat):List Nat:=match L[n]? with|none=>[]|some s=>qch s n at_ size
def tak (L:List AS) (n:Nat) (c:UInt8):Bool:=match L[n]? with|none=>false|some s=>decide (s.kind=0)&&s.p c
structure WF (L:List AS):Prop where
 pos:0<L.length
 last:∀(n:Nat) (s:AS),L[n]?=some s->(s.kind=6↔n+1=L.length)
 to_:∀(n:Nat) (s:AS),L[n]?=some s->s.kind=3\/s.kind=4->s.to_<L.length
theorem WF.gon {L:List AS} (h:WF L) {n at_ size k:Nat} (hk:k∈gon L n at_ size):n<L.length/\k<L.length:=by
 unfold W.gon at hk;cases hs:L[n]? with
 | none=>rw[hs]at hk; cases hk
 | some s=>
  rw[hs]at hk;have hn:=(List.getElem?_eq_some_iff.1 hs).1;have hl:=h.last n s hs;have ht:=h.to_ n s hs;refine⟨hn,?_⟩
  have hne:s.kind≠6->n+1<L.length:=fun e=>by
   rcases Nat.lt_or_ge (n+1) L.length with h1|h1
   . exact h1
   . exact absurd (hl.2 (by omega)) e
  simp only[qch]at hk;split at hk
  . split at hk
    . cases hk
    . rw[List.mem_singleton.1 hk]; exact hne (by omega)
  split at hk
  . split at hk
    . cases hk
    . rw[List.mem_singleton.1 hk]; exact hne (by omega)
  split at hk
  . rcases List.mem_cons.1 hk with h1|h1
    . rw[h1]; exact hne (by omega)
    . rw[List.mem_singleton.1 h1]; exact ht (.inl (by assumption))
  split at hk
  . rw[List.mem_singleton.1 hk]; exact ht (.inr (by assumption))
  split at hk
  . cases hk
  split at hk
  . cases hk
  . rw[List.mem_singleton.1 hk]; exact hne (by assumption)
theorem WF.tak {L:List AS} (h:WF L) {n:Nat} {c:UInt8} (hk:tak L n c=true):n+1<L.length:=by
 unfold W.tak at hk;cases hs:L[n]? with
 | none=>rw[hs]at hk; cases hk
 | some s=>
  rw[hs]at hk;simp only[bA,decide_eq_true_eq]at hk;have hn:=(List.getElem?_eq_some_iff.1 hs).1;rcases Nat.lt_or_ge (n+1) L.length with h1|h1
  . exact h1
  . have:=(h.last n s hs).2 (by omega)
    omega
def gd (F:List Int) (n:Nat):Int:=F.getD n (-1)
theorem gd_set (F:List Int) (n m:Nat) (b:Int) (hn:n<F.length):gd (F.set n b) m=if m=n then b else gd F m:=by
 unfold gd;rw[List.getD_eq_getElem?_getD,List.getD_eq_getElem?_getD,List.getElem?_set];by_cases h:n=m
 . subst h; rw[iP rfl,iP rfl,iP hn]; rfl
 . rw[iN h,iN (fun e=>h e.symm)]
theorem gd_out {F:List Int} {n:Nat} (h:F.length<=n):gd F n=-1:=by
 unfold gd;rw[List.getD_eq_getElem?_getD,List.getElem?_eq_none h]; rfl
def okF (F:List Int) (n:Nat) (b:Int):Prop:=0<=gd F n/\gd F n<=b
instance (F:List Int) (n:Nat) (b:Int):Decidable (okF F n b):=by unfold okF; infer_instance
def ent (L:List AS) (at_ size:Nat) (b:Int):Nat->List Int->Nat->List Int
 | 0,F,_=>F
 | k+1,F,n=>if okF F n b then F else(gon L n at_ size).foldl (ent L at_ size b k) (F.set n b)
def mu (F:List Int) (b:Int):Nat:=(F.filter fun z=>!decide (0<=z/\z<=b)).length
theorem mu_le (F:List Int) (b:Int):mu F b<=F.length:=List.length_filter_le _ _
theorem mu_set:∀(F:List Int) (n:Nat) (b:Int),0<=b->n<F.length->¬okF F n b->mu (F.set n b) b+1=mu F b
 | [],n,b,_,h,_=>by simp at h
 | z::F,0,b,hb,h,ho=>by
  have hz:¬(0<=z/\z<=b):=by
   unfold okF gd at ho;simpa using ho
  unfold mu;rw[List.set_cons_zero,List.filter_cons,List.filter_cons,iN (by simp; omega),iP (by rw[dF hz]; rfl),List.length_cons]
 | z::F,n+1,b,hb,h,ho=>by
  have ih:=mu_set F n b hb (by simpa using h) (by
   unfold okF gd at ho ⊢
   simpa using ho)
  unfold mu at ih ⊢;rw[List.set_cons_succ,List.filter_cons,List.filter_cons];split
  . simp only[List.length_cons]; omega
  . exact ih
structure Ent (L:List AS) (at_ size:Nat) (b:Int) (F G:List Int):Prop where
 len:G.length=F.length
 le:mu G b<=mu F b
 or_:∀m,gd G m=gd F m\/(gd G m=b/\¬okF F m b/\∀k∈gon L m at_ size,okF G k b)
theorem Ent.refl {L:List AS} {at_ size:Nat} {b:Int} (F:List Int):Ent L at_ size b F F:=⟨rfl,lR _,fun _=>.inl rfl⟩
theorem Ent.ok {L:List AS} {at_ size:Nat} {b:Int} {F G:List Int} (h:Ent L at_ size b F G) (hb:0<=b) {m:Nat} {c:Int} (hc:b<=c) (ho:okF F m c):okF G m c:=by
 rcases h.or_ m with e|⟨e,_,_⟩
 . unfold okF at ho ⊢; rw[e]; exact ho
 . unfold okF; rw[e]; exact⟨hb,hc⟩
theorem Ent.trans {L:List AS} {at_ size:Nat} {b:Int} (hb:0<=b) {F G H:List Int} (h1:Ent L at_ size b F G) (h2:Ent L at_ size b G H):Ent L at_ size b F H:=by
 refine⟨h2.len.trans h1.len,Nat.le_trans h2.le h1.le,fun m=>?_⟩;rcases h2.or_ m with e|⟨e,h3,h4⟩
 . rcases h1.or_ m with e'|⟨e',h5,h6⟩
   . exact .inl (e.trans e')
   . exact .inr ⟨e.trans e',h5,fun k hk=>h2.ok hb (Int.le_refl _) (h6 k hk)⟩
 . refine .inr ⟨e,fun ho=>h3 (h1.ok hb (Int.le_refl _) ho),h4⟩
section
variable {L:List AS} {at_ size:Nat} {b:Int}
theorem Ent.okc {F G:List Int} (h:Ent L at_ size b F G) (hb:0<=b) {m:Nat} {c:Int} (ho:okF F m c):okF G m c:=by
 rcases h.or_ m with e|⟨e,h1,_⟩
 . unfold okF at ho ⊢; rw[e]; exact ho
 . unfold okF at ho h1 ⊢; rw[e]; exact⟨hb,by omega⟩
theorem okF.le {F:List Int} {n:Nat} {b c:Int} (h:okF F n b) (hc:b<=c):okF F n c:=⟨h.1,Int.le_trans h.2 hc⟩
theorem qh7 (hw:WF L) (hb:0<=b):∀(k:Nat) (F:List Int) (n:Nat),F.length=L.length->n<L.length->mu F b<k->Ent L at_ size b F (ent L at_ size b k F n)/\okF (ent L at_ size b k F n) n b
 | 0,F,n,_,_,h=>by omega
 | k+1,F,n,hl,hn,hm=>by
  rw[ent];by_cases ho:okF F n b
  . rw[iP ho]
    exact⟨Ent.refl F,ho⟩
  . rw[iN ho]
    have hms:=mu_set F n b hb (by omega) ho;have hF1:okF (F.set n b) n b:=by unfold okF; rw[gd_set F n n b (by omega),iP rfl]; exact⟨hb,Int.le_refl _⟩
    have key:∀(l:List Nat),(∀m∈l,m<L.length)->∀G:List Int,G.length=L.length->mu G b<k->Ent L at_ size b G (l.foldl (ent L at_ size b k) G)/\∀m∈l,okF (l.foldl (ent L at_ size b k) G) m b:=fun l=>by
     induction l with
     | nil=>intro _ G _ _; exact⟨Ent.refl G,fun m hm=>by cases hm⟩
     | cons x l ih=>
      intro hx G hG hmu;obtain⟨e1,e2⟩:=qh7 hw hb k G x hG (hx x (List.mem_cons_self ..)) hmu;obtain⟨f1,f2⟩:=ih (fun m hm=>hx m (mO _ hm)) (ent L at_ size b k G x) (e1.len.trans hG) (Nat.lt_of_le_of_lt e1.le hmu);rw[List.foldl_cons];refine⟨e1.trans hb f1,fun m hm=>?_⟩;rcases List.mem_cons.1 hm with rfl|hm
      . exact f1.okc hb e2
      . exact f2 m hm
    obtain⟨f1,f2⟩:=key (gon L n at_ size) (fun m hm=>(hw.gon hm).2) (F.set n b) (by rw[List.length_set]; exact hl) (by omega);refine⟨⟨f1.len.trans List.length_set,by have:=f1.le; omega,fun m=>?_⟩,f1.okc hb hF1⟩;have hg:=gd_set F n m b (by omega);rcases f1.or_ m with e|⟨e,h1,h2⟩
    . by_cases hmn:m=n
      . rw[iP hmn]at hg
        subst hmn;exact .inr ⟨e.trans hg,ho,f2⟩
      . rw[iN hmn]at hg
        exact .inl (e.trans hg)
    . by_cases hmn:m=n
      . subst hmn
        exact absurd hF1 h1
      . rw[iN hmn]at hg
        refine .inr ⟨e,?_,h2⟩;unfold okF at h1 ⊢;rw[<- hg]; exact h1
theorem ent_snd {P:Int->Nat->Prop} (hcl:∀n k,P b n->k∈gon L n at_ size->P b k):∀(k:Nat) (F:List Int) (n:Nat),P b n->(∀m,0<=gd F m->P (gd F m) m)->∀m,0<=gd (ent L at_ size b k F n) m->P (gd (ent L at_ size b k F n) m) m
 | 0,F,n,_,h=>h
 | k+1,F,n,hn,h=>by
  rw[ent];by_cases ho:okF F n b
  . rw[iP ho]; exact h
  . rw[iN ho]
    have key:∀(l:List Nat),(∀m∈l,P b m)->∀G:List Int,(∀m,0<=gd G m->P (gd G m) m)->∀m,0<=gd (l.foldl (ent L at_ size b k) G) m->P (gd (l.foldl (ent L at_ size b k) G) m) m:=fun l=>by
     induction l with
     | nil=>intro _ G hG; exact hG
     | cons x l ih=>
      intro hx G hG;rw[List.foldl_cons];exact ih (fun m hm=>hx m (mO _ hm)) _ (ent_snd hcl k G x (hx x (List.mem_cons_self ..)) hG)
    refine key _ (fun m hm=>hcl n m hn hm) _ fun m hm=>?_;by_cases hlt:n<F.length
    . rw[gd_set F n m b hlt]at hm ⊢
      by_cases hmn:m=n
      . rw[iP hmn]; rw[hmn]; exact hn
      . rw[iN hmn]at hm ⊢; exact h m hm
    . rw[List.set_eq_of_length_le (by omega)]at hm ⊢
      exact h m hm
def ClF (L:List AS) (at_ size:Nat) (F:List Int):Prop:=∀m k c,k∈gon L m at_ size->okF F m c->okF F k c
theorem Ent.cl {F G:List Int} (h:Ent L at_ size b F G) (hb:0<=b) (hF:ClF L at_ size F):ClF L at_ size G:=fun m k c hk ho=>by
 rcases h.or_ m with e|⟨e,_,h2⟩
 . refine h.okc hb (hF m k c hk ?_)
   unfold okF at ho ⊢; rw[<- e]; exact ho
 . exact(h2 k hk).le (by unfold okF at ho; omega)
end
inductive R (L:List AS) (T:List UInt8) (fr:Nat):Nat->Nat->Nat->Prop
 | start (b:Nat) (h1:fr<=b) (h2:b<=T.length):R L T fr b b 0
 | eps (b a n k:Nat) (h:R L T fr b a n) (hk:k∈gon L n a T.length):R L T fr b a k
 | take (b a n:Nat) (h:R L T fr b a n) (ha:a<T.length) (hk:tak L n T[a]=true):R L T fr b (a+1) (n+1)
section
variable {L:List AS} {T:List UInt8} {fr:Nat}
theorem R.bnd {b a n:Nat} (h:R L T fr b a n):fr<=b/\b<=a/\a<=T.length:=by
 induction h with
 | start h1 h2=>exact⟨h1,lR _,h2⟩
 | eps a n k h hk ih=>exact ih
 | take a n h ha hk ih=>exact⟨ih.1,by omega,by omega⟩
theorem R.cross {b e n:Nat} (h:R L T fr b e n):∀a,b<=a->a<e->∃(n':Nat) (ha:a<T.length),R L T fr b a n'/\tak L n' T[a]=true:=by
 induction h with
 | start h1 h2=>intro a h3 h4; omega
 | eps a n k h hk ih=>exact ih
 | take a n h ha hk ih=>
  intro a' h3 h4;by_cases e:a'=a
  . subst e; exact⟨n,ha,h,hk⟩
  . exact ih a' h3 (by omega)
end
def nxF (L:List AS) (c:UInt8) (at1 size:Nat):List Int->Nat->List Int->List Int
 | [],_,G=>G
 | z::F,n,G=>nxF L c at1 size F (n+1) (if 0<=z/\tak L n c=true then ent L at1 size z (L.length+1) G (n+1)else G)
def lvF (L:List AS) (c:UInt8):List Int->Nat->Bool
 | [],_=>false
 | z::F,n=>(decide (0<=z)&&tak L n c)||lvF L c F (n+1)
def okO:Option (Int×Int)->Int->Bool
 | none,_=>true
 | some p,z=>decide (z<=p.1)
def hitG (L:List AS) (at_:Int) (F:List Int) (o:Option (Int×Int)):Option (Int×Int):=if 0<=gd F (L.length-1)/\okO o (gd F (L.length-1))=true then some (gd F (L.length-1),at_)else o
def entG (L:List AS) (size:Nat) (o:Option (Int×Int)) (F:List Int) (a:Nat):List Int:=match o with|none=>ent L a size (a:Int) (L.length+1) F 0|some _=>F
def qcj (L:List AS):List Int:=List.replicate L.length (-1)
def whG (L:List AS) (size:Nat):List UInt8->Nat->List Int->Option (Int×Int)->Option (Int×Int)
 | [],a,F,o=>hitG L (a:Int) (entG L size o F a) o
 | c::q,a,F,o=>
  bif (!(hitG L (a:Int) (entG L size o F a) o).isSome||lvF L c (entG L size o F a) 0)then whG L size q (a+1) (nxF L c (a+1) size (entG L size o F a) 0 (qcj L)) (hitG L (a:Int) (entG L size o F a) o)else hitG L (a:Int) (entG L size o F a) o
def qcw (L:List AS) (T:List UInt8) (fr:Nat):Option (Int×Int):=whG L T.length (T.drop fr) fr (qcj L) none
section
variable {L:List AS}
theorem nxF_len (hw:WF L) {c:UInt8} {at1 size:Nat}:∀(F:List Int) (n:Nat) (G:List Int),G.length=L.length->(nxF L c at1 size F n G).length=L.length
 | [],n,G,h=>h
 | z::F,n,G,h=>by
  rw[nxF];refine nxF_len hw F (n+1) _ ?_;split
  . rename_i h1
    exact((qh7 hw h1.1 _ G (n+1) h (hw.tak h1.2) (by have:=mu_le G z; omega)).1).len.trans h
  . exact h
theorem nxF_ok (hw:WF L) {c:UInt8} {at1 size:Nat} {m:Nat} {b:Int}:∀(F:List Int) (n:Nat) (G:List Int),G.length=L.length->okF G m b->okF (nxF L c at1 size F n G) m b
 | [],n,G,_,h=>h
 | z::F,n,G,hl,h=>by
  rw[nxF];split
  . rename_i h1
    have e:=(qh7 (at_:=at1) (size:=size) hw h1.1 (L.length+1) G (n+1) hl (hw.tak h1.2) (by have:=mu_le G z; omega)).1;exact nxF_ok hw F (n+1) _ (e.len.trans hl) (e.okc h1.1 h)
  . exact nxF_ok hw F (n+1) _ hl h
theorem nxF_cl (hw:WF L) {c:UInt8} {at1 size:Nat}:∀(F:List Int) (n:Nat) (G:List Int),G.length=L.length->ClF L at1 size G->ClF L at1 size (nxF L c at1 size F n G)
 | [],n,G,_,h=>h
 | z::F,n,G,hl,h=>by
  rw[nxF];split
  . rename_i h1
    have e:=(qh7 (at_:=at1) (size:=size) hw h1.1 (L.length+1) G (n+1) hl (hw.tak h1.2) (by have:=mu_le G z; omega)).1;exact nxF_cl hw F (n+1) _ (e.len.trans hl) (e.cl h1.1 h)
  . exact nxF_cl hw F (n+1) _ hl h
theorem nxF_in (hw:WF L) {c:UInt8} {at1 size:Nat} {m:Nat}:∀(F:List Int) (n:Nat) (G:List Int),G.length=L.length->n<=m->0<=gd F (m-n)->tak L m c=true->okF (nxF L c at1 size F n G) (m+1) (gd F (m-n))
 | [],n,G,_,_,h,_=>by
  rw[gd_out (by simp)]at h; omega
 | z::F,n,G,hl,hn,h,ht=>by
  rw[nxF];by_cases e:m=n
  . subst e
    rw[Nat.sub_self]at h ⊢;have hz:gd (z::F) 0=z:=rfl;rw[hz]at h ⊢;rw[iP ⟨h,ht⟩];have e:=qh7 (at_:=at1) (size:=size) hw h (L.length+1) G (m+1) hl (hw.tak ht) (by have:=mu_le G z; omega);exact nxF_ok hw F (m+1) _ (e.1.len.trans hl) e.2
  . have hg:gd (z::F) (m-n)=gd F (m-(n+1)):=by
     rw[show m-n=(m-(n+1))+1 by omega]; rfl
    rw[hg]at h ⊢;refine nxF_in hw F (n+1) _ ?_ (by omega) h ht;split
    . rename_i h1
      exact((qh7 hw h1.1 _ G (n+1) hl (hw.tak h1.2) (by have:=mu_le G z; omega)).1).len.trans hl
    . exact hl
theorem nxF_snd {c:UInt8} {at1 size:Nat} {P:Int->Nat->Prop} (hcl:∀b n k,P b n->k∈gon L n at1 size->P b k):∀(F:List Int) (n:Nat) (G:List Int),(∀m,0<=gd F m->tak L (n+m) c=true->P (gd F m) (n+m+1))->(∀m,0<=gd G m->P (gd G m) m)->∀m,0<=gd (nxF L c at1 size F n G) m->P (gd (nxF L c at1 size F n G) m) m
 | [],n,G,_,h=>h
 | z::F,n,G,hF,h=>by
  rw[nxF];refine nxF_snd hcl F (n+1) _ (fun m hm ht=>?_) ?_
  . have:=hF (m+1) hm (by rw[<- Nat.add_assoc,Nat.add_right_comm]; exact ht)
    rw[show n+1+m+1=n+(m+1)+1 by omega];exact this
  . split
    . rename_i h1
      exact ent_snd (fun n k=>hcl z n k) _ G (n+1) (hF 0 h1.1 h1.2) h
    . exact h
theorem lvF_no {c:UInt8}:∀(F:List Int) (n:Nat),lvF L c F n=false->∀m,0<=gd F m->tak L (n+m) c=false
 | [],n,_,m,hm=>by
  rw[gd_out (by simp)]at hm; omega
 | z::F,n,h,0,hm=>by
  rw[lvF,Bool.or_eq_false_iff]at h;have hz:gd (z::F) 0=z:=rfl;rw[hz]at hm;have:=h.1;rw[dT hm,Bool.true_and]at this;exact this
 | z::F,n,h,m+1,hm=>by
  rw[lvF,Bool.or_eq_false_iff]at h;have:=lvF_no F (n+1) h.2 m hm;rw[<- Nat.add_assoc,Nat.add_right_comm];exact this
theorem qid (m:Nat):gd (qcj L) m=-1:=by
 unfold gd qcj;rw[List.getD_eq_getElem?_getD,List.getElem?_replicate];split<;>rfl
variable {T:List UInt8} {fr:Nat}
def Acc (L:List AS) (T:List UInt8) (fr b e:Nat):Prop:=R L T fr b e (L.length-1)
def Res (L:List AS) (T:List UInt8) (fr a:Nat):Option (Int×Int)->Prop
 | none=>∀b e,e<a->¬Acc L T fr b e
 | some p=>∃b e:Nat,p=((b:Int),(e:Int))/\Acc L T fr b e/\e<a/\∀b' e',e'<a->Acc L T fr b' e'->b<=b'/\(b'=b->e'<=e)
def lim (o:Option (Int×Int)) (b:Nat):Prop:=∀p,o=some p->(b:Int)<=p.1
structure Fr (L:List AS) (T:List UInt8) (fr a:Nat) (F:List Int) (o:Option (Int×Int)):Prop where
 len:F.length=L.length
 snd:∀m,0<=gd F m->∃b:Nat,gd F m=(b:Int)/\b<=a/\R L T fr b a m
 cl:ClF L a T.length F
 comp:∀b n:Nat,b<a->lim o b->R L T fr b a n->okF F n (b:Int)
 res:Res L T fr a o
theorem Fr.ent (hw:WF L) {a:Nat} {F:List Int} {o:Option (Int×Int)} (h:Fr L T fr a F o) (ha:fr<=a) (hT:a<=T.length) :
 (entG L T.length o F a).length=L.length/\(∀m,0<=gd (entG L T.length o F a) m->∃b:Nat,gd (entG L T.length o F a) m=(b:Int)/\b<=a/\R L T fr b a m)/\ClF L a T.length (entG L T.length o F a)/\∀b n:Nat,lim o b->R L T fr b a n->okF (entG L T.length o F a) n (b:Int):=by
 cases o with
 | some p=>
  refine⟨h.len,h.snd,h.cl,fun b n hl hr=>h.comp b n ?_ hl hr⟩;obtain⟨b0,e0,rfl,h1,h2,_⟩:=h.res;have h3:=hl _ rfl;have h4:=R.bnd h1;have h3':(b:Int)<=(b0:Int):=h3;omega
 | none=>
  have hmu:=mu_le F (a:Int);have hlen:=h.len;obtain⟨e1,e2⟩:=qh7 (at_:=a) (size:=T.length) hw (Int.natCast_nonneg a) (L.length+1) F 0 h.len hw.pos (by omega);have hcl:=e1.cl (Int.natCast_nonneg a) h.cl;refine⟨e1.len.trans h.len,?_,hcl,fun b n hl hr=>?_⟩
  . refine ent_snd (P:=fun z m=>∃b:Nat,z=(b:Int)/\b<=a/\R L T fr b a m) (fun n k ⟨b,h1,h2,h3⟩ hk=>⟨b,h1,h2,.eps _ _ _ _ h3 hk⟩) _ F 0 ⟨a,rfl,lR _,.start _ ha hT⟩ h.snd
  . by_cases hb:b<a
    . exact e1.okc (Int.natCast_nonneg a) (h.comp b n hb hl hr)
    . have hba:b=a:=by have:=hr.bnd; omega
      subst hba
      have key:∀e m,R L T fr b e m->e=b->okF (entG L T.length none F b) m (b:Int):=fun e m hr=>by
       induction hr with
       | start h1 h2=>intro _; exact e2
       | eps e n k h hk ih=>intro he; subst he; exact hcl n k _ hk (ih rfl)
       | take e n h ha hk ih=>intro he; have:=h.bnd; omega
      exact key b n hr rfl
theorem hitG_res (hw:WF L) {a:Nat} {F:List Int} {o:Option (Int×Int)} (hr:Res L T fr a o)
 (hs:∀m,0<=gd F m->∃b:Nat,gd F m=(b:Int)/\b<=a/\R L T fr b a m) (hc:∀b n:Nat,lim o b->R L T fr b a n->okF F n (b:Int)) :
 Res L T fr (a+1) (hitG L (a:Int) F o)/\∀b,lim (hitG L (a:Int) F o) b->lim o b:=by
 have hlt:L.length-1<L.length:=by have:=hw.pos; omega
 unfold hitG;by_cases hh:0<=gd F (L.length-1)/\okO o (gd F (L.length-1))=true
 . rw[iP hh]
   obtain⟨b,hb1,hb2,hb3⟩:=hs _ hh.1;rw[hb1];rw[hb1]at hh;refine⟨⟨b,a,rfl,hb3,by omega,fun b' e' he' hacc=>?_⟩,fun b' hb' p hp=>?_⟩
   . cases o with
     | none=>
      by_cases e:e'=a
      . subst e
        have:=hc b' _ (fun p hp=>by cases hp) hacc;unfold okF at this;rw[hb1]at this;omega
      . exact absurd hacc (hr b' e' (by omega))
     | some p=>
      obtain⟨b0,e0,rfl,h1,h2,h3⟩:=hr;have hle:(b:Int)<=(b0:Int):=of_decide_eq_true hh.2;by_cases e:e'=a
      . subst e
        by_cases hbb:b'<=b0
        . have:=hc b' _ (fun p hp=>by simp only[oS]at hp; rw[<- hp]; show(b':Int)<=(b0:Int); omega) hacc
          unfold okF at this;rw[hb1]at this;omega
        . omega
      . have:=h3 b' e' (by omega) hacc
        omega
   . subst hp
     have h1:=hb' _ rfl;have h2:(b:Int)<=p.1:=of_decide_eq_true hh.2;have h1':(b':Int)<=(b:Int):=h1;omega
 . rw[iN hh]
   refine⟨?_,fun b h=>h⟩;cases o with
   | none=>
    intro b e he hacc;by_cases e':e=a
    . subst e'
      have:=hc b _ (fun p hp=>by cases hp) hacc;exact hh ⟨this.1,rfl⟩
    . exact hr b e (by omega) hacc
   | some p=>
    obtain⟨b0,e0,rfl,h1,h2,h3⟩:=hr;refine⟨b0,e0,rfl,h1,by omega,fun b' e' he' hacc=>?_⟩;by_cases e:e'=a
    . subst e
      by_cases hbb:b'<=b0
      . exfalso
        have:=hc b' _ (fun p hp=>by simp only[oS]at hp; rw[<- hp]; show(b':Int)<=(b0:Int); omega) hacc;refine hh ⟨this.1,dT (?_:gd F (L.length-1)<=(b0:Int))⟩;have:=this.2;omega
      . omega
    . exact h3 b' e' (by omega) hacc
theorem whG_res (hw:WF L):∀(q:List UInt8) (a:Nat) (F:List Int) (o:Option (Int×Int)),T.drop a=q->fr<=a->a<=T.length->Fr L T fr a F o->Res L T fr (T.length+1) (whG L T.length q a F o)
 | [],a,F,o,hq,hf,ha,h=>by
  have hle:T.length<=a:=List.drop_eq_nil_iff.1 hq;obtain rfl:a=T.length:=by omega
  obtain⟨_,h2,_,h4⟩:=h.ent hw hf ha;rw[whG];exact(hitG_res hw h.res h2 h4).1
 | c::q,a,F,o,hq,hf,ha,h=>by
  have hlt:a<T.length:=by
   rcases Nat.lt_or_ge a T.length with h'|h'
   . exact h'
   . rw[List.drop_eq_nil_of_le h']at hq; cases hq
  rw[List.drop_eq_getElem_cons hlt]at hq;simp only[List.cons.injEq]at hq;obtain⟨hc,hq⟩:=hq;obtain⟨h1,h2,h3,h4⟩:=h.ent hw hf ha;obtain⟨r1,r2⟩:=hitG_res hw h.res h2 h4;rw[whG];generalize entG L T.length o F a=F1 at *;generalize hitG L (a:Int) F1 o=o1 at *;cases hl:(!o1.isSome||lvF L c F1 0)with
  | true=>
   rw[cT];have hbl:(qcj L).length=L.length:=by unfold qcj; simp
   refine whG_res hw q (a+1) _ o1 hq (by omega) hlt ⟨nxF_len hw F1 0 _ hbl,?_,?_,?_,r1⟩
   . refine nxF_snd (P:=fun z m=>∃b:Nat,z=(b:Int)/\b<=a+1/\R L T fr b (a+1) m) (fun z n k ⟨b,p1,p2,p3⟩ hk=>⟨b,p1,p2,.eps _ _ _ _ p3 hk⟩) F1 0 _ (fun m hm ht=>?_) (fun m hm=>?_)
     . obtain⟨b,p1,p2,p3⟩:=h2 m hm
       rw[Nat.zero_add]at ht ⊢;exact⟨b,p1,by omega,.take _ _ _ p3 hlt (by rw[hc]; exact ht)⟩
     . rw[qid]at hm; omega
   . exact nxF_cl hw F1 0 _ hbl fun m k z hk ho=>by
      unfold okF at ho;rw[qid]at ho;omega
   . intro b n hb hl1 hr
     have hcl:ClF L (a+1) T.length (nxF L c (a+1) T.length F1 0 (qcj L)):=nxF_cl hw F1 0 _ hbl fun m k z hk ho=>by
      unfold okF at ho;rw[qid]at ho;omega
     have key:∀e m,R L T fr b e m->e=a+1->okF (nxF L c (a+1) T.length F1 0 (qcj L)) m (b:Int):=fun e m hr=>by
      induction hr with
      | start p1 p2=>intro he; omega
      | eps e n k p hk ih=>intro he; subst he; exact hcl n k _ hk (ih rfl)
      | take e n p pa hk ih=>
       intro he;obtain rfl:e=a:=by omega
       have hok:=h4 b n (r2 b hl1) p;have hin:=nxF_in hw (c:=c) (at1:=e+1) (size:=T.length) (m:=n) F1 0 (qcj L) hbl (Nat.zero_le _) (by rw[Nat.sub_zero]; exact hok.1) (by rw[<- hc]; exact hk);rw[Nat.sub_zero]at hin;exact hin.le hok.2
     exact key (a+1) n hr rfl
  | false=>
   rw[cF];rw[Bool.or_eq_false_iff]at hl;cases o1 with
   | none=>simp at hl
   | some p=>
    obtain⟨b0,e0,rfl,k1,k2,k3⟩:=r1;refine⟨b0,e0,rfl,k1,by omega,fun b' e' he' hacc=>?_⟩;by_cases he:e'<a+1
    . exact k3 b' e' he hacc
    . by_cases hbb:b'<=b0
      . exfalso
        have hb0:=R.bnd k1;obtain⟨n',ha',hr',ht'⟩:=R.cross hacc a (by omega) (by omega);have hok:=h4 b' n' (r2 b' fun p hp=>by simp only[oS]at hp; rw[<- hp]; show(b':Int)<=(b0:Int); omega) hr';have hno:=lvF_no F1 0 hl.2 n' hok.1;rw[Nat.zero_add,<- hc,ht']at hno;cases hno
      . omega
theorem qjo (hw:WF L) (hf:fr<=T.length):Res L T fr (T.length+1) (qcw L T fr):=by
 refine whG_res hw _ fr _ none rfl (lR _) hf ⟨by unfold qcj; simp,fun m hm=>?_,fun m k z hk ho=>?_,fun b n hb _ hr=>?_,fun b e he hacc=>?_⟩
 . rw[qid]at hm; omega
 . unfold okF at ho
   rw[qid]at ho;omega
 . have:=hr.bnd; omega
 . have:=R.bnd hacc; omega
end
def bd (l:List Bool) (n:Nat):Bool:=l.getD n false
theorem bd_set (l:List Bool) (n m:Nat) (b:Bool) (hn:n<l.length):bd (l.set n b) m=if m=n then b else bd l m:=by
 unfold bd;rw[List.getD_eq_getElem?_getD,List.getD_eq_getElem?_getD,List.getElem?_set];by_cases h:n=m
 . subst h; rw[iP rfl,iP rfl,iP hn]; rfl
 . rw[iN h,iN (fun e=>h e.symm)]
def canS (L:List AS) (T:List UInt8) (s1 at_:Nat) (nxt l:List Bool) (n:Nat):Bool:=
 match L[n]? with
 | none=>false
 | some s=>
  if s.kind=0 then decide (at_<s1)&&(s.p (T.getD at_ 0)&&bd nxt (n+1))
  else if s.kind=6 then decide (at_=s1)
  else(qch s n at_ T.length).any fun k=>bd l k
def swp (can:List Bool->Nat->Bool):Nat->List Bool->List Bool
 | 0,l=>l
 | n+1,l=>swp can n (l.set n (bd l n||can l n))
def swps (can:List Bool->Nat->Bool) (N:Nat):Nat->List Bool->List Bool
 | 0,l=>l
 | t+1,l=>swps can N t (swp can N l)
def rowG (L:List AS) (T:List UInt8) (s1 at_:Nat) (nxt:List Bool):List Bool:=swps (canS L T s1 at_ nxt) L.length 11 (List.replicate L.length false)
def qd7 (L:List AS) (T:List UInt8) (s1:Nat):Nat->List (List Bool)
 | 0=>[]
 | d+1=>rowG L T s1 (s1-d) ((qd7 L T s1 d).headD [])::qd7 L T s1 d
theorem qmt {can:List Bool->Nat->Bool}:∀(n:Nat) (l:List Bool),(swp can n l).length=l.length
 | 0,l=>rfl
 | n+1,l=>by rw[swp,qmt n,List.length_set]
theorem swps_len {can:List Bool->Nat->Bool} {N:Nat}:∀(t:Nat) (l:List Bool),(swps can N t l).length=l.length
 | 0,l=>rfl
 | t+1,l=>by rw[swps,swps_len t,qmt]
theorem rowG_len (L:List AS) (T:List UInt8) (s1 at_:Nat) (nxt:List Bool):(rowG L T s1 at_ nxt).length=L.length:=by
 unfold rowG;rw[swps_len,List.length_replicate]
theorem rowsG_len (L:List AS) (T:List UInt8) (s1:Nat):∀d,(qd7 L T s1 d).length=d
 | 0=>rfl
 | d+1=>by rw[qd7,List.length_cons,rowsG_len L T s1 d]
section
variable {can:List Bool->Nat->Bool}
def Jst (can:List Bool->Nat->Bool) (l:List Bool):Prop:=∀m,bd l m=true->can l m=true
theorem swp_jst (hmono:∀l l' m,(∀k,bd l k=true->bd l' k=true)->can l m=true->can l' m=true):∀(n:Nat) (l:List Bool),n<=l.length->Jst can l->Jst can (swp can n l)
 | 0,l,_,h=>h
 | n+1,l,hn,h=>by
  rw[swp];refine swp_jst hmono n _ (by rw[List.length_set]; omega) fun m hm=>?_
  have up:∀k,bd l k=true->bd (l.set n (bd l n||can l n)) k=true:=fun k hk=>by
   rw[bd_set l n k _ hn];by_cases e:k=n
   . subst e; rw[iP rfl,hk]; rfl
   . rw[iN e]; exact hk
  rw[bd_set l n m _ hn]at hm;by_cases e:m=n
  . subst e
    rw[iP rfl,Bool.or_eq_true]at hm;rcases hm with hm|hm
    . exact hmono _ _ _ up (h m hm)
    . exact hmono _ _ _ up hm
  . rw[iN e]at hm
    exact hmono _ _ _ up (h m hm)
theorem swps_jst (hmono:∀l l' m,(∀k,bd l k=true->bd l' k=true)->can l m=true->can l' m=true) {N:Nat}:∀(t:Nat) (l:List Bool),N<=l.length->Jst can l->Jst can (swps can N t l)
 | 0,l,_,h=>h
 | t+1,l,hn,h=>by
  rw[swps];exact swps_jst hmono t _ (by rw[qmt]; exact hn) (swp_jst hmono N l hn h)
structure Pot (L:List AS) (gl:Nat->Nat):Prop where
 go:∀n k at_ size,k∈gon L n at_ size->(n<k/\gl k<=gl n)\/gl k+1<=gl n
 le:∀n,gl n<=10
theorem swp_all {gl:Nat->Nat} {Q:Nat->Prop} {N t:Nat}
 (hcan:∀l n,n<N->Q n->(∀k,k<N->Q k->(n<k/\gl k<=gl n)\/gl k+1<=gl n->bd l k=true)->can l n=true) :
 ∀(n:Nat) (l:List Bool),n<=N->l.length=N->(∀m,n<=m->m<N->gl m<=t->Q m->bd l m=true)->(∀m,m<N->gl m<t->Q m->bd l m=true)->∀m,m<N->gl m<=t->Q m->bd (swp can n l) m=true
 | 0,l,_,_,h1,_=>fun m hm=>h1 m (Nat.zero_le _) hm
 | n+1,l,hn,hl,h1,h2=>by
  rw[swp]
  have up:∀k,bd l k=true->bd (l.set n (bd l n||can l n)) k=true:=fun k hk=>by
   rw[bd_set l n k _ (by omega)];by_cases e:k=n
   . subst e; rw[iP rfl,hk]; rfl
   . rw[iN e]; exact hk
  refine swp_all hcan n _ (by omega) (by rw[List.length_set]; exact hl) (fun m hm hmN hg hq=>?_) (fun m hmN hg hq=>up m (h2 m hmN hg hq));by_cases e:m=n
  . subst e
    rw[bd_set l m m _ (by omega),iP rfl,hcan l m hmN hq fun k hk hqk hor=>?_,Bool.or_true];rcases hor with⟨a,b⟩|a
    . exact h1 k a hk (Nat.le_trans b hg) hqk
    . exact h2 k hk (by omega) hqk
  . exact up m (h1 m (by omega) hmN hg hq)
theorem swps_all {gl:Nat->Nat} {Q:Nat->Prop} {N:Nat}
 (hcan:∀l n,n<N->Q n->(∀k,k<N->Q k->(n<k/\gl k<=gl n)\/gl k+1<=gl n->bd l k=true)->can l n=true) :
 ∀(d t:Nat) (l:List Bool),l.length=N->(∀m,m<N->gl m<t->Q m->bd l m=true)->∀m,m<N->gl m<t+d->Q m->bd (swps can N d l) m=true
 | 0,t,l,_,h=>h
 | d+1,t,l,hl,h=>by
  rw[swps];intro m hm hg hq;exact swps_all hcan d (t+1) (swp can N l) (by rw[qmt]; exact hl) (fun m hm hg hq=>swp_all hcan (t:=t) N l (lR _) hl (fun m h1 h2=>by omega) h m hm (by omega) hq) m hm (by omega) hq
end
inductive Lf (L:List AS) (T:List UInt8) (s1:Nat):Nat->Nat->Prop
 | done (n:Nat) (s:AS) (hs:L[n]?=some s) (hk:s.kind=6):Lf L T s1 n s1
 | take (n a:Nat) (ha:a<s1) (hk:tak L n (T.getD a 0)=true) (h:Lf L T s1 (n+1) (a+1)):Lf L T s1 n a
 | eps (n a k:Nat) (hk:k∈gon L n a T.length) (h:Lf L T s1 k a):Lf L T s1 n a
section
variable {L:List AS} {T:List UInt8} {s1:Nat}
theorem canS_mono {at_:Nat} {nxt:List Bool} (l l':List Bool) (m:Nat) (h:∀k,bd l k=true->bd l' k=true) (hc:canS L T s1 at_ nxt l m=true):canS L T s1 at_ nxt l' m=true:=by
 unfold canS at hc ⊢;cases hs:L[m]? with
 | none=>rw[hs]at hc; cases hc
 | some s=>
  rw[hs]at hc;simp only at hc ⊢;split at hc
  . rename_i h0; rw[iP h0]; exact hc
  . rename_i h0
    rw[iN h0];split at hc
    . rename_i h6; rw[iP h6]; exact hc
    . rename_i h6
      rw[iN h6];rw[List.any_eq_true]at hc ⊢;obtain⟨k,h1,h2⟩:=hc;exact⟨k,h1,h k h2⟩
theorem rowG_jst {at_:Nat} {nxt:List Bool}:Jst (canS L T s1 at_ nxt) (rowG L T s1 at_ nxt):=by
 unfold rowG;refine swps_jst canS_mono 11 _ (by rw[List.length_replicate]; exact lR _) fun m hm=>?_;unfold bd at hm;rw[List.getD_eq_getElem?_getD,List.getElem?_replicate]at hm;split at hm<;>cases hm
theorem gon_kind {n a k:Nat} {s:AS} (hs:L[n]?=some s) (hk:k∈gon L n a T.length):s.kind≠0/\s.kind≠6/\k∈qch s n a T.length:=by
 have hk':k∈qch s n a T.length:=by
  unfold gon at hk;rw[hs]at hk;exact hk
 refine⟨fun e=>?_,fun e=>?_,hk'⟩
 . simp[qch,e]at hk'
 . simp[qch,e]at hk'
theorem rowG_all {gl:Nat->Nat} (hw:WF L) (hp:Pot L gl) {at_:Nat} {nxt:List Bool} (hn:∀m,m<L.length->Lf L T s1 m (at_+1)->at_<s1->bd nxt m=true):∀m,m<L.length->Lf L T s1 m at_->bd (rowG L T s1 at_ nxt) m=true:=by
 intro m hm hq;unfold rowG;refine swps_all (gl:=gl) (Q:=fun m=>Lf L T s1 m at_) (fun l n hn' hq hk=>?_) 11 0 _ (by rw[List.length_replicate]) (fun m _ h _=>by omega) m hm (by have:=hp.le m; omega) hq;unfold canS;rw[List.getElem?_eq_getElem hn'];simp only;cases hq with
 | done _ s hs h6=>
  rw[List.getElem?_eq_getElem hn',oS]at hs;rw[hs,iN (by omega),iP h6,dT rfl]
 | take _ _ ha hk' h=>
  have hlt:=hw.tak hk';unfold tak at hk';rw[List.getElem?_eq_getElem hn']at hk';simp only[bA,decide_eq_true_eq]at hk';rw[iP hk'.1,dT ha,hk'.2,hn (n+1) hlt h ha];rfl
 | eps _ _ k hk' h=>
  obtain⟨h1,h2,h3⟩:=gon_kind (List.getElem?_eq_getElem hn') hk';rw[iN h1,iN h2,List.any_eq_true];exact⟨k,h3,hk k (hw.gon hk').2 h (hp.go n k at_ T.length hk')⟩
theorem rowsG_at:∀(d j:Nat),j<d->(qd7 L T s1 d)[d-1-j]?=some (rowG L T s1 (s1-j) ((qd7 L T s1 j).headD []))
 | 0,j,h=>by omega
 | d+1,j,h=>by
  rw[qd7];by_cases e:j=d
  . subst e
    rw[show j+1-1-j=0 by omega,List.getElem?_cons_zero]
  . rw[show d+1-1-j=(d-1-j)+1 by omega,List.getElem?_cons_succ]
    exact rowsG_at d j (by omega)
theorem rowsG_all {gl:Nat->Nat} (hw:WF L) (hp:Pot L gl):∀(j:Nat),j<=s1->∀m,m<L.length->Lf L T s1 m (s1-j)->bd (rowG L T s1 (s1-j) ((qd7 L T s1 j).headD [])) m=true
 | 0,_=>rowG_all hw hp fun m _ _ h=>by omega
 | j+1,hj=>rowG_all hw hp fun m hm hl _=>by
  rw[show s1-(j+1)+1=s1-j by omega]at hl;rw[qd7,List.headD_cons];exact rowsG_all hw hp j (by omega) m hm hl
end
def putM (out:List (Int×Int)) (to_ a:Nat):List (Int×Int):=
 out.set (to_/2) (if to_%2=0 then((a:Int),(out.getD (to_/2) (-1,-1)).2)else((out.getD (to_/2) (-1,-1)).1,(a:Int)))
def plc (L:List AS) (rows:List (List Bool)) (s0:Nat):Nat->Nat->Nat->List (Int×Int)->Option (List (Int×Int))
 | 0,_,_,_=>none
 | f+1,n,a,out=>
  match L[n]? with
  | none=>none
  | some s=>
   if s.kind=6 then some out
   else if s.kind=0 then plc L rows s0 f (n+1) (a+1) out
   else if s.kind=5 then(if s.to_/2<out.length then plc L rows s0 f (n+1) a (putM out s.to_ a)else none)
   else if s.kind=3 then
    match(rows[a-s0]?).bind (fun r=>r[n+1]?)with
    | none=>none
    | some q=>if q=true then plc L rows s0 f (n+1) a out else plc L rows s0 f s.to_ a out
   else if s.kind=4 then plc L rows s0 f s.to_ a out
   else plc L rows s0 f (n+1) a out
section
variable {L:List AS} {T:List UInt8} {s0 s1:Nat}
def rwAt (L:List AS) (T:List UInt8) (s1 a:Nat):List Bool:=rowG L T s1 a ((qd7 L T s1 (s1-a)).headD [])
theorem rowsG_row {a:Nat} (h0:s0<=a) (h1:a<=s1):(qd7 L T s1 (s1-s0+1))[a-s0]?=some (rwAt L T s1 a):=by
 have:=rowsG_at (L:=L) (T:=T) (s1:=s1) (s1-s0+1) (s1-a) (by omega);rw[show s1-s0+1-1-(s1-a)=a-s0 by omega,show s1-(s1-a)=a by omega]at this;exact this
theorem rwAt_next {a:Nat} (h1:a<s1):(qd7 L T s1 (s1-a)).headD []=rwAt L T s1 (a+1):=by
 rw[show s1-a=(s1-(a+1))+1 by omega,qd7,List.headD_cons,show s1-(s1-(a+1))=a+1 by omega];rfl
structure Good (L:List AS) (T:List UInt8) (s0 s1 n a:Nat):Prop where
 lo:s0<=a
 hi:a<=s1
 tr:bd (rwAt L T s1 a) n=true
theorem qel (a:Nat):(rwAt L T s1 a).length=L.length:=rowG_len ..
theorem Good.lt {n a:Nat} (h:Good L T s0 s1 n a):n<L.length:=by
 have h2:=h.tr;unfold bd at h2;rw[List.getD_eq_getElem?_getD]at h2;rcases Nat.lt_or_ge n L.length with h'|h'
 . exact h'
 . rw[List.getElem?_eq_none (by rw[qel]; exact h')]at h2
   cases h2
theorem Good.can {n a:Nat} (h:Good L T s0 s1 n a):canS L T s1 a ((qd7 L T s1 (s1-a)).headD []) (rwAt L T s1 a) n=true:=rowG_jst n h.tr
theorem Good.done {n a:Nat} {s:AS} (h:Good L T s0 s1 n a) (hs:L[n]?=some s) (h6:s.kind=6):a=s1:=by
 have hc:=h.can;unfold canS at hc;rw[hs]at hc;simp only at hc;rw[iN (by omega),iP h6]at hc;exact of_decide_eq_true hc
theorem Good.take {n a:Nat} {s:AS} (h:Good L T s0 s1 n a) (hs:L[n]?=some s) (h0:s.kind=0):a<s1/\s.p (T.getD a 0)=true/\Good L T s0 s1 (n+1) (a+1):=by
 have hc:=h.can;unfold canS at hc;rw[hs]at hc;simp only at hc;rw[iP h0,bA,bA]at hc;obtain⟨h1,h2,h3⟩:=hc;have hlt:=of_decide_eq_true h1;rw[rwAt_next hlt]at h3;exact⟨hlt,h2,by have:=h.lo; omega,hlt,h3⟩
theorem Good.eps {n a:Nat} {s:AS} (h:Good L T s0 s1 n a) (hs:L[n]?=some s) (h0:s.kind≠0) (h6:s.kind≠6):∃k,k∈qch s n a T.length/\Good L T s0 s1 k a:=by
 have hc:=h.can;unfold canS at hc;rw[hs]at hc;simp only at hc;rw[iN h0,iN h6,List.any_eq_true]at hc;obtain⟨k,h1,h2⟩:=hc;exact⟨k,h1,h.lo,h.hi,h2⟩
theorem qbr {s:AS} {n a size k:Nat} (hk:k∈qch s n a size):(s.kind=3/\(k=n+1\/k=s.to_))\/(s.kind=4/\k=s.to_)\/(s.kind≠3/\s.kind≠4/\k=n+1/\(s.kind=1->a=0)/\(s.kind=2->size<=a)):=by
 unfold qch at hk;split at hk
 . split at hk
   . cases hk
   . exact .inr (.inr ⟨by omega,by omega,List.mem_singleton.1 hk,fun _=>by omega,fun _=>by omega⟩)
 split at hk
 . split at hk
   . cases hk
   . exact .inr (.inr ⟨by omega,by omega,List.mem_singleton.1 hk,fun _=>by omega,fun _=>by omega⟩)
 split at hk
 . rename_i h3
   exact .inl ⟨h3,by simpa using hk⟩
 split at hk
 . rename_i h4
   exact .inr (.inl ⟨h4,List.mem_singleton.1 hk⟩)
 split at hk
 . cases hk
 split at hk
 . cases hk
 . exact .inr (.inr ⟨by omega,by omega,List.mem_singleton.1 hk,fun _=>by omega,fun _=>by omega⟩)
def meas (L:List AS) (gl:Nat->Nat) (s1 n a:Nat):Nat:=(s1-a)*(12*(L.length+1))+gl n*(L.length+1)+(L.length-n)
theorem meas_eps {gl:Nat->Nat} {n a k:Nat} (hn:n<L.length) (hk:(n<k/\gl k<=gl n)\/gl k+1<=gl n):meas L gl s1 k a<meas L gl s1 n a:=by
 unfold meas;rcases hk with⟨h1,h2⟩|h1
 . have:=Nat.mul_le_mul_right (L.length+1) h2
   omega
 . have:=Nat.mul_le_mul_right (L.length+1) h1
   rw[Nat.add_mul]at this;omega
theorem meas_take {gl:Nat->Nat} (hp:Pot L gl) {n a:Nat} (hn:n<L.length) (ha:a<s1):meas L gl s1 (n+1) (a+1)<meas L gl s1 n a:=by
 unfold meas;have h1:=Nat.mul_le_mul_right (L.length+1) (hp.le (n+1))
 have h2:(s1-a)*(12*(L.length+1))=(s1-(a+1))*(12*(L.length+1))+12*(L.length+1):=by
  rw[show s1-a=(s1-(a+1))+1 by omega,Nat.add_mul,Nat.one_mul]
 omega
theorem qk0 {gl:Nat->Nat} (hw:WF L) (hp:Pot L gl) {g:Nat} (hm:∀(n:Nat) (s:AS),L[n]?=some s->s.kind=5->s.to_/2<g) (Inv:Nat->Nat->List (Int×Int)->Prop) (hlen:∀n a out,Inv n a out->out.length=g)
 (h0:∀n a out s,L[n]?=some s->s.kind=0->Good L T s0 s1 n a->Inv n a out->Inv (n+1) (a+1) out)
 (h5:∀n a out s,L[n]?=some s->s.kind=5->Good L T s0 s1 n a->Good L T s0 s1 (n+1) a->Inv n a out->Inv (n+1) a (putM out s.to_ a))
 (he:∀n a out s k,L[n]?=some s->s.kind≠5->k∈qch s n a T.length->Good L T s0 s1 n a->Good L T s0 s1 k a->Inv n a out->Inv k a out) :
 ∀(f n a:Nat) (out:List (Int×Int)),Good L T s0 s1 n a->Inv n a out->meas L gl s1 n a<f->∃out',plc L (qd7 L T s1 (s1-s0+1)) s0 f n a out=some out'/\Inv (L.length-1) s1 out'
 | 0,n,a,out,_,_,hf=>by omega
 | f+1,n,a,out,hg,hi,hf=>by
  have hn:=hg.lt;have hs:=List.getElem?_eq_getElem hn;rw[plc,hs];simp only;by_cases k6:L[n].kind=6
  . rw[iP k6]
    have:=(hw.last n _ hs).1 k6;have e:=hg.done hs k6;refine⟨out,rfl,?_⟩;rw[show L.length-1=n by omega,<- e]; exact hi
  rw[iN k6];by_cases k0:L[n].kind=0
  . rw[iP k0]
    obtain⟨h1,_,h3⟩:=hg.take hs k0;exact qk0 hw hp hm Inv hlen h0 h5 he f _ _ _ h3 (h0 n a out _ hs k0 hg hi) (by have:=meas_take (s1:=s1) hp hn h1; omega)
  rw[iN k0];obtain⟨k,hk,hgk⟩:=hg.eps hs k0 k6;have hgon:∀k,k∈qch L[n] n a T.length->k∈gon L n a T.length:=fun k hk=>by unfold gon; rw[hs]; exact hk
  have hmk:∀k,k∈qch L[n] n a T.length->meas L gl s1 k a<f:=fun k hk=>by
   have:=meas_eps (s1:=s1) (a:=a) hn (hp.go n k a T.length (hgon k hk)); omega
  by_cases k5:L[n].kind=5
  . rw[iP k5]
    have hmm:=hm n _ hs k5;rw[iP (by rw[hlen _ _ _ hi]; exact hmm)]
    have hk1:k=n+1:=by
     rcases qbr hk with⟨h,_⟩|⟨h,_⟩|⟨_,_,h,_⟩
     . omega
     . omega
     . exact h
    subst hk1;exact qk0 hw hp hm Inv hlen h0 h5 he f _ _ _ hgk (h5 n a out _ hs k5 hg hgk hi) (hmk _ hk)
  rw[iN k5];by_cases k3:L[n].kind=3
  . rw[iP k3]
    have hn1:n+1<L.length:=(hw.gon (hgon (n+1) (by unfold qch; simp[k3]))).2;rw[rowsG_row hg.lo hg.hi,oB,List.getElem?_eq_getElem (by rw[qel]; exact hn1)];simp only;by_cases hq:(rwAt L T s1 a)[n+1]'(by rw[qel]; exact hn1)=true
    . rw[iP hq]
      have hg1:Good L T s0 s1 (n+1) a:=⟨hg.lo,hg.hi,by unfold bd; rw[List.getD_eq_getElem?_getD,List.getElem?_eq_getElem (by rw[qel]; exact hn1),hq]; rfl⟩
      have hm1:n+1∈qch L[n] n a T.length:=by unfold qch; simp[k3]
      exact qk0 hw hp hm Inv hlen h0 h5 he f _ _ _ hg1 (he n a out _ _ hs k5 hm1 hg hg1 hi) (hmk _ hm1)
    . rw[iN hq]
      have hkt:k=L[n].to_:=by
       rcases qbr hk with⟨_,h|h⟩|⟨h,_⟩|⟨h,_⟩
       . exfalso
         subst h;have:=hgk.tr;unfold bd at this;rw[List.getD_eq_getElem?_getD,List.getElem?_eq_getElem (by rw[qel]; exact hn1)]at this;exact hq this
       . exact h
       . omega
       . omega
      subst hkt;exact qk0 hw hp hm Inv hlen h0 h5 he f _ _ _ hgk (he n a out _ _ hs k5 hk hg hgk hi) (hmk _ hk)
  rw[iN k3];by_cases k4:L[n].kind=4
  . rw[iP k4]
    have hkt:k=L[n].to_:=by
     rcases qbr hk with⟨h,_⟩|⟨_,h⟩|⟨_,h,_⟩
     . omega
     . exact h
     . omega
    subst hkt;exact qk0 hw hp hm Inv hlen h0 h5 he f _ _ _ hgk (he n a out _ _ hs k5 hk hg hgk hi) (hmk _ hk)
  . rw[iN k4]
    have hkt:k=n+1:=by
     rcases qbr hk with⟨h,_⟩|⟨h,_⟩|⟨_,_,h,_⟩
     . omega
     . omega
     . exact h
    subst hkt;exact qk0 hw hp hm Inv hlen h0 h5 he f _ _ _ hgk (he n a out _ _ hs k5 hk hg hgk hi) (hmk _ hk)
theorem R.left {fr b e n:Nat} (h:R L T fr b e n):Lf L T s1 n e->Lf L T s1 0 b:=by
 induction h with
 | start h1 h2=>exact fun h=>h
 | eps a n k h hk ih=>exact fun hl=>ih (.eps _ _ _ hk hl)
 | take a n h ha hk ih=>
  intro hl;refine ih (.take _ _ ?_ ?_ hl)
  . have key:∀n e,Lf L T s1 n e->e<=s1:=fun n e hl=>by
     induction hl with
     | done n s hs hk=>exact lR _
     | take n a ha hk h ih=>omega
     | eps n a k hk h ih=>exact ih
    have:=key _ _ hl;omega
  . rw[List.getD_eq_getElem?_getD,List.getElem?_eq_getElem ha]; exact hk
theorem good_start {gl:Nat->Nat} (hw:WF L) (hp:Pot L gl) {fr b e:Nat} (h:Acc L T fr b e):Good L T b e 0 b:=by
 have hlt:L.length-1<L.length:=by have:=hw.pos; omega
 have hs:=List.getElem?_eq_getElem hlt;have hl:Lf L T e 0 b:=R.left h (.done _ _ hs ((hw.last _ _ hs).2 (by have:=hw.pos; omega)));have hb:=R.bnd h;refine⟨lR _,hb.2.1,?_⟩;have:=rowsG_all (L:=L) (T:=T) (s1:=e) hw hp (e-b) (by omega) 0 hw.pos;rw[show e-(e-b)=b by omega]at this;exact this hl
end
set_option maxRecDepth 100000
noncomputable section
noncomputable def E0:Env:=envOf Try.prog [7,8,30,36,37,41,42,43,44,46,47,48,49,50,75] [(34,1)] []
noncomputable def C33:Code:=Try.f33.body.getD .skip
noncomputable def B33:D:=(qc1 C33 [[],[]]).1
noncomputable def F33 (self:EV) (N:Nat) (x0 x1:V) (S:St):Rs:=qj3 E0 self N Try.f33 B33 [x0,x1] S
theorem F33_eq (self:EV) (N:Nat) (x0 x1:V) (S:St):F33 self N x0 x1 S =
qad (qla E0 self (.fn (.func 34) [] []) [x0,x1] S) fun t3 S3=>
some (.ret t3,S3):=by kernel_rfl
noncomputable def C31:Code:=Try.f31.body.getD .skip
noncomputable def B31:D:=(qc1 C31 [[],[]]).1
noncomputable def F31 (self:EV) (N:Nat) (x0 x1:V) (S:St):Rs:=qj3 E0 self N Try.f31 B31 [x0,x1] S
theorem F31_eq (self:EV) (N:Nat) (x0 x1:V) (S:St):F31 self N x0 x1 S =
qad (self.f 33 [x0,x1] S) fun t3 S3=>
some (.ret t3,S3):=by kernel_rfl
noncomputable def C30:Code:=Try.f30.body.getD .skip
noncomputable def B30:D:=(qc1 C30 [[],[]]).1
noncomputable def F30 (self:EV) (N:Nat) (x0 x1:V) (S:St):Rs:=qj3 E0 self N Try.f30 B30 [x0,x1] S
theorem F30_eq (self:EV) (N:Nat) (x0 x1:V) (S:St):F30 self N x0 x1 S =
(qbu x0 S).bind fun p2=>
(qbu x1 p2.2).bind fun p4=>
(qa4 E0 .geq 3 false false p2.1 p4.1).bind fun t5=>
(qa1 true t5).bind fun g7=>(bif g7 then some x0 else some (.tuple [])).bind fun t7=>
(qa1 true t5).bind fun g8=>(bif g8 then some x1 else some (.tuple [])).bind fun t8=>
(qa1 true t5).bind fun g9=>(bif g9 then qbu t8 p4.2 else some (.tuple [],p4.2)).bind fun p9=>
(qa1 true t5).bind fun g10=>(bif g10 then qbj E0 9 t7 none (some p9.1) none p9.2 else some (.tuple [],p9.2)).bind fun p10=>
(qa1 true t5).bind fun g11=>(bif g11 then some x1 else some (.tuple [])).bind fun t11=>
(qa1 true t5).bind fun g12=>(bif g12 then qa4 E0 .eql 9 false false p10.1 t11 else some (.tuple [])).bind fun t12=>
(qah t5 (some t12) (some (.bool false))).bind fun t13=>
some (.ret t13,p10.2):=by kernel_rfl
noncomputable def C23:Code:=Try.f23.body.getD .skip
noncomputable def B23:D:=(qc1 C23 [[],[]]).1
noncomputable def F23 (self:EV) (N:Nat) (x0 x1:V) (S:St):Rs:=qj3 E0 self N Try.f23 B23 [x0,x1] S
theorem F23_eq (self:EV) (N:Nat) (x0 x1:V) (S:St):F23 self N x0 x1 S =
qad (self.f 30 [x0,x1] S) fun t3 S3=>
some (.ret t3,S3):=by kernel_rfl
end
noncomputable section
noncomputable def C16:Code:=Try.f16.body.getD .skip
noncomputable def B16:D:=(qc1 C16 [[],[]]).1
noncomputable def F16 (self:EV) (N:Nat) (x0 x1:V) (S:St):Rs:=qj3 E0 self N Try.f16 B16 [x0,x1] S
theorem F16_eq (self:EV) (N:Nat) (x0 x1:V) (S:St):F16 self N x0 x1 S =
(qa2 x0).bind fun t2=>
(faP 2 false 1 t2).bind fun t3=>
(ld1 t3 (onS S)).bind fun p4=>
(qa2 x0).bind fun t6=>
(faP 3 false 1 t6).bind fun t7=>
(ld1 t7 (onS p4.2)).bind fun p8=>
(qbj E0 9 p4.1 (some p8.1) none none (onS p8.2)).bind fun p9=>
qi6 (qao E0 (B16.r.l).ops) S 10 [[],[],[],p4.2.log,[],[],[],p8.2.log,p9.2.log,[]] (self.f 23 [p9.1,x1] (onS p9.2)) fun t11 S11=>
qfq [(3,[7])] S [[],[],[],p4.2.log,[],[],[],p8.2.log,p9.2.log,[],S11.log,[]] (onS S11) fun S13=>
some (.ret t11,S13):=by kernel_rfl
noncomputable def C18:Code:=Try.f18.body.getD .skip
noncomputable def B18:D:=(qc1 C18 [[]]).1
noncomputable def F18 (self:EV) (N:Nat) (x0:V) (S:St):Rs:=qj3 E0 self N Try.f18 B18 [x0] S
theorem F18_eq (self:EV) (N:Nat) (x0:V) (S:St):F18 self N x0 S =
(unV .not x0).bind fun t1=>
ifK t1 (
(qau E0 37 []).bind fun t2=>
qad (qmf (.iface 37 t2) S) fun t4 S4=>
some (.ret (.tuple []),S4)) (
some (.ret (.tuple []),S)):=by kernel_rfl
noncomputable def C13:Code:=Try.f13.body.getD .skip
noncomputable def B13:D:=(qc1 C13 [[],[],[]]).1
noncomputable def F13 (self:EV) (N:Nat) (x0 x1:V) (S:St):Rs:=qj3 E0 self N Try.f13 B13 [x0,x1] S
theorem F13_eq (self:EV) (N:Nat) (x0 x1:V) (S:St):F13 self N x0 x1 S =
(boxK 50 x1 S).bind fun p0=>
(qa2 x0).bind fun t4=>
(faP 0 true 2 t4).bind fun t5=>
(faP 0 false 1 t5).bind fun t6=>
(ld1 t6 (onS p0.2)).bind fun p7=>
(ldA 258 p0.1 (onS p7.2)).bind fun p8=>
(bsP 50 258 1 (Tr.ofListFrom .nil [(.bool false),(.bool false),(.bool false),(.bool false),(.bool false),(.bool false),(.bool false),(.bool false),(.bool false),(.bool false),(.bool false),(.bool false),(.bool false),(.bool false),(.bool false),(.bool false),(.bool false),(.bool false),(.bool false),(.bool false),(.bool false),(.bool false),(.bool false),(.bool false),(.bool false),(.bool false),(.bool false),(.bool false),(.bool false),(.bool false),(.bool false),(.bool false),(.bool false),(.bool false),(.bool false),(.bool false),(.bool false),(.bool false),(.bool false),(.bool false),(.bool false),(.bool false),(.bool false),(.bool false),(.bool false),(.bool false),(.bool false),(.bool false),(.bool false),(.bool false),(.bool false),(.bool false),(.bool false),(.bool false),(.bool false),(.bool false),(.bool false),(.bool false),(.bool false),(.bool false),(.bool false),(.bool false),(.bool false),(.bool false),(.bool false),(.bool false),(.bool false),(.bool false),(.bool false),(.bool false),(.bool false),(.bool false),(.bool false),(.bool false),(.bool false),(.bool false),(.bool false),(.bool false),(.bool false),(.bool false),(.bool false),(.bool false),(.bool false),(.bool false),(.bool false),(.bool false),(.bool false),(.bool false),(.bool false),(.bool false),(.bool false),(.bool false),(.bool false),(.bool false),(.bool false),(.bool false),(.bool false),(.bool false),(.bool false),(.bool false),(.bool false),(.bool false),(.bool false),(.bool false),(.bool false),(.bool false),(.bool false),(.bool false),(.bool false),(.bool false),(.bool false),(.bool false),(.bool false),(.bool false),(.bool false),(.bool false),(.bool false),(.bool false),(.bool false),(.bool false),(.bool false),(.bool false),(.bool false),(.bool false),(.bool false),(.bool false),(.bool false),(.bool false),(.bool false),(.bool false),(.bool false),(.bool false),(.bool false),(.bool false),(.bool false),(.bool false),(.bool false),(.bool false),(.bool false),(.bool false),(.bool false),(.bool false),(.bool false),(.bool false),(.bool false),(.bool false),(.bool false),(.bool false),(.bool false),(.bool false),(.bool false),(.bool false),(.bool false),(.bool false),(.bool false),(.bool false),(.bool false),(.bool false),(.bool false),(.bool false),(.bool false),(.bool false),(.bool false),(.bool false),(.bool false),(.bool false),(.bool false),(.bool false),(.bool false),(.bool false),(.bool false),(.bool false),(.bool false),(.bool false),(.bool false),(.bool false),(.bool false),(.bool false),(.bool false),(.bool false),(.bool false),(.bool false),(.bool false),(.bool false),(.bool false),(.bool false),(.bool false),(.bool false),(.bool false),(.bool false),(.bool false),(.bool false),(.bool false),(.bool false),(.bool false),(.bool false),(.bool false),(.bool false),(.bool false),(.bool false),(.bool false),(.bool false),(.bool false),(.bool false),(.bool false),(.bool false),(.bool false),(.bool false),(.bool false),(.bool false),(.bool false),(.bool false),(.bool false),(.bool false),(.bool false),(.bool false),(.bool false),(.bool false),(.bool false),(.bool false),(.bool false),(.bool false),(.bool false),(.bool false),(.bool false),(.bool false),(.bool false),(.bool false),(.bool false),(.bool false),(.bool false),(.bool false),(.bool false),(.bool false),(.bool false),(.bool false),(.bool false),(.bool false),(.bool false),(.bool false),(.bool false),(.bool false),(.bool false),(.bool false),(.bool false),(.bool false),(.bool false),(.bool false),(.bool false),(.bool false),(.bool false),(.bool false),(.bool false),(.bool false),(.bool false),(.bool false),(.int .i64 0),(.int .i64 0)] 0) [(0,p8.1)] (onS p8.2)).bind fun p9=>
(apP 50 258 272 p7.1 p9.1 (onS p9.2)).bind fun p10=>
(qa2 x0).bind fun t11=>
(faP 0 true 2 t11).bind fun t12=>
(faP 0 false 1 t12).bind fun t13=>
(stP 1 t13 p10.1 (onS p10.2)).bind fun p14=>
qfq [(5,[6,7])] p0.2 [[],[],[],[],[],p7.2.log,p8.2.log,p9.2.log,p10.2.log,[],[],[],p14.2.log] p14.2 fun S15=>
(qa2 x0).bind fun t17=>
(faP 0 true 2 t17).bind fun t18=>
(faP 0 false 1 t18).bind fun t19=>
(ld1 t19 S15).bind fun p20=>
(lnS p20.1 p20.2).bind fun p21=>
(qa4 E0 .sub 3 false true p21.1 (.int .i64 1)).bind fun t22=>
some (.ret t22,p21.2):=by kernel_rfl
noncomputable def C27:Code:=Try.f27.body.getD .skip
noncomputable def B27:D:=(qc1 C27 [[],[],[],[],[]]).1
noncomputable def F27 (self:EV) (N:Nat) (x0 x1:V) (S:St):Rs:=qj3 E0 self N Try.f27 B27 [x0,x1] S
theorem F27_eq (self:EV) (N:Nat) (x0 x1:V) (S:St):F27 self N x0 x1 S =
(qau E0 50 [(1,(.int .i64 0))]).bind fun t1=>
(some (nwP 50 258 (Tr.ofListFrom .nil [(.bool false),(.bool false),(.bool false),(.bool false),(.bool false),(.bool false),(.bool false),(.bool false),(.bool false),(.bool false),(.bool false),(.bool false),(.bool false),(.bool false),(.bool false),(.bool false),(.bool false),(.bool false),(.bool false),(.bool false),(.bool false),(.bool false),(.bool false),(.bool false),(.bool false),(.bool false),(.bool false),(.bool false),(.bool false),(.bool false),(.bool false),(.bool false),(.bool false),(.bool false),(.bool false),(.bool false),(.bool false),(.bool false),(.bool false),(.bool false),(.bool false),(.bool false),(.bool false),(.bool false),(.bool false),(.bool false),(.bool false),(.bool false),(.bool false),(.bool false),(.bool false),(.bool false),(.bool false),(.bool false),(.bool false),(.bool false),(.bool false),(.bool false),(.bool false),(.bool false),(.bool false),(.bool false),(.bool false),(.bool false),(.bool false),(.bool false),(.bool false),(.bool false),(.bool false),(.bool false),(.bool false),(.bool false),(.bool false),(.bool false),(.bool false),(.bool false),(.bool false),(.bool false),(.bool false),(.bool false),(.bool false),(.bool false),(.bool false),(.bool false),(.bool false),(.bool false),(.bool false),(.bool false),(.bool false),(.bool false),(.bool false),(.bool false),(.bool false),(.bool false),(.bool false),(.bool false),(.bool false),(.bool false),(.bool false),(.bool false),(.bool false),(.bool false),(.bool false),(.bool false),(.bool false),(.bool false),(.bool false),(.bool false),(.bool false),(.bool false),(.bool false),(.bool false),(.bool false),(.bool false),(.bool false),(.bool false),(.bool false),(.bool false),(.bool false),(.bool false),(.bool false),(.bool false),(.bool false),(.bool false),(.bool false),(.bool false),(.bool false),(.bool false),(.bool false),(.bool false),(.bool false),(.bool false),(.bool false),(.bool false),(.bool false),(.bool false),(.bool false),(.bool false),(.bool false),(.bool false),(.bool false),(.bool false),(.bool false),(.bool false),(.bool false),(.bool false),(.bool false),(.bool false),(.bool false),(.bool false),(.bool false),(.bool false),(.bool false),(.bool false),(.bool false),(.bool false),(.bool false),(.bool false),(.bool false),(.bool false),(.bool false),(.bool false),(.bool false),(.bool false),(.bool false),(.bool false),(.bool false),(.bool false),(.bool false),(.bool false),(.bool false),(.bool false),(.bool false),(.bool false),(.bool false),(.bool false),(.bool false),(.bool false),(.bool false),(.bool false),(.bool false),(.bool false),(.bool false),(.bool false),(.bool false),(.bool false),(.bool false),(.bool false),(.bool false),(.bool false),(.bool false),(.bool false),(.bool false),(.bool false),(.bool false),(.bool false),(.bool false),(.bool false),(.bool false),(.bool false),(.bool false),(.bool false),(.bool false),(.bool false),(.bool false),(.bool false),(.bool false),(.bool false),(.bool false),(.bool false),(.bool false),(.bool false),(.bool false),(.bool false),(.bool false),(.bool false),(.bool false),(.bool false),(.bool false),(.bool false),(.bool false),(.bool false),(.bool false),(.bool false),(.bool false),(.bool false),(.bool false),(.bool false),(.bool false),(.bool false),(.bool false),(.bool false),(.bool false),(.bool false),(.bool false),(.bool false),(.bool false),(.bool false),(.bool false),(.bool false),(.bool false),(.bool false),(.bool false),(.bool false),(.bool false),(.bool false),(.bool false),(.bool false),(.bool false),(.bool false),(.bool false),(.bool false),(.bool false),(.bool false),(.bool false),(.bool false),(.int .i64 0),(.int .i64 0)] 0) S)).bind fun p2=>
(stP 258 p2.1 t1 p2.2).bind fun p3=>
(faP 0 true 256 p2.1).bind fun t5=>
(faP 0 true 256 t5).bind fun t6=>
(ixA 256 1 false 1 t6 x1).bind fun t7=>
(stP 1 t7 (.bool true) p3.2).bind fun p8=>
(ldA 258 p2.1 p8.2).bind fun p10=>
qad (self.f 13 [x0,p10.1] p10.2) fun t11 S11=>
some (.ret (.bool false),S11):=by kernel_rfl
end
end Go.Proofs.Ytachpdpmoihjmaa.W
