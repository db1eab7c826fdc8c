/-
  WHAT THE FUNCTIONS COME TO: each is read by the evaluator,printed,and told as a function of data,part 6 of 17 (no condition).
-/
import Derived.Test.YtafbipadnnmccaaDoorW5
noncomputable section
namespace Go.Proofs.YtafbipadnnmccaaDoor.W
open Go.Proofs.YtafbipadnnmccaaDoor.Ev Go.RowKit
section
variable {S U T:St}
def RV (S:St) (v:V) (e z:Nat) (ts:List (Tr V)):Prop:=(ts=[]/\v=.nilslice)\/∃r,RowAt S r e z ts/\r<S.next/\0<ts.length/\(v=.oslice r 0 ts.length z\/v=.slice r 0 ts.length ts.length)
theorem RV.len {v:V} {e z:Nat} {ts:List (Tr V)} (h:RV S v e z ts) (T:St):lnS v T=some (.int .i64 (ts.length:Int),T):=by
 rcases h with⟨rfl,rfl⟩|⟨r,_,_,_,rfl|rfl⟩<;>rfl
theorem RV.at {v:V} {e z:Nat} {ts:List (Tr V)} (h:RV S v e z ts) {i:Nat} (hi:i<ts.length):∃r,qa8 v=some r/\ixP z v (.int .i64 (i:Int))=some (.ptr r (i*z))/\RowAt S r e z ts/\r<S.next:=by
 rcases h with⟨rfl,_⟩|⟨r,h1,h2,h3,rfl|rfl⟩
 . simp at hi
 . refine⟨r,rfl,?_,h1,h2⟩
   show(bif Nat.blt i ts.length then some (V.ptr r (0+i*z))else none)=_;rw[blt_true.2 hi,cT,Nat.zero_add]
 . refine⟨r,rfl,?_,h1,h2⟩
   show(bif Nat.blt i ts.length then some (V.ptr r (0+i*z))else none)=_;rw[blt_true.2 hi,cT,Nat.zero_add]
theorem RV.grew {W:Nat->Prop} {v:V} {e z:Nat} {ts:List (Tr V)} (h:RV S v e z ts) (hw:∀r,qa8 v=some r->¬W r) (g:Grew W S U):RV U v e z ts:=by
 rcases h with h|⟨r,h1,h2,h3,h4⟩
 . exact .inl h
 . exact .inr ⟨r,h1.grew h2 (hw r (by rcases h4 with rfl|rfl<;>rfl)) g,Nat.lt_of_lt_of_le h2 g.next,h3,h4⟩
theorem RV.blk_lt {v:V} {e z:Nat} {ts:List (Tr V)} (h:RV S v e z ts) {r:Nat} (hr:qa8 v=some r):r<S.next:=by
 rcases h with⟨_,rfl⟩|⟨r',h1,h2,h3,rfl|rfl⟩
 . cases hr
 . cases hr; exact h2
 . cases hr; exact h2
theorem nw_log {s:St} (ho:s.on=false) (o:O):(nw s o).log=s.log:=by
 unfold nw;rw[qby ho]; rfl
def PV (S:St) (z:Nat) (y:V) (m:List (Tr V)):Prop:=lenV y=some m.length/\qc2 z m.length y S=some (m,S)
theorem RowAt.all (ho:S.on=false) {b e z:Nat} {l:List (Tr V)} (h:RowAt S b e z l) (i n:Nat) (hn:i+n<=l.length):ldN b z n (i*z) S=some ((l.drop i).take n,S):=h.ldN ho n i hn
theorem sizeB_off (ho:S.on=false) {r e z:Nat} {l:List (Tr V)} (h:RowAt S r e z l):sizeB S r=some (z*l.length,S):=by
 obtain⟨c,h1,_⟩:=h.row;unfold sizeB;rw[h1];simp only[blt_true.2 h.fit,cT,qby ho]
theorem RV.cat {v y:V} {e z B:Nat} {ts m:List (Tr V)} (h:RV S v e z ts) (ho:S.on=false) (h0:0<z) (hy:PV S z y m) (hl:ts.length+m.length<=100000) (hB:B+z<=1000):∃v' U,apP e z B v y S=some (v',U)/\RV U v' e z (ts++m)/\Grew (fun x=>qa8 v=some x) S U/\(∀r,qa8 v'=some r->qa8 v=some r\/S.next<=r)/\U.log=S.log:=by
 obtain⟨y1,y2⟩:=hy;have hlen:lenV v=some ts.length:=by rcases h with⟨rfl,rfl⟩|⟨r,_,_,_,rfl|rfl⟩<;>rfl
 have hap:apP e z B v y S=qey e z m.length v y S:=by
  have hmx:(ts.length+m.length)*(B+z+1)<qbd:=by
   have:(ts.length+m.length)*(B+z+1)<=100000*1001:=Nat.mul_le_mul hl (by omega);unfold qbd; omega
  unfold apP;rw[y1,oB,hlen,oB,blt_true.2 hmx,cT]
 have hfit:z*(ts++m).length<big:=by
  have:z*(ts.length+m.length)<=1000*100000:=Nat.mul_le_mul (by omega) hl;rw[lAq]; unfold big; omega
 rw[hap];unfold qey;rw[y2,oB];rcases Nat.eq_zero_or_pos m.length with hm|hm
 . have hme:m=[]:=List.eq_nil_of_length_eq_zero hm
   subst hme;refine⟨v,S,?_,by rw[List.append_nil]; exact h,Grew.refl _ _,fun r hr=>.inl hr,rfl⟩;rcases h with⟨rfl,rfl⟩|⟨r,h1,h2,h3,rfl|rfl⟩
   . rfl
   . simp only[List.length_nil,Nat.add_zero,Nat.beq_refl,cT,Nat.zero_add]
     rw[sizeB_off ho h1,oB];simp only;rw[ble_true.2 (show ts.length*z<=z*ts.length by rw[Nat.mul_comm]; exact lR _),cT]; rfl
   . simp only[List.length_nil,Nat.add_zero]
     rw[ble_true.2 (lR _),cT]; rfl
 . rcases h with⟨rfl,rfl⟩|⟨r,h1,h2,h3,rfl|rfl⟩
   . refine⟨.oslice S.next 0 m.length z,qb4 S e z m,?_,.inr ⟨S.next,by rw[List.nil_append]; exact qhv ho h0 (by simpa using hfit),by show S.next<S.next+1; omega,by simpa using hm,.inl (by rw[List.nil_append])⟩,(qju ho _ _),fun r hr=>by cases hr; exact .inr (lR _),nw_log ho _⟩
     simp only;rw[show Nat.beq m.length 0=false from beq_false.2 (by omega),cF]
   . obtain⟨c,hc1,hc2⟩:=h1.row
     have hf1:=h1.fit;refine⟨.oslice S.next 0 (ts++m).length z,nw (S.put r .dead) (.cells e z (ts.length+m.length) false (Ev.addL c m ts.length)),?_,.inr ⟨S.next,?_,by show S.next<S.next+1; omega,by rw[lAq]; omega,.inl rfl⟩,?_,fun x hx=>by cases hx; exact .inr (lR _),nw_log (s:=S.put r .dead) ho _⟩
     . simp only[Nat.beq_refl,cT,Nat.zero_add]
       rw[sizeB_off ho h1,oB];simp only
       rw[show Nat.ble ((ts.length+m.length)*z) (z*ts.length)=false from by
        rw[qlv,Nat.add_mul,Nat.mul_comm z];have:0<m.length*z:=Nat.mul_pos hm h0
        omega,cF]
       unfold qmi;rw[hc1];simp only[Nat.beq_refl,Bool.not_true,Bool.or_self,cF,show Nat.beq 0 0=true from rfl,blt_true.2 hf1,Bool.and_self,cT];rw[qe1,lAq];unfold setO;rw[qby ho]
     . refine qje (s:=S.put r .dead) ho h0 (by rw[lAq]) (by rw[lAq]at hfit; exact hfit) fun i t hi=>?_
       rw[Ev.addL_get];have hlt:=(List.getElem?_eq_some_iff.1 hi).1;rw[lAq]at hlt;by_cases hc:ts.length<=i
       . rw[iP ⟨hc,hlt⟩]
         rw[List.getElem?_append_right hc]at hi;exact hi
       . rw[iN (fun h=>hc h.1)]
         rw[List.getElem?_append_left (by omega)]at hi;exact hc2 i t hi
     . exact⟨by show S.next<=S.next+1; omega,(nw_on (s:=S.put r .dead) ho _).trans ho.symm,fun x hx hw=>by
        rw[nw_get,iN (by show x≠S.next; omega),qn7,iN (fun q=>hw (by rw[q]; rfl))]⟩
   . have hld:=RowAt.all ho h1 0 ts.length (by omega)
     rw[Nat.zero_mul,List.drop_zero,List.take_of_length_le (lR _)]at hld;refine⟨.oslice S.next 0 (ts++m).length z,qb4 S e z (ts++m),?_,.inr ⟨S.next,qhv ho h0 hfit,by show S.next<S.next+1; omega,by rw[lAq]; omega,.inl rfl⟩,(qju ho _ _),fun r hr=>by cases hr; exact .inr (lR _),nw_log ho _⟩;simp only;rw[show Nat.ble (ts.length+m.length) ts.length=false from by rw[qlv]; omega,cF,show qc2 z ts.length (.slice r 0 ts.length ts.length) S=_ from hld,oB];simp only;rw[lAq]
theorem RV.pv (ho:S.on=false) {v:V} {e z:Nat} {ts:List (Tr V)} (h:RV S v e z ts):PV S z v ts:=by
 rcases h with⟨rfl,rfl⟩|⟨r,h1,h2,h3,rfl|rfl⟩
 . exact⟨rfl,rfl⟩
 . have:=RowAt.all ho h1 0 ts.length (by omega)
   rw[Nat.zero_mul,List.drop_zero,List.take_of_length_le (lR _)]at this;exact⟨rfl,this⟩
 . have:=RowAt.all ho h1 0 ts.length (by omega)
   rw[Nat.zero_mul,List.drop_zero,List.take_of_length_le (lR _)]at this;exact⟨rfl,this⟩
theorem RV.one {r e z:Nat} {t:Tr V} (h:RowAt S r e z [t]) (hr:r<S.next):RV S (.slice r 0 1 1) e z [t]:=.inr ⟨r,h,hr,by simp,.inr rfl⟩
theorem qhx (e z:Nat):RV S .nilslice e z []:=.inl ⟨rfl,rfl⟩
theorem qfk (ho:S.on=false) (e z:Nat) (zt:Tr V) (t:Tr V) (h0:0<z) (hz:z<1000):∃y T,bsP e z 1 zt [(0,.agg z t)] S=some (y,T)/\RV T y e z [t]/\qa8 y=some S.next/\Grew (fun _=>False) S T/\T.next=S.next+1:=by
 have hrow:RowAt (nw S (.cells e z 1 false ((Tr.tab 1 1 fun _=>zt).set t 0))) S.next e z [t]:=by
  refine qje ho h0 rfl (by unfold big; omega) fun i u h=>?_;rw[Tr.get_set];cases i with
  | zero=>simpa using h
  | succ i=>simp at h
 have hg:Grew (fun _=>False) S (nw S (.cells e z 1 false ((Tr.tab 1 1 fun _=>zt).set t 0))):=qju ho _ _;refine⟨.slice S.next 0 1 1,_,?_,RV.one hrow (by show S.next<S.next+1; omega),rfl,hg,rfl⟩;unfold bsP qi3 qi3;simp only[V.size,qae,V.cells,Nat.beq_refl,nF,Bool.and_true,show Nat.blt 0 1=true from rfl,cT,Tr.setC_eq,oB]
theorem rv_byte (ho:S.on=false) (c:UInt8):∃y T,bsP 5 1 1 (Ev.one (.int .u8 0)) [(0,.int .u8 (c.toNat:Int))] S=some (y,T)/\RV T y 5 1 ([c].map qgg)/\qa8 y=some S.next/\Grew (fun _=>False) S T/\T.next=S.next+1:=by
 obtain⟨T,h1,h2,h3,h4⟩:=bsP_byte ho 5 c;exact⟨_,T,h1,RV.one h2 (by omega),rfl,h3,h4⟩
theorem und79:und E0 79=some (.slice 5):=by kernel_rfl
theorem conv_rv (ho:S.on=false) {v:V} {bs:Bs} (h:RV S v 5 1 (bs.map qgg)) (hb:bs≠[]):qcd E0 79 9 v S=some (sv bs,S):=by
 have hp:qc2 1 bs.length v S=some (bs.map qgg,S):=by
  have:=(h.pv ho).2
  rwa [lM]at this
 have hl:lenV v=some bs.length:=by
  have:=(h.pv ho).1
  rwa [lM]at this
 rcases h with⟨h,_⟩|⟨r,h1,h2,h3,rfl|rfl⟩
 . exact absurd (List.map_eq_nil_iff.1 h) hb
 . unfold qcd
   rw[und79,qij];simp only[oB,qd6,Bool.or_self,cF,und5,hl,hp,qie];rfl
 . have:=convert_row (cap:=bs.length) ho und79 und5 qij h1 (off:=0) (len:=bs.length) (by omega)
   rw[lM];rw[List.drop_zero,List.take_of_length_le (lR _)]at this;exact this
def qcr (k:Nat) (t o:Bs) (q:Bool) (v:V):Tr V:=Tr.ofListFrom .nil [.int .i64 (k:Int),sv t,sv o,.bool q,v,.nilptr] 0
mutual
def PtAt (S:St) (Q:Nat->Prop):Part->Tr V->Prop
 | .mk k t o q w,c=>∃v rows,c=qcr k t o q v/\RV S v 49 6 rows/\PrAt S Q w rows/\∀r,qa8 v=some r->Q r
def PrAt (S:St) (Q:Nat->Prop):List Part->List (Tr V)->Prop
 | [],rows=>rows=[]
 | p::l,rows=>∃c rest,rows=c::rest/\PtAt S Q p c/\PrAt S Q l rest
end
mutual
theorem PtAt.mono {Q Q':Nat->Prop} (hQ:∀x,Q x->Q' x):∀{p:Part} {c:Tr V},PtAt S Q p c->PtAt S Q' p c
 | .mk k t o q w,c,h=>by
  simp only[PtAt]at h ⊢;obtain⟨v,rows,h1,h2,h3,h4⟩:=h;exact⟨v,rows,h1,h2,PrAt.mono hQ h3,fun r hr=>hQ r (h4 r hr)⟩
theorem PrAt.mono {Q Q':Nat->Prop} (hQ:∀x,Q x->Q' x):∀{l:List Part} {rows:List (Tr V)},PrAt S Q l rows->PrAt S Q' l rows
 | [],rows,h=>by simp only[PrAt]at h ⊢; exact h
 | p::l,rows,h=>by
  simp only[PrAt]at h ⊢;obtain⟨c,rest,h1,h2,h3⟩:=h;exact⟨c,rest,h1,PtAt.mono hQ h2,PrAt.mono hQ h3⟩
end
mutual
theorem PtAt.grew {W Q:Nat->Prop} (g:Grew W S U) (hW:∀x,Q x->¬W x):∀{p:Part} {c:Tr V},PtAt S Q p c->PtAt U Q p c
 | .mk k t o q w,c,h=>by
  simp only[PtAt]at h ⊢;obtain⟨v,rows,h1,h2,h3,h4⟩:=h;exact⟨v,rows,h1,h2.grew (fun r hr=>hW r (h4 r hr)) g,PrAt.grew g hW h3,h4⟩
theorem PrAt.grew {W Q:Nat->Prop} (g:Grew W S U) (hW:∀x,Q x->¬W x):∀{l:List Part} {rows:List (Tr V)},PrAt S Q l rows->PrAt U Q l rows
 | [],rows,h=>by simp only[PrAt]at h ⊢; exact h
 | p::l,rows,h=>by
  simp only[PrAt]at h ⊢;obtain⟨c,rest,h1,h2,h3⟩:=h;exact⟨c,rest,h1,PtAt.grew g hW h2,PrAt.grew g hW h3⟩
end
theorem PrAt.len {Q:Nat->Prop}:∀{l:List Part} {rows:List (Tr V)},PrAt S Q l rows->rows.length=l.length
 | [],rows,h=>by simp only[PrAt]at h; rw[h]; rfl
 | p::l,rows,h=>by
  simp only[PrAt]at h;obtain⟨c,rest,h1,h2,h3⟩:=h;rw[h1,List.length_cons,List.length_cons,PrAt.len h3]
theorem PrAt.append {Q:Nat->Prop}:∀{l m:List Part} {rows rows':List (Tr V)},PrAt S Q l rows->PrAt S Q m rows'->PrAt S Q (l++m) (rows++rows')
 | [],m,rows,rows',h,k=>by simp only[PrAt]at h; rw[h]; exact k
 | p::l,m,rows,rows',h,k=>by
  simp only[PrAt]at h;obtain⟨c,rest,rfl,h2,h3⟩:=h;rw[List.cons_append,List.cons_append];simp only[PrAt];exact⟨c,rest++rows',rfl,h2,PrAt.append h3 k⟩
theorem prAt_nil {Q:Nat->Prop}:PrAt S Q [] []:=by simp only[PrAt]
theorem prAt_one {Q:Nat->Prop} {p:Part} {c:Tr V} (h:PtAt S Q p c):PrAt S Q [p] [c]:=by
 simp only[PrAt];exact⟨c,[],rfl,h,rfl⟩
theorem qbg {Q:Nat->Prop} (k:Nat) (t o:Bs) (q:Bool):PtAt S Q (.mk k t o q []) (qcr k t o q .nilslice):=by
 simp only[PtAt,PrAt];exact⟨.nilslice,[],rfl,qhx _ _,rfl,fun r hr=>by cases hr⟩
end
end Go.Proofs.YtafbipadnnmccaaDoor.W
namespace Go.Proofs.YtafbipadnnmccaaDoor.W
open Go.Proofs.YtafbipadnnmccaaDoor.Ev
theorem qb1 {s:Bs} {i:Nat} {t:Bs} (h:atD s i t=true) (ht:t≠[]):i+t.length<=s.length:=by
 unfold atD at h;rw[beq_iff_eq]at h;have:=congrArg List.length h;rw[List.length_take,List.length_drop]at this;have:0<t.length:=List.length_pos_iff.2 ht;omega
theorem qkc:∀n,(∀s i d j,qgj n s i d=some j->i<j/\j<=s.length)/\(∀s i j,qkx n s i=some j->i<j/\j<=s.length)
 | 0=>⟨fun s i d j h=>by(unfold qgj at h; cases h),fun s i j h=>by(unfold qkx at h; cases h)⟩
 | n+1=>by
  obtain⟨hC,hQ⟩:=qkc n;refine⟨fun s i d j h=>?_,fun s i j h=>?_⟩
  . unfold qgj at h
    split at h
    . split at h
      . have:=hC _ _ _ _ h; omega
      . split at h
        . split at h
          . cases h
          . rename_i k hk
            have:=qdu hk;have:=hC _ _ _ _ h; omega
        . split at h
          . split at h
            . cases h
            . rename_i k hk
              have:=hQ _ _ _ hk;have:=hC _ _ _ _ h; omega
          . split at h
            . have:=hC _ _ _ _ h; omega
            . split at h
              . split at h
                . cases h; omega
                . have:=hC _ _ _ _ h; omega
              . have:=hC _ _ _ _ h; omega
    . cases h
  . unfold qkx at h
    split at h
    . split at h
      . have:=hQ _ _ _ h; omega
      . split at h
        . cases h; omega
        . split at h
          . split at h
            . cases h
            . rename_i k hk
              have:=hC _ _ _ _ hk;have:=hQ _ _ _ h; omega
          . have:=hQ _ _ _ h; omega
    . cases h
theorem qjt (w:Nat) (out:List Part) (text:Bs):(qi4 w out text).length<=out.length+text.length:=by
 unfold qi4;split
 . omega
 . rename_i h
   have:0<text.length:=List.length_pos_iff.2 h;rw[lAq,List.length_singleton]; omega
theorem par_le (s:Bs) (i:Nat) (m:Bs) (h:qcw (s.drop i) m≠0):i+qcw (s.drop i) m<=s.length:=by
 have:=qgs (s.drop i) m;rw[List.length_drop]at this;omega
theorem qmc {s:Bs} {k:Nat} {o:Bs} (h:(opsT.find? fun o=>atD s k o)=some o):atD s k o=true/\k+o.length<=s.length/\0<o.length:=by
 have h1:=List.find?_some h;have h2:=List.mem_of_find?_eq_some h
 have h3:o≠[]:=by
  rintro rfl;revert h2
  decide
 exact⟨h1,qb1 h1 h3,List.length_pos_iff.2 h3⟩
theorem qcc:∀n,(∀s w deep i out text l j,qam n s w deep i out text=.ok (l,j)->i<=s.length->i<=j/\j<=s.length/\l.length+i<=out.length+text.length+j)/\(∀s w deep i p j,qh6 n s w deep i=.ok (some (p,j))->i<j/\j<=s.length)
 | 0=>⟨fun s w deep i out text l j h=>by(unfold qam at h; cases h),fun s w deep i p j h=>by(unfold qh6 at h; cases h)⟩
 | n+1=>by
  obtain⟨hP,hD⟩:=qcc n;refine⟨fun s w deep i out text l j h hi=>?_,fun s w deep i p j h=>?_⟩
  . unfold qam at h
    split at h
    . rename_i hlt
      have hf:=qjt w out text;split at h
      . rename_i ha
        have:=qb1 ha (by simp);have:=hP _ _ _ _ _ _ _ _ h (by simpa using this);omega
      . split at h
        . split at h
          . cases h
          . split at h
            . have:=hP _ _ _ _ _ _ _ _ h (by omega)
              have e:(text++(if(List.contains [36,96,92] (byt s (i+1))||byt s (i+1)==34&&w != 2)=true then []else [92])++[byt s (i+1)]).length<=text.length+2:=by
               simp only[lAq,List.length_singleton];split<;>simp
              omega
            . have:=hP _ _ _ _ _ _ _ _ h (by omega)
              simp only[lAq,List.length_singleton,List.length_nil]at this;omega
        . split at h
          . split at h
            . cases h
            . have:=hP _ _ _ _ _ _ _ _ h (by omega)
              simp only[lAq,List.length_singleton]at this;omega
            . rename_i p k hk
              have h1:=hD _ _ _ _ _ _ hk;have:=hP _ _ _ _ _ _ _ _ h (by omega);simp only[lAq,List.length_singleton,List.length_nil]at this;omega
          . split at h
            . cases h
            . split at h
              . split at h
                . cases h
                . rename_i k hk
                  have h1:=qdu hk;have:=hP _ _ _ _ _ _ _ _ h (by omega);simp only[lAq,List.length_singleton,List.length_nil]at this;omega
              . split at h
                . split at h
                  . cases h
                  . rename_i l' k hk
                    have h1:=hP _ _ _ _ _ _ _ _ hk (by omega);split at h
                    . rename_i ha
                      have h2:=qb1 ha (by simp);have:=hP _ _ _ _ _ _ _ _ h (by simpa using h2);have e:(if l'.isEmpty=true then [Part.mk 1 [] [] true []]else l').length<=l'.length+1:=by split<;>simp
                      simp only[lAq,List.length_nil]at this h1;omega
                    . cases h
                . have:=hP _ _ _ _ _ _ _ _ h (by omega)
                  simp only[lAq,List.length_singleton]at this;omega
    . have hf:=qjt w out text
      cases h;omega
  . unfold qh6 at h
    split at h
    . cases h
    . split at h
      . split at h
        . cases h
        . rename_i k hk
          have:=(qkc _).1 _ _ _ _ hk;cases h;omega
      . split at h
        . split at h
          . cases h
          . split at h
            . rename_i hc
              simp only[bA]at hc;have:=qb1 hc.2 (by simp);simp only[List.length_singleton]at this;cases h;omega
            . dsimp only at h
              split at h
              . cases h
              . split at h
                . rename_i hc
                  have:=qb1 hc (by simp);simp only[List.length_singleton]at this;cases h;omega
                . split at h
                  . cases h
                  . rename_i o ho
                    have h1:=qmc ho;split at h
                    . cases h
                    . rename_i l k hk
                      have h2:=hP _ _ _ _ _ _ _ _ hk (by omega);split at h
                      . rename_i ha
                        have h3:=qb1 ha (by simp);simp only[List.length_singleton]at h3;cases h;omega
                      . cases h
        . dsimp only at h
          split at h
          . cases h
          . rename_i hm
            have:=par_le s (i+1) _ hm;cases h;omega
open Go.RowKit
theorem ql0 {E:Env} {self:EV} {f:FuncId} (h:E.ext.get f=none) (hb:qdj E f=true) (x y args:List V) (S:St):qcg E self (.fn (.func f) x y) args S=self.f f (x++args++y) S:=by
 show(match E.ext.get f with|some k=>_|none=>_)=_;rw[h];show(bif qdj E f then self.f f (x++args++y) S else none)=_;rw[hb]; rfl
def zP:Tr V:=Tr.ofListFrom .nil [(.int .i64 0),(sv []),(sv []),(.bool false),.nilslice,.nilptr] 0
theorem build_lit (t:Bs) (q:Bool):qa7 E0 49 [(0,(.int .i64 0)),(1,sv t),(3,.bool q)]=some (.agg 6 (qcr 0 t [] q .nilslice)):=by kernel_rfl
theorem set_kind (t o:Bs) (q:Bool) (v:V):(qcr 0 t o q v).set (.int .i64 1) 0=qcr 1 t o q v:=by kernel_rfl
theorem qej:6<big:=by unfold big; decide
section
variable {S U T:St}
theorem ag1 (ho:S.on=false) {x e:Nat} {v:V} (h:AgAt S x e 1 (Ev.one v)):ld1 (.ptr x 0) S=some (v,S):=AgAt.ld1 ho h big1 (by decide) rfl
theorem qhq {v:V} {e z:Nat} {ts:List (Tr V)} (h:RV S v e z ts):v.size=1/\v.cells=Ev.one v/\qae v=false:=by
 rcases h with⟨_,rfl⟩|⟨r,_,_,_,rfl|rfl⟩<;>exact⟨rfl,rfl,rfl⟩
structure PS (S:St) (N b:Nat) (s:Bs) (i:Nat) (vT vW:V) (w:Nat) (out:List Part) (text:Bs) (vo vt:V):Prop where
 on:S.on=false
 lx:Lx S b s i vT vW
 bN:b<N
 hi:N+4<=S.next
 pin:AgAt S (N+2) 4 1 (Ev.one (.bool (inD w)))
 pfl:AgAt S (N+3) 1 1 (Ev.one (.fn (.func 69) [] [.ptr (N+1) 0,.ptr (N+2) 0,.ptr N 0]))
 po:AgAt S N 37 1 (Ev.one vo)
 pt:AgAt S (N+1) 79 1 (Ev.one vt)
 tx:RV S vt 5 1 (text.map qgg)
 ot:∃rows,RV S vo 49 6 rows/\PrAt S (fun x=>N+4<=x/\x<S.next/\qa8 vo≠some x/\qa8 vt≠some x) out rows
 ob:∀r,qa8 vo=some r->N+4<=r/\qa8 vt≠some r
 tb:∀r,qa8 vt=some r->N+4<=r
variable {N b i i':Nat} {s:Bs} {vT vW vT' vW' vo vt:V} {w:Nat} {out:List Part} {text:Bs}
theorem PS.move {W:Nat->Prop} (h:PS S N b s i vT vW w out text vo vt) (g:Grew W S U) (hW:∀x,W x->x<N) (l:Lx U b s i' vT' vW'):PS U N b s i' vT' vW' w out text vo vt:=by
 obtain⟨rows,r1,r2⟩:=h.ot;have hhi:=h.hi;have nx:=g.next
 have k:∀{x e v},x<N+4->N<=x->AgAt S x e 1 v->AgAt U x e 1 v:=fun hx hN ha=>ha.grew (by omega) (fun hw=>by have:=hW _ hw; omega) g
 exact⟨g.on.trans h.on,l,h.bN,by omega,k (by omega) (by omega) h.pin,k (by omega) (by omega) h.pfl,k (by omega) (by omega) h.po,k (by omega) (by omega) h.pt,h.tx.grew (fun r hr hw=>by have:=hW _ hw; have:=h.tb r hr; omega) g,
  ⟨rows,r1.grew (fun r hr hw=>by have:=hW _ hw; have:=(h.ob r hr).1; omega) g,(r2.grew g fun x hx hw=>by have:=hW _ hw; omega).mono fun x hx=>⟨hx.1,by omega,hx.2.2⟩⟩,h.ob,h.tb⟩
theorem PS.fresh (h:PS S N b s i vT vW w out text vo vt) (hb:b<S.next) (g:Grew (fun _=>False) S U):PS U N b s i vT vW w out text vo vt:=
 h.move g (fun _ h=>h.elim) (h.lx.grew hb (fun h=>h) g)
theorem PS.push (h:PS S N b s i vT vW w out text vo vt) (hl:text.length<50000) (c:UInt8):∃U vt',(∀k:V×St->Rs,((ld1 (.ptr (N+1) 0) S).bind fun p=>(bsP 5 1 1 (Ev.one (.int .u8 0)) [(0,.int .u8 (c.toNat:Int))] p.2).bind fun q=>(apP 5 1 1 p.1 q.1 q.2).bind fun r=>(stP 1 (.ptr (N+1) 0) r.1 r.2).bind k)=k (.tuple [],U))/\
 PS U N b s i vT vW w out (text++[c]) vo vt'/\Grew (fun x=>N<=x) S U:=by
 have hbS:b<S.next:=by have:=h.bN; have:=h.hi; omega
 obtain⟨y,T1,a1,a2,a3,a4,a5⟩:=rv_byte h.on c;have h1:=h.fresh hbS a4;obtain⟨v',T2,b1,b2,b3,b4,_⟩:=h1.tx.cat h1.on (by omega) (a2.pv h1.on) (B:=1) (by simp only[lM,List.length_singleton]; omega) (by omega);have nx1:=a4.next
 have nx2:=b3.next
 have hhi:=h1.hi;have on2:=b3.on.trans h1.on;have hg2:Grew (fun x=>N+4<=x) T1 T2:=b3.mono fun x _ hx=>h1.tb x hx;have k:∀{x e v},x<N+4->AgAt T1 x e 1 v->AgAt T2 x e 1 v:=fun hx ha=>ha.grew (by omega) (fun hw=>by have:=h1.tb _ hw; omega) b3;obtain⟨q1,q2,q3⟩:=qhq b2;obtain⟨T3,c1,c2,c3,c4⟩:=(k (by omega) h1.pt).st_one on2 v' q1 q2 q3;have nx3:=c3.next
 obtain⟨rows,r1,r2⟩:=h1.ot;have hnew:∀r,qa8 v'=some r->qa8 vt=some r\/T1.next<=r:=b4
 have kk:∀{x e v},x<N+4->x≠N+1->AgAt T1 x e 1 v->AgAt T3 x e 1 v:=fun hx hne ha=>(k hx ha).grew (by omega) hne c3;refine⟨T3,v',fun kf=>?_,⟨c3.on.trans on2,?_,h1.bN,by omega,kk (by omega) (by omega) h1.pin,kk (by omega) (by omega) h1.pfl,kk (by omega) (by omega) h1.po,c2,?_,⟨rows,?_,?_⟩,?_,?_⟩,?_⟩
 . rw[ag1 h.on h.pt,oB]
   dsimp only;rw[a1,oB];dsimp only;rw[b1,oB];dsimp only;rw[c1,oB]
 . have:=h1.bN
   exact(h1.lx.grew (by omega) (fun hw=>by have:=h1.tb _ hw; omega) b3).grew (by omega) (by omega) c3
 . rw[List.map_append]
   refine b2.grew (fun r hr hx=>?_) c3;subst hx;rcases hnew _ hr with h|h
   . have:=h1.tb _ h; omega
   . omega
 . refine(r1.grew (fun r hr hw=>(h1.ob r hr).2 hw) b3).grew (fun r hr hx=>?_) c3
   have:=(h1.ob r hr).1;omega
 . refine((r2.grew b3 fun x hx hw=>hx.2.2.2 hw).grew c3 fun x hx he=>by omega).mono fun x hx=>⟨hx.1,by omega,hx.2.2.1,fun hv=>?_⟩
   rcases hnew _ hv with h|h
   . exact hx.2.2.2 h
   . omega
 . intro r hr
   refine⟨(h1.ob r hr).1,fun hv=>?_⟩;rcases hnew _ hv with h|h
   . exact(h1.ob r hr).2 h
   . have:=r1.blk_lt hr; omega
 . intro r hr
   rcases hnew _ hr with h|h
   . exact h1.tb r h
   . omega
 . exact((a4.mono fun _ _ h=>h.elim).trans (hg2.mono fun x _ hx=>by omega)).trans (c3.mono fun x _ hx=>by omega)
theorem PS.cat (h:PS S N b s i vT vW w out [] vo vt) {y:V} {m:List (Tr V)} {ps:List Part} (hy:RV S y 49 6 m) (hps:PrAt S (fun x=>N+4<=x/\x<S.next/\qa8 vo≠some x) ps m) (hl:out.length+ps.length<90000) :
 ∃U vo',(∀k:V×St->Rs,((ld1 (.ptr N 0) S).bind fun p=>(apP 49 6 80 p.1 y p.2).bind fun r=>(stP 1 (.ptr N 0) r.1 r.2).bind k)=k (.tuple [],U))/\
 PS U N b s i vT vW w (out++ps) [] vo' .nilslice/\Grew (fun x=>x=N\/qa8 vo=some x) S U/\∀r,qa8 vo'=some r->qa8 vo=some r\/S.next<=r:=by
 obtain⟨rows,r1,r2⟩:=h.ot
 have hvt:vt=.nilslice:=by
  rcases h.tx with⟨_,hv⟩|⟨r,_,_,h3,_⟩
  . exact hv
  . simp at h3
 subst hvt;have e1:=r2.len;have e2:=hps.len;obtain⟨v',T2,b1,b2,b3,b4,_⟩:=r1.cat h.on (by omega) (hy.pv h.on) (B:=80) (by omega) (by omega);have nx2:=b3.next
 have hhi:=h.hi;have on2:=b3.on.trans h.on;have k:∀{x e v},x<N+4->AgAt S x e 1 v->AgAt T2 x e 1 v:=fun hx ha=>ha.grew (by omega) (fun hw=>by have:=(h.ob _ hw).1; omega) b3;obtain⟨q1,q2,q3⟩:=qhq b2;obtain⟨T3,c1,c2,c3,c4⟩:=(k (by omega) h.po).st_one on2 v' q1 q2 q3;have nx3:=c3.next
 have hnew:∀r,qa8 v'=some r->N+4<=r:=fun r hr=>by
  rcases b4 r hr with h'|h'
  . exact(h.ob r h').1
  . omega
 have kk:∀{x e v},x<N+4->x≠N->AgAt S x e 1 v->AgAt T3 x e 1 v:=fun hx hne ha=>(k hx ha).grew (by omega) hne c3;refine⟨T3,v',fun kf=>?_,⟨c3.on.trans on2,?_,h.bN,by omega,kk (by omega) (by omega) h.pin,kk (by omega) (by omega) h.pfl,c2,kk (by omega) (by omega) h.pt,.inl ⟨rfl,rfl⟩,⟨rows++m,?_,?_⟩,?_,?_⟩,?_,b4⟩
 . rw[ag1 h.on h.po,oB]
   dsimp only;rw[b1,oB];dsimp only;rw[c1,oB]
 . have:=h.bN
   exact(h.lx.grew (by omega) (fun hw=>by have:=(h.ob _ hw).1; omega) b3).grew (by omega) (by omega) c3
 . exact b2.grew (fun r hr hx=>by have:=hnew _ hr; omega) c3
 . have hall:PrAt S (fun x=>N+4<=x/\x<S.next/\qa8 vo≠some x) (out++ps) (rows++m):=(r2.mono fun x hx=>⟨hx.1,hx.2.1,hx.2.2.1⟩).append hps
   refine((hall.grew b3 fun x hx hw=>hx.2.2 hw).grew c3 fun x hx he=>by omega).mono fun x hx=>⟨hx.1,by omega,fun hv=>?_,fun hv=>by cases hv⟩
   rcases b4 _ hv with h'|h'
   . exact hx.2.2 h'
   . omega
 . exact fun r hr=>⟨hnew r hr,fun hv=>by cases hv⟩
 . exact fun r hr=>by cases hr
 . exact(b3.mono fun x _ hx=>.inr hx).trans (c3.mono fun x _ hx=>.inl hx)
variable {K:FuncId->Option KF}
theorem call69 {self:EV} {a1 a2 a3:V}:qcg E0 self (.fn (.func 69) [] [a1,a2,a3]) [] S=self.f 69 [a1,a2,a3] S:=ql0 (by kernel_rfl) (by kernel_rfl) [] [a1,a2,a3] [] S
theorem call70 {self:EV} {a1 a2 y:V}:qcg E0 self (.fn (.func 70) [] [a1,a2]) [y] S=self.f 70 [y,a1,a2] S:=ql0 (by kernel_rfl) (by kernel_rfl) [] [a1,a2] [y] S
theorem flush_run (hK:RefL K) (d:Nat) (h:PS S N b s i vT vW w out text vo vt) (hl:out.length+text.length<50000) :
 ∃U vo',(ev E0 K (d+1)).f 69 [.ptr (N+1) 0,.ptr (N+2) 0,.ptr N 0] S=some (.ret (.tuple []),U)/\PS U N b s i vT vW w (qi4 w out text) [] vo' .nilslice/\Grew (fun x=>x=N\/x=N+1\/qa8 vo=some x) S U/\∀r,qa8 vo'=some r->qa8 vo=some r\/S.next<=r:=by
 have hbS:b<S.next:=by have:=h.bN; have:=h.hi; omega
 have hln:∀T,lnS vt T=some (.int .i64 (text.length:Int),T):=fun T=>by
  have:=h.tx.len T
  rwa [lM]at this
 by_cases h0:text=[]
 . subst h0
   have hvt:vt=.nilslice:=by
    rcases h.tx with⟨_,hv⟩|⟨r,_,_,h3,_⟩
    . exact hv
    . simp at h3
   subst hvt;refine⟨S,vo,rv69 hK ?_,h,Grew.refl _ _,fun r hr=>.inl hr⟩;show F69 (ev E0 K d) qa3 (.ptr (N+1) 0) (.ptr (N+2) 0) (.ptr N 0) S=_;rw[F69_eq,ag1 h.on h.pt,oB];dsimp only;rw[hln,oB];rfl
 . have hpos:0<text.length:=List.length_pos_iff.2 h0
   obtain⟨n1,n2,n3⟩:=qar h.on 49 6 zP;have p1:=h.fresh hbS n2;obtain⟨T2,m1,m2,m3,m4⟩:=n1.stA p1.on qej (qcr 0 text [] (inD w) .nilslice);have nx:=h.hi;have bN:=h.bN;have nm:=m3.next
   have gS2:Grew (fun _=>False) S T2:=⟨by have:=n2.next; omega,m3.on.trans n2.on,fun x hx _=>(m3.keep x (by have:=n2.next; omega) (by omega)).trans (n2.keep x hx (fun h=>h))⟩
   have p2:=h.fresh hbS gS2
   have key:∀(T3:St) (kd:Nat),Grew (fun _=>False) S T3->AgAt T3 S.next 49 6 (qcr kd text [] (inD w) .nilslice)->kd=(if inD w then 1 else 0)->
    ∃U vo',(∀k:V×St->Rs,((ld1 (.ptr N 0) T3).bind fun p18=>(ldA 6 (.ptr S.next 0) p18.2).bind fun p19=>(bsP 49 6 1 zP [(0,p19.1)] p19.2).bind fun p20=>(apP 49 6 80 p18.1 p20.1 p20.2).bind fun p21=>(stP 1 (.ptr N 0) p21.1 p21.2).bind fun p22=>(stP 1 (.ptr (N+1) 0) .nilslice p22.2).bind k)=k (.tuple [],U))/\
     PS U N b s i vT vW w (qi4 w out text) [] vo' .nilslice/\Grew (fun x=>x=N\/x=N+1\/qa8 vo=some x) S U/\∀r,qa8 vo'=some r->qa8 vo=some r\/S.next<=r:=fun T3 kd g3 a3 hkd=>by
    have p3:=h.fresh hbS g3;have nx3:=g3.next
    obtain⟨y,T4,c1,c2,c3,c4,c5⟩:=qfk p3.on 49 6 zP (qcr kd text [] (inD w) .nilslice) (by omega) (by omega);have p4:=p3.fresh (by omega) c4;have nx4:=c4.next
    obtain⟨rows,r1,r2⟩:=p4.ot;have e1:=r2.len;obtain⟨v',T5,b1,b2,b3,b4,_⟩:=r1.cat p4.on (by omega) (c2.pv p4.on) (B:=80) (by rw[List.length_singleton]; omega) (by omega);have nx5:=b3.next
    have on5:=b3.on.trans p4.on;have hhi:=p4.hi;have k5:∀{x e v},x<N+4->AgAt T4 x e 1 v->AgAt T5 x e 1 v:=fun hx ha=>ha.grew (by omega) (fun hw=>by have:=(p4.ob _ hw).1; omega) b3;obtain⟨q1,q2,q3⟩:=qhq b2;obtain⟨T6,d1,d2,d3,d4⟩:=(k5 (by omega) p4.po).st_one on5 v' q1 q2 q3;have on6:=d3.on.trans on5;have nx6:=d3.next
    have k6:∀{x e v},x<N+4->x≠N->AgAt T4 x e 1 v->AgAt T6 x e 1 v:=fun hx hne ha=>(k5 hx ha).grew (by omega) hne d3;obtain⟨T7,f1,f2,f3,f4⟩:=(k6 (by omega) (by omega) p4.pt).st_one on6 .nilslice rfl rfl rfl;have nx7:=f3.next
    have k7:∀{x e v},x<N+4->x≠N->x≠N+1->AgAt T4 x e 1 v->AgAt T7 x e 1 v:=fun hx hne hne2 ha=>(k6 hx hne ha).grew (by omega) hne2 f3
    have hnew:∀r,qa8 v'=some r->N+4<=r:=fun r hr=>by
     rcases b4 r hr with h'|h'
     . exact(p4.ob r h').1
     . omega
    refine⟨T7,v',fun kf=>?_,⟨f3.on.trans on6,?_,h.bN,by omega,k7 (by omega) (by omega) (by omega) p4.pin,k7 (by omega) (by omega) (by omega) p4.pfl,d2.grew (by omega) (by omega) f3,f2,.inl ⟨rfl,rfl⟩,⟨rows++[qcr kd text [] (inD w) .nilslice],?_,?_⟩,?_,?_⟩,?_,?_⟩
    . rw[ag1 p3.on p3.po,oB]
      dsimp only;rw[a3.ldA p3.on qej,oB];dsimp only;rw[c1,oB];dsimp only;rw[b1,oB];dsimp only;rw[d1,oB];dsimp only;rw[f1,oB]
    . exact((p4.lx.grew (by omega) (fun hw=>by have:=(p4.ob _ hw).1; omega) b3).grew (by omega) (by omega) d3).grew (by omega) (by omega) f3
    . exact(b2.grew (fun r hr hx=>by have:=hnew _ hr; omega) d3).grew (fun r hr hx=>by have:=hnew _ hr; omega) f3
    . have hone:PrAt T4 (fun x=>N+4<=x/\x<T4.next/\qa8 vo≠some x) [.mk kd text [] (inD w) []] [qcr kd text [] (inD w) .nilslice]:=prAt_one (qbg _ _ _ _)
      have hall:=(r2.mono fun x hx=>(⟨hx.1,hx.2.1,hx.2.2.1⟩:N+4<=x/\x<T4.next/\qa8 vo≠some x)).append hone;have hfl:qi4 w out text=out++[.mk kd text [] (inD w) []]:=by unfold qi4; rw[iN h0,hkd]
      rw[hfl];refine(((hall.grew b3 fun x hx hw=>hx.2.2 hw).grew d3 fun x hx he=>by omega).grew f3 fun x hx he=>by omega).mono fun x hx=>⟨hx.1,by omega,fun hv=>?_,fun hv=>by cases hv⟩
      rcases b4 _ hv with h'|h'
      . exact hx.2.2 h'
      . omega
    . exact fun r hr=>⟨hnew r hr,fun hv=>by cases hv⟩
    . exact fun r hr=>by cases hr
    . exact((((g3.mono fun _ _ h=>h.elim).trans (c4.mono fun _ _ h=>h.elim)).trans (b3.mono fun x _ hx=>.inr (.inr hx))).trans (d3.mono fun x _ hx=>.inl hx)).trans (f3.mono fun x _ hx=>.inr (.inl hx))
    . intro r hr
      rcases b4 r hr with h'|h'
      . exact .inl h'
      . exact .inr (by omega)
   have hF:∀U,F69 (ev E0 K d) qa3 (.ptr (N+1) 0) (.ptr (N+2) 0) (.ptr N 0) S=some (.ret (.tuple []),U)->(ev E0 K (d+1)).f 69 [.ptr (N+1) 0,.ptr (N+2) 0,.ptr N 0] S=some (.ret (.tuple []),U):=fun U e=>rv69 hK e;have hs:F69 (ev E0 K d) qa3 (.ptr (N+1) 0) (.ptr (N+2) 0) (.ptr N 0) S=_:=F69_eq ..;rw[ag1 h.on h.pt,oB]at hs;dsimp only at hs;rw[hln,oB]at hs;dsimp only at hs;rw[eql0,dF (by omega),oB,ifK_bool,cF,ag1 h.on h.pt,oB]at hs;dsimp only at hs;rw[conv_rv h.on h.tx h0,oB]at hs;dsimp only at hs;rw[ag1 h.on h.pin,oB]at hs;dsimp only at hs;rw[build_lit,oB,oB,qan,show(Tr.ofListFrom .nil [(.int .i64 0),(sv []),(sv []),(.bool false),.nilslice,.nilptr] 0:Tr V)=zP from rfl,m1,oB]at hs;dsimp only at hs;rw[ag1 p2.on p2.pin,oB]at hs;dsimp only at hs;rw[ifK_bool]at hs;cases hin:inD w with
   | true=>
    obtain⟨T3,s1,s2,s3,s4⟩:=m2.st1 p2.on qej (by decide) (by decide:0<6) (.int .i64 1) rfl rfl rfl;rw[hin,set_kind]at s2;have gS3:Grew (fun _=>False) S T3:=⟨by have:=gS2.next; have:=s3.next; omega,s3.on.trans gS2.on,fun x hx _=>(s3.keep x (by have:=gS2.next; omega) (by omega)).trans (gS2.keep x hx (fun h=>h))⟩
    obtain⟨U,vo',k1,k2⟩:=key T3 1 gS3 (by rw[hin]; exact s2) (by rw[hin]; rfl);rw[hin,cT,fap0,oB,s1,oB]at hs;dsimp only at hs;rw[k1]at hs;exact⟨U,vo',hF U hs,k2⟩
   | false=>
    rw[hin]at m2;obtain⟨U,vo',k1,k2⟩:=key T2 0 gS2 (by rw[hin]; exact m2) (by rw[hin]; rfl);rw[hin,cF,k1]at hs;exact⟨U,vo',hF U hs,k2⟩
theorem add_run (hK:RefL K) (d:Nat) (h:PS S N b s i vT vW w out text vo vt) {y:V} {m:List (Tr V)} {ps:List Part} (hy:RV S y 49 6 m) (hyb:∀r,qa8 y=some r->N+4<=r/\qa8 vo≠some r) (hps:PrAt S (fun x=>N+4<=x/\x<S.next/\qa8 vo≠some x) ps m) (hl:out.length+text.length<50000) (hl2:ps.length<30000) :
 ∃U vo',qcg E0 (ev E0 K (d+2)) (.fn (.func 70) [] [.ptr (N+3) 0,.ptr N 0]) [y] S=some (.ret (.tuple []),U)/\PS U N b s i vT vW w (qi4 w out text++ps) [] vo' .nilslice/\Grew (fun x=>N<=x) S U:=by
 obtain⟨T1,v1,a1,a2,a3,a4⟩:=flush_run hK d h hl;have hhi:=h.hi;have nx:=a3.next
 have hy1:RV T1 y 49 6 m:=hy.grew (fun r hr hw=>by
  have:=hyb r hr;rcases hw with hw|hw|hw
  . omega
  . omega
  . exact this.2 hw) a3
 have hps1:PrAt T1 (fun x=>N+4<=x/\x<T1.next/\qa8 v1≠some x) ps m:=(hps.grew a3 fun x hx hw=>by
  rcases hw with hw|hw|hw
  . omega
  . omega
  . exact hx.2.2 hw).mono fun x hx=>⟨hx.1,by omega,fun hv=>by
    rcases a4 x hv with h'|h'
    . exact hx.2.2 h'
    . omega⟩
 have hfl:=qjt w out text;obtain⟨U,v2,b1,b2,b3,b4⟩:=a2.cat hy1 hps1 (by omega);refine⟨U,v2,?_,b2,?_⟩
 . rw[call70]
   refine rv70 hK (n:=d+1) ?_;show F70 (ev E0 K (d+1)) qa3 y (.ptr (N+3) 0) (.ptr N 0) S=_;rw[F70_eq,ag1 h.on h.pfl,oB];dsimp only;rw[call69,a1,callP_ret,b1]
 . exact(a3.mono fun x _ hx=>by
    rcases hx with hx|hx|hx
    . omega
    . omega
    . have:=(h.ob x hx).1; omega).trans (b3.mono fun x _ hx=>by
    rcases hx with hx|hx
    . omega
    . have:=(a2.ob x hx).1; omega)
end
section
variable {K:FuncId->Option KF} {S U T:St} {b i:Nat} {s:Bs} {vT vW:V}
theorem qji (ho:S.on=false) (l:List Bs) (hl:l.length<1000):∃U,bsP 9 1 l.length (Ev.one (sv [])) (numb 0 (l.map sv)) S=some (.slice S.next 0 l.length l.length,U)/\TL U (.slice S.next 0 l.length l.length) l/\Grew (fun _=>False) S U/\U.next=S.next+1:=by
 obtain⟨U,h1,h2,h3,h4⟩:=bsP_ones ho 9 (Ev.one (sv [])) (l.map sv) (fun v hv=>by
  obtain⟨a,_,rfl⟩:=List.mem_map.1 hv
  exact oneV_sv a) (by rw[lM]; unfold big; omega)
 have h:=h1 none;rw[lM]at h;refine⟨U,h,?_,h3,h4⟩;refine TL.sli (r:=S.next) (c:=l.length) ?_ (by omega);rw[List.map_map]at h2;exact h2
theorem ops_run (hK:RefL K) (m:Nat) (ho:S.on=false):∃U,(ev E0 K (m+1)).f 99 [] S=some (.ret (.slice S.next 0 12 12),U)/\TL U (.slice S.next 0 12 12) opsT/\Grew (fun _=>False) S U/\U.next=S.next+1:=by
 obtain⟨U,h1,h2⟩:=qji ho opsT (by decide);refine⟨U,rv99 hK ?_,h2⟩;show F99 (ev E0 K m) qa3 S=_;rw[F99_eq];have e:bsP 9 1 12 (Ev.one (sv [])) [(0,(sv [58,45])),(1,(sv [58,61])),(2,(sv [58,43])),(3,(sv [58,63])),(4,(sv [35,35])),(5,(sv [37,37])),(6,(sv [45])),(7,(sv [61])),(8,(sv [43])),(9,(sv [63])),(10,(sv [35])),(11,(sv [37]))] S=some (.slice S.next 0 12 12,U):=h1;rw[e,oB]
theorem marks_run (hK:RefL K) (m:Nat) (ho:S.on=false):∃U,(ev E0 K (m+1)).f 48 [] S=some (.ret (.slice S.next 0 12 12),U)/\TL U (.slice S.next 0 12 12) marT/\Grew (fun _=>False) S U/\U.next=S.next+1:=by
 obtain⟨U,h1,h2⟩:=qji ho marT (by decide);refine⟨U,rv48 hK ?_,h2⟩;show F48 (ev E0 K m) qa3 S=_;rw[F48_eq];have e:bsP 9 1 12 (Ev.one (sv [])) [(0,(sv [59,59])),(1,(sv [59])),(2,(sv [38,38])),(3,(sv [124,124])),(4,(sv [124])),(5,(sv [40])),(6,(sv [41])),(7,(sv [60,60])),(8,(sv [60])),(9,(sv [62,62])),(10,(sv [62,38])),(11,(sv [62]))] S=some (.slice S.next 0 12 12,U):=h1;rw[e,oB]
theorem call23 {self:EV} {p y:V}:qcg E0 self (.fn (.func 23) [p] []) [y] S=self.f 23 [p,y] S:=ql0 (by kernel_rfl) (by kernel_rfl) [p] [] [y] S
abbrev FndR (o:Option Bs) (L:List Bs) (S:St) (b i:Nat) (s:Bs) (vT vW:V) (r rn:Rs):Prop:=match o with
 | none=>r=rn
 | some o=>∃(j:Nat) (U:St),L[j]?=some o/\r=some (.ret (.int .i64 (j:Int)),U)/\Lx U b s (i+o.length) vT vW/\Grew (fun x=>x=b) S U/\U.next=S.next/\U.on=false
theorem L67_spec (hK:RefL K) (m:Nat) (ho:S.on=false) (h:Lx S b s i vT vW) (hs:s.length<9223372036854770000) (hi:i<=s.length) {v:V} {L:List Bs} (hL:TL S v L) (hLl:L.length<1000) (nk:Ac->St->Rs) (ek:Nat->Ac->St->Rs) :
 ∀(l:List Bs) (k q:Nat),L.drop k=l->l.length<q->
 FndR (l.find? (fun o=>atD s i o)) L S b i s vT vW (L67_6 (ev E0 K (m+4)) qa3 nk ek q v (.fn (.func 23) [.ptr b 0] []) (.int .i64 (L.length:Int)) (.int .i64 (k:Int)) S) (ek 0 (fr 19 []) S)
 | l,k,0,hk,hq=>absurd hq (Nat.not_lt_zero _)
 | [],k,q+1,hk,hq=>by
  show L67_6 _ _ _ _ _ _ _ _ _ _=_;rw[L67_6_eq,qdz,oB,dF (by have:=qc4 hk; omega),ifK_bool,cF]
 | o::l,k,q+1,hk,hq=>by
  obtain⟨hlt,hc,hr,_⟩:=qcy hk;rw[List.length_cons]at hq;have ih:=L67_spec hK m ho h hs hi hL hLl nk ek l (k+1) q hr (by omega);obtain⟨p,p1,p2⟩:=hL.ld ho (i:=k) (a:=o) (by rw[List.getElem?_eq_getElem hlt,hc]);have e:L67_6 (ev E0 K (m+4)) qa3 nk ek (q+1) v (.fn (.func 23) [.ptr b 0] []) (.int .i64 (L.length:Int)) (.int .i64 (k:Int)) S=_:=L67_6_eq ..;rw[qdz,oB,dT hlt,ifK_bool,cT,p1,oB,p2,oB]at e;dsimp only at e;rw[call23]at e;rw[List.find?_cons];cases ha:atD s i o with
  | true=>
   have hlen:i+o.length<=s.length:=by
    by_cases h0:o=[]
    . subst h0; simpa using hi
    . exact qb1 ha h0
   obtain⟨U,k1,k2,k3,k4⟩:=qba hK m ho h hi (t:=o) (by omega) ha;rw[k1,callP_ret,ifK_bool,cT]at e;exact⟨k,U,by rw[List.getElem?_eq_getElem hlt,hc],e,k2,k3,k4,k3.on.trans ho⟩
  | false=>
   rw[qbp hK m ho h hi (t:=o) ha,callP_ret,ifK_bool,cF,qb0 (by omega),oB]at e;dsimp only;rw[e];exact ih
theorem f67_run (hK:RefL K) (m:Nat) (ho:S.on=false) (h:Lx S b s i vT vW) (hs:s.length<9223372036854770000) (hi:i<=s.length) {v:V} {L:List Bs} (hL:TL S v L) (hLl:L.length<1000) :
 FndR (L.find? (fun o=>atD s i o)) L S b i s vT vW ((ev E0 K (m+5)).f 67 [v,.fn (.func 23) [.ptr b 0] []] S) (some (.ret (.int .i64 (-1)),S)):=by
 have hF:F67 (ev E0 K (m+4)) qa3 v (.fn (.func 23) [.ptr b 0] []) S=_:=F67_eq ..;rw[hL.len,oB]at hF;dsimp only at hF;have:=L67_spec hK m ho h hs hi hL hLl (R67_1 (ev E0 K (m+4)) qa3 (qbt E0 (ev E0 K (m+4)) Tryd.f67) qas) (exB 0 (R67_1 (ev E0 K (m+4)) qa3 (qbt E0 (ev E0 K (m+4)) Tryd.f67) qas) qas) L 0 qa3 rfl (by unfold qa3; omega);cases hf:L.find? (fun o=>atD s i o)with
 | none=>
  rw[hf]at this;refine rv67 hK (hF.trans (Eq.trans this ?_));rw[exB_same,R67_1_eq]
 | some o=>
  rw[hf]at this;obtain⟨j,U,h1,h2,h3⟩:=this;exact⟨j,U,h1,rv67 hK (hF.trans h2),h3⟩
theorem more_lg (hK:RefL K) (m:Nat) (ho:S.on=false) (h:Lx S b s i vT vW):(ev E0 K (m+1)).f 24 [.ptr b 0] (onS S)=some (.ret (.bool (decide (i<s.length))),S.lg [⟨b,0,1,false⟩,⟨b,1,2,false⟩]):=rv24 hK (by
 show F24 (ev E0 K m) qa3 (.ptr b 0) (onS S)=_;rw[F24_eq,show onS S=S.lg []from rfl,h.l1 ho];dsimp only;rw[h.l0 ho];dsimp only;rw[qee,llg,lnStr_sv,oB];dsimp only;rw[qdz,oB,qcb (by rfl)]
 rfl)
end
end Go.Proofs.YtafbipadnnmccaaDoor.W
end
