/-
  WHAT THE FUNCTIONS COME TO: each is read by the evaluator,printed,and told as a function of data,part 4 of 12 (no condition).
-/
import Derived.Test.YtachpdpmoihjmaaW3
namespace Go.Proofs.Ytachpdpmoihjmaa.W
open Go.Proofs.Ytachpdpmoihjmaa.Ev
theorem und9:und E0 9=some .string:=by kernel_rfl
def qae (a t:List UInt8):Bool:=decide (t.length<=a.length)&&(a.take t.length==t)
theorem pre_run {K:FuncId->Option KF} (h23:K 23=none) (h30:K 30=none) (m:Nat) (a t:List UInt8) (S:St):(ev E0 K (m+2)).f 23 [sv a,sv t] S=some (.ret (.bool (qae a t)),S):=by
 have e30:F30 (ev E0 K m) qa3 (sv a) (sv t) S=some (.ret (.bool (qae a t)),S):=by
  rw[F30_eq,lnStr_sv,oB];dsimp only;rw[lnStr_sv,oB];dsimp only;rw[binV_ii,intsV_geq,oB,qaa,oB];unfold qae;by_cases h:t.length<=a.length
  . rw[show decide ((t.length:Int)<=(a.length:Int))=true by simp; omega,cT,oB,oB,cT,oB,oB,cT,lnStr_sv,oB,oB,cT]
    dsimp only;rw[qfj und9 a (bounds_hi .i64 h) h,oB,oB,cT,oB,oB,cT];dsimp only;rw[binV_ss,strOp_eql,oB,pickV_bool,cT,oB,List.drop_zero,Nat.sub_zero,dT h,Bool.true_and]
  . rw[show decide ((t.length:Int)<=(a.length:Int))=false by simp; omega,cF,oB,oB,cF,oB,oB,cF,oB,oB,cF,oB,oB,cF,oB,oB,cF,oB,pickV_bool,cF,oB,dF h,Bool.false_and]
 have e30':=qax (c:=C30) (d:=B30) (by kernel_rfl) (by kernel_rfl) (qa7 C30 _ (by kernel_rfl)) h30 e30;refine qax (c:=C23) (d:=B23) (by kernel_rfl) (by kernel_rfl) (qa7 C23 _ (by kernel_rfl)) h23 (?_:F23 (ev E0 K (m+1)) qa3 (sv a) (sv t) S=_);rw[F23_eq,e30',callP_ret]
section
variable {gr dp:Nat} {S:St} {b N0 i:Nat} {s:List UInt8} {f:Bool} {lv:V} {acc:List (Tr V)}
theorem at_run {K:FuncId->Option KF} (h16:K 16=none) (h23:K 23=none) (h30:K 30=none) (m:Nat) (h:Rdr gr dp S b N0 s i f lv acc) (hi:i<=s.length) (t:List UInt8) :
 (ev E0 K (m+3)).f 16 [.ptr b 0,sv t] S=some (.ret (.bool (qae (s.drop i) t)),S):=by
 refine qax (c:=C16) (d:=B16) (by kernel_rfl) (by kernel_rfl) (qa7 C16 _ (by kernel_rfl)) h16 (?_:F16 (ev E0 K (m+2)) qa3 (.ptr b 0) (sv t) S=_);rw[F16_eq];simp only[qg8,qcn,Nat.zero_add,oB];rw[h.o2,oB];dsimp only;rw[qb8,h.o3,oB];dsimp only;rw[qb8,qfj und9 s (qi5 .i64 hi) (lR _),oB];dsimp only;rw[show List.take (s.length-i) (s.drop i)=s.drop i from List.take_of_length_le (by rw[List.length_drop]; exact lR _),qb7,pre_run h23 h30 m,qbh,qbp (by rfl),qb7,qam h.on]
theorem must_run {K:FuncId->Option KF} (h18:K 18=none) (m:Nat) (S:St):(ev E0 K (m+1)).f 18 [.bool true] S=some (.ret (.tuple []),S):=by
 refine qax (c:=C18) (d:=B18) (by kernel_rfl) (by kernel_rfl) (qa7 C18 _ (by kernel_rfl)) h18 (?_:F18 (ev E0 K m) qa3 (.bool true) S=_);rw[F18_eq,unV_not,oB,Bool.not_true,ifK_bool,cF]
theorem F27_z:∃Z:Tr V,∀(self:EV) (N:Nat) (x0 x1:V) (S:St),F27 self N x0 x1 S =
(qau E0 50 [(1,(.int .i64 0))]).bind fun t1=>
(some (nwP 50 258 Z S)).bind fun p2=>
(stP 258 p2.1 t1 p2.2).bind fun p3=>
(faP 0 true 256 p2.1).bind fun t5=>
(faP 0 true 256 t5).bind fun t6=>
(ixA 256 1 false 1 t6 x1).bind fun t7=>
(stP 1 t7 (.bool true) p3.2).bind fun p8=>
(ldA 258 p2.1 p8.2).bind fun p10=>
qad (self.f 13 [x0,p10.1] p10.2) fun t11 S11=>
some (.ret (.bool false),S11):=⟨_,fun self N x0 x1 S=>F27_eq self N x0 x1 S⟩
noncomputable def takeT (c:UInt8):Tr V:=(TK 0).set (.bool true) c.toNat
theorem qjl {K:FuncId->Option KF} (h13:K 13=none) (h27:K 27=none) (m:Nat) (h:Rdr gr dp S b N0 s i f lv acc) (hl:acc.length<=3000) (c:UInt8) :
 ∃T lv',(ev E0 K (m+2)).f 27 [.ptr b 0,.int .u8 (c.toNat:Int)] S=some (.ret (.bool false),T)/\Rdr gr dp T b N0 s i f lv' (acc++[takeT c])/\Grew (fun x=>N0<=x) S T:=by
 obtain⟨Z,hZ⟩:=F27_z;have ho:=h.on;obtain⟨a1,a2,a3⟩:=qe2 ho 50 258 Z;have on1:(nwP 50 258 Z S).2.on=false:=qfs ho _;have hz:=hZ (ev E0 K (m+1)) qa3 (.ptr b 0) (.int .u8 (c.toNat:Int)) S;rw[build_0,oB,oB,qde]at hz;generalize (nwP 50 258 Z S).2=S1 at a1 a2 a3 on1 hz;obtain⟨S2,b1,b2,b3,b4⟩:=a1.stA on1 qdb (TK 0);have on2:=b3.on.trans on1;obtain⟨S3,c1,c2,c3,c4⟩:=b2.st1 on2 (i:=c.toNat) (v:=.bool true) qdb (by omega) (by have:=c.toNat_lt; omega) rfl rfl rfl;have on3:=c3.on.trans on2;have lo:=h.lo;have hi:=h.hi;have g3:Grew (fun _=>False) S S3:=(a2.own (lR _) b3).own (lR _) c3;have h3:Rdr gr dp S3 b N0 s i f lv acc:=h.grew (fun _ _ _ h=>h) g3;obtain⟨T,lv',d1,d2,d3⟩:=qen h13 m h3 hl (takeT c);refine⟨T,lv',qax (c:=C27) (d:=B27) (by kernel_rfl) (by kernel_rfl) (qa7 C27 _ (by kernel_rfl)) h27 (hz.trans ?_),d2,(g3.mono fun _ _ h=>h.elim).trans d3⟩;rw[b1,oB];dsimp only;rw[qcn,oB,Nat.add_zero,qcn,oB,Nat.add_zero,qja 256 1 false 1 .u8 c.toNat_lt,oB,Nat.zero_add,Nat.mul_one,c1,oB];dsimp only;rw[c2.ldA on3 qdb,oB];dsimp only;rw[show((TK 0).set (.bool true) c.toNat)=takeT c from rfl,d1,callP_ret]
theorem f31_run {K:FuncId->Option KF} (h31:K 31=none) (h33:K 33=none) (m:Nat) (a:List UInt8) (c:UInt8) (S:St):(ev E0 K (m+2)).f 31 [sv a,.int .u8 (c.toNat:Int)] S=some (.ret (.int .i64 (ixB a c)),S):=by
 have e33:=qax (c:=C33) (d:=B33) (by kernel_rfl) (by kernel_rfl) (qa7 C33 _ (by kernel_rfl)) h33 (F73_spec (ev E0 K m) qa3 a c S);refine qax (c:=C31) (d:=B31) (by kernel_rfl) (by kernel_rfl) (qa7 C31 _ (by kernel_rfl)) h31 (?_:F31 (ev E0 K (m+1)) qa3 (sv a) (.int .u8 (c.toNat:Int)) S=_);rw[F31_eq,e33,callP_ret]
end
def stA (k to_:Nat):AS:=⟨fun _=>false,k,to_⟩
def tkA (p:UInt8->Bool):AS:=⟨p,0,0⟩
def upA (s:AS):AS:=if s.kind=3\/s.kind=4 then⟨s.p,s.kind,s.to_+1⟩else s
def agn (acc:List AS) (k:Nat):List AS:=acc.take k++(stA 3 (acc.length+2)::(acc.drop k).map upA++[stA 4 k])
def unR (a c:UInt8) (p:UInt8->Bool):UInt8->Bool:=fun x=>decide (a.toNat<=x.toNat/\x.toNat<=c.toNat)||p x
def rng:List UInt8->(UInt8->Bool)->Option (UInt8->Bool)
 | [],p=>some p
 | [a],p=>some (unR a a p)
 | [a,b],p=>some (unR b b (unR a a p))
 | a::b::c::t,p=>if b=45 then(if a.toNat<=c.toNat then rng t (unR a c p)else none)else rng (b::c::t) (unR a a p)
def sqB (s:List UInt8) (nt:Bool) (j:Nat):Option (Nat×(UInt8->Bool)):=
 if j<s.length/\0<=ixB (s.drop (j+1)) 93 then
  (rng ((s.drop j).take ((ixB (s.drop (j+1)) 93).toNat+1)) fun _=>false).map fun p=>(j+((ixB (s.drop (j+1)) 93).toNat+1)+1,fun c=>!(p c==nt))
 else none
def sqr (s:List UInt8) (i:Nat):Option (Nat×(UInt8->Bool)):=if qae (s.drop i) [94]=true then sqB s true (i+1)else sqB s false i
structure PS where
 i:Nat
 g:Nat
 fi:Bool
 acc:List AS
def strk (s:List UInt8) (grp:PS->Option (PS×Bool)) (st:PS):Option (PS×Bool):=
 if st.i<s.length then
  if s.getD st.i 0=40 then
   if st.g+1<=9 then
    (grp ⟨st.i+1,st.g+1,true,st.acc++[stA 5 (2*(st.g+1))]⟩).bind fun r=>
     if qae (s.drop r.1.i) [92,41]=true then some (⟨r.1.i+2,r.1.g,r.1.fi,r.1.acc++[stA 5 (2*(st.g+1)+1)]⟩,r.2)else none
   else none
  else if s.getD st.i 0=110 then some (⟨st.i+1,st.g,st.fi,st.acc++[tkA fun x=>x==10]⟩,false)
  else if 0<=ixB [46,42,91,93,94,36,47,92] (s.getD st.i 0)then some (⟨st.i+1,st.g,st.fi,st.acc++[tkA fun x=>x==s.getD st.i 0]⟩,false)
  else none
 else none
def pce (s:List UInt8) (grp:PS->Option (PS×Bool)) (d:Nat) (st:PS):Option (PS×Bool×Bool):=
 if s.getD st.i 0=94/\st.fi=true then some (⟨st.i+1,st.g,qae (s.drop (st.i+1)) [42],st.acc++[stA 1 0]⟩,true,false)
 else if s.getD st.i 0=36/\(st.i+1=s.length\/0<d/\qae (s.drop (st.i+1)) [92,41]=true)then some (⟨st.i+1,st.g,false,st.acc++[stA 2 0]⟩,true,false)
 else if s.getD st.i 0=46 then some (⟨st.i+1,st.g,false,st.acc++[tkA fun _=>true]⟩,false,true)
 else if s.getD st.i 0=91 then(sqr s (st.i+1)).map fun r=>(⟨r.1,st.g,false,st.acc++[tkA r.2]⟩,false,true)
 else if s.getD st.i 0=92 then(strk s grp ⟨st.i+1,st.g,false,st.acc⟩).map fun r=>(r.1,r.2,true)
 else if s.getD st.i 0=42/\st.fi=false then none
 else some (⟨st.i+1,st.g,false,st.acc++[tkA fun x=>x==s.getD st.i 0]⟩,false,true)
def pcs (s:List UInt8):Nat->Nat->PS->Bool->Option (PS×Bool)
 | 0,_,_,_=>none
 | f+1,d,st,all=>
  if st.i<s.length/\(d=0\/qae (s.drop st.i) [92,41]=false)then
   (pce s (fun st=>pcs s f (d+1) st true) d st).bind fun r=>
    if r.2.2=true/\qae (s.drop r.1.i) [42]=true then
     if r.2.1=false/\qae (s.drop (r.1.i+1)) [42]=false then pcs s f d ⟨r.1.i+1,r.1.g,r.1.fi,agn r.1.acc st.acc.length⟩ all else none
    else pcs s f d r.1 (all&&r.2.1)
  else some (⟨st.i,st.g,false,st.acc⟩,all)
inductive Frag:Nat->List AS->Bool->Nat->Prop
 | nil (k:Nat):Frag k [] true 0
 | set (k:Nat) (p:UInt8->Bool):Frag k [tkA p] false 0
 | mark (k j t:Nat) (h:j=1\/j=2\/j=5):Frag k [stA j t] true 0
 | cat (k:Nat) (a b:List AS) (na nb:Bool) (da db:Nat) (ha:Frag k a na da) (hb:Frag (k+a.length) b nb db):Frag k (a++b) (na&&nb) (max da db)
 | star (k:Nat) (a:List AS) (da:Nat) (ha:Frag (k+1) a false da):Frag k (stA 3 (k+a.length+2)::a++[stA 4 k]) true (da+1)
theorem Frag.up {k d:Nat} {a:List AS} {n:Bool} (h:Frag k a n d):Frag (k+1) (a.map upA) n d:=by
 induction h with
 | nil k=>exact .nil _
 | set k p=>exact .set _ _
 | mark k j t h=>
  have:upA (stA j t)=stA j t:=by
   unfold upA;rw[iN (by show ¬(j=3\/j=4); omega)]
  rw[List.map_singleton,this];exact .mark _ _ _ h
 | cat k a b na nb da db ha hb iha ihb=>
  rw[List.map_append];refine .cat _ _ _ _ _ _ _ iha ?_;rw[lM,Nat.add_right_comm]; exact ihb
 | star k a da ha ih=>
  have:=Frag.star (k+1) (a.map upA) da ih;rw[lM]at this;rw[List.map_append,List.map_cons,List.map_singleton];rw[show upA (stA 3 (k+a.length+2))=stA 3 (k+1+a.length+2) by unfold upA stA; simp; omega,show upA (stA 4 k)=stA 4 (k+1)from rfl];exact this
theorem Frag.pot {k d:Nat} {a:List AS} {nul:Bool} (h:Frag k a nul d):∀c,∃gl:Nat->Nat,gl (k+a.length)=c/\gl k<=(if nul then c else 0)/\(∀n,k<=n->n<k+a.length->gl n<=c+d)/\
 ∀j s,a[j]?=some s->s.kind≠6/\∀m at_ size,m∈qch s (k+j) at_ size->k<=m/\m<=k+a.length/\((k+j<m/\gl m<=gl (k+j))\/gl m+1<=gl (k+j)):=by
 induction h with
 | nil k=>intro c; exact⟨fun _=>c,rfl,lR _,fun n h1 h2=>by simp at h2; omega,fun j s hs=>by simp at hs⟩
 | set k p=>
  intro c;refine⟨fun n=>if n=k then 0 else c,by simp,by simp,fun n h1 h2=>?_,fun j s hs=>?_⟩
  . simp at h2
    show(if n=k then 0 else c)<=c+0;rw[iP (by omega)]; omega
  . cases j with
    | zero=>
     simp only[List.getElem?_cons_zero,oS]at hs;subst hs;refine⟨by show(0:Nat)≠6; decide,fun m at_ size hm=>?_⟩;simp[qch,tkA]at hm
    | succ j=>simp at hs
 | mark k j t hj=>
  intro c;refine⟨fun _=>c,rfl,lR _,fun n h1 h2=>Nat.le_add_right _ _,fun i s hs=>?_⟩;cases i with
  | zero=>
   simp only[List.getElem?_cons_zero,oS]at hs;subst hs;have hk:(stA j t).kind=j:=rfl;refine⟨by rw[hk]; omega,fun m at_ size hm=>?_⟩;rcases qbr hm with⟨h,_⟩|⟨h,_⟩|⟨_,_,h,_⟩
   . rw[hk]at h; omega
   . rw[hk]at h; omega
   . rw[h]; simp
  | succ i=>simp at hs
 | cat k a b na nb da db ha hb iha ihb=>
  intro c;obtain⟨gb,b1,b2,b3,b4⟩:=ihb c;obtain⟨ga,a1,a2,a3,a4⟩:=iha (gb (k+a.length))
  have hb0:gb (k+a.length)<=c:=by
   refine Nat.le_trans b2 ?_;split<;>omega
  refine⟨fun n=>if n<k+a.length then ga n else gb n,?_,?_,fun n h1 h2=>?_,fun j s hs=>?_⟩
  . simp only
    rw[iN (by rw[lAq]; omega),lAq,<- Nat.add_assoc]; exact b1
  . simp only
    have hka:(if k<k+a.length then ga k else gb k)=ga k:=by
     split
     . rfl
     . have h0:a.length=0:=by omega
       rw[h0,Nat.add_zero]at a1;exact a1.symm
    rw[hka];refine Nat.le_trans a2 ?_;cases na with
    | false=>simp
    | true=>simpa using b2
  . simp only
    rw[lAq]at h2;split
    . have:=a3 n h1 (by assumption); omega
    . have:=b3 n (by omega) (by omega); omega
  . simp only
    rw[lAq];by_cases hj:j<a.length
    . rw[List.getElem?_append_left hj]at hs
      obtain⟨p1,p2⟩:=a4 j s hs;refine⟨p1,fun m at_ size hm=>?_⟩;obtain⟨q1,q2,q3⟩:=p2 m at_ size hm;refine⟨q1,by omega,?_⟩;rw[iP (by omega:k+j<k+a.length)]
      have hm':(if m<k+a.length then ga m else gb m)=ga m:=by
       split
       . rfl
       . have:m=k+a.length:=by omega
         rw[this]; exact a1.symm
      rw[hm']; exact q3
    . rw[List.getElem?_append_right (by omega)]at hs
      obtain⟨p1,p2⟩:=b4 (j-a.length) s hs;refine⟨p1,fun m at_ size hm=>?_⟩;have he:k+a.length+(j-a.length)=k+j:=by omega
      rw[he]at p2;obtain⟨q1,q2,q3⟩:=p2 m at_ size hm;refine⟨by omega,by omega,?_⟩;rw[iN (by omega),iN (by omega)];exact q3
 | star k a da ha ih=>
  intro c;obtain⟨ga,a1,a2,a3,a4⟩:=ih (c+1);have hl:(stA 3 (k+a.length+2)::a++[stA 4 k]).length=a.length+2:=by simp
  have ha0:ga (k+1)=0:=by simpa using a2
  refine⟨fun n=>if n=k then c else if n=k+a.length+2 then c else ga n,?_,?_,fun n h1 h2=>?_,fun j s hs=>?_⟩
  . simp only
    rw[hl,iN (by omega),iP (by omega)]
  . simp
  . simp only
    rw[hl]at h2;split
    . omega
    . rw[iN (by omega)]
      by_cases e:n=k+1+a.length
      . rw[e,a1]; omega
      . have:=a3 n (by omega) (by omega); omega
  . rw[hl]
    simp only;cases j with
    | zero=>
     simp only[List.cons_append,List.getElem?_cons_zero,oS]at hs;subst hs;refine⟨by show(3:Nat)≠6; decide,fun m at_ size hm=>?_⟩;rw[Nat.add_zero k]at hm ⊢;rw[iP (rfl:k=k)];rcases qbr hm with⟨_,h⟩|⟨h,_⟩|⟨h,_⟩
     . rcases h with h|h
       . rw[h,iN (by omega),iN (by omega),ha0]
         omega
       . rw[h]
         show k<=k+a.length+2/\_/\_;rw[show(stA 3 (k+a.length+2)).to_=k+a.length+2 from rfl,iN (by omega),iP rfl];omega
     . exact absurd h (by show ¬(3:Nat)=4; decide)
     . exact absurd rfl h
    | succ j=>
     rw[List.cons_append,List.getElem?_cons_succ]at hs;by_cases hj:j<a.length
     . rw[List.getElem?_append_left hj]at hs
       obtain⟨p1,p2⟩:=a4 j s hs;refine⟨p1,fun m at_ size hm=>?_⟩;rw[show k+1+j=k+(j+1) by omega]at p2;obtain⟨q1,q2,q3⟩:=p2 m at_ size hm;refine⟨by omega,by omega,?_⟩;rw[iN (by omega),iN (by omega),iN (by omega),iN (by omega)];exact q3
     . rw[List.getElem?_append_right (by omega)]at hs
       have hjl:j-a.length=0:=by
        rcases Nat.lt_or_ge (j-a.length) 1 with h|h
        . omega
        . rw[List.getElem?_eq_none (by simpa using h)]at hs; cases hs
       rw[hjl,List.getElem?_cons_zero,oS]at hs;subst hs;have hj':j=a.length:=by omega
       subst hj';refine⟨by show(4:Nat)≠6; decide,fun m at_ size hm=>?_⟩;rcases qbr hm with⟨h,_⟩|⟨_,h⟩|⟨_,h,_⟩
       . exact absurd h (by show ¬(4:Nat)=3; decide)
       . rw[h,show(stA 4 k).to_=k from rfl,iP rfl,iN (by omega),iN (by omega),show k+(a.length+1)=k+1+a.length by omega,a1]
         omega
       . exact absurd rfl h
theorem qcu {s t:List UInt8} {i:Nat} (h:qae (s.drop i) t=true) (ht:t≠[]):i+t.length<=s.length:=by
 unfold qae at h;rw[bA,decide_eq_true_eq,List.length_drop]at h;have:0<t.length:=List.length_pos_iff.2 ht;omega
theorem ixB_lt {l:List UInt8} {c:UInt8} (h:0<=ixB l c):(ixB l c).toNat<l.length:=by
 unfold ixB at h ⊢;cases hf:l.findIdx? (fun x=>x==c)with
 | none=>rw[hf]at h; exact absurd h (by decide)
 | some i=>
  have:=(List.findIdx?_eq_some_iff_findIdx_eq.1 hf).1;simpa using this
theorem sqB_i {s:List UInt8} {nt:Bool} {j:Nat} {r:Nat×(UInt8->Bool)} (h:sqB s nt j=some r):j<=r.1/\r.1<=s.length:=by
 unfold sqB at h;split at h
 . rename_i hc
   rw[Option.map_eq_some_iff]at h;obtain⟨p,_,rfl⟩:=h;have:=ixB_lt hc.2;rw[List.length_drop]at this;simp only;omega
 . cases h
theorem sqr_i {s:List UInt8} {i:Nat} {r:Nat×(UInt8->Bool)} (h:sqr s i=some r):i<=r.1/\r.1<=s.length:=by
 unfold sqr at h;split at h
 . have:=sqB_i h; omega
 . exact sqB_i h
def noA (s:List UInt8):Prop:=∀i,i<s.length->s.getD i 0≠94/\s.getD i 0≠36
structure Pf (s:List UInt8) (st st':PS) (n:Bool) (dp:Nat):Prop where
 ex:∃X,st'.acc=st.acc++X/\Frag st.acc.length X n dp/\(∀x∈X,x.kind=5->2*(st.g+1)<=x.to_/\x.to_<=2*st'.g+1)/\(noA s->∀x∈X,x.kind≠1/\x.kind≠2)
 g:st.g<=st'.g
 g9:st.g<=9->st'.g<=9
 i:st.i<=st'.i
 il:st.i<=s.length->st'.i<=s.length
 al:st'.acc.length+2*st.i<=st.acc.length+2*st'.i
section
variable {s:List UInt8}
theorem Pf.one {st st':PS} {x:AS} {n:Bool} (ha:st'.acc=st.acc++[x]) (hf:Frag st.acc.length [x] n 0) (h5:x.kind≠5) (hk:noA s->x.kind≠1/\x.kind≠2) (hg:st'.g=st.g) (hi:st.i+1<=st'.i) (hl:st.i<=s.length->st'.i<=s.length):Pf s st st' n 0:=
 ⟨⟨[x],ha,hf,fun y hy h=>by rw[List.mem_singleton.1 hy]at h; exact absurd h h5,fun hn y hy=>by rw[List.mem_singleton.1 hy]; exact hk hn⟩,by omega,by omega,by omega,hl,by rw[ha,lAq,List.length_singleton]; omega⟩
theorem Pf.cat {a b c:PS} {na nb:Bool} {da db:Nat} (h1:Pf s a b na da) (h2:Pf s b c nb db):Pf s a c (na&&nb) (max da db):=by
 obtain⟨X,x1,x2,x3,x4⟩:=h1.ex;obtain⟨Y,y1,y2,y3,y4⟩:=h2.ex;have g1:=h1.g;have g2:=h2.g;refine⟨⟨X++Y,by rw[y1,x1,List.append_assoc],.cat _ _ _ _ _ _ _ x2 (by rw[x1,lAq]at y2; exact y2),fun z hz hk=>?_,fun hn z hz=>?_⟩,by omega,fun h=>h2.g9 (h1.g9 h),Nat.le_trans h1.i h2.i,fun h=>h2.il (h1.il h),by have:=h1.al; have:=h2.al; omega⟩
 . rcases List.mem_append.1 hz with h|h
   . have:=x3 z h hk; omega
   . have:=y3 z h hk; omega
 . rcases List.mem_append.1 hz with h|h
   . exact x4 hn z h
   . exact y4 hn z h
theorem agn_app (acc X:List AS):agn (acc++X) acc.length=acc++(stA 3 (acc.length+X.length+2)::X.map upA++[stA 4 acc.length]):=by
 unfold agn;rw[List.take_left,List.drop_left,lAq]
theorem upA_kind (x:AS):(upA x).kind=x.kind/\(x.kind=5->(upA x).to_=x.to_):=by
 unfold upA;split
 . exact⟨rfl,fun h=>by omega⟩
 . exact⟨rfl,fun _=>rfl⟩
theorem Pf.star {a b:PS} {da:Nat} (h:Pf s a b false da) {i:Nat} (hi:b.i+1<=i) (hl:i<=s.length):Pf s a ⟨i,b.g,b.fi,agn b.acc a.acc.length⟩ true (da+1):=by
 obtain⟨X,x1,x2,x3,x4⟩:=h.ex
 refine⟨⟨stA 3 (a.acc.length+X.length+2)::X.map upA++[stA 4 a.acc.length],by show agn b.acc _=_; rw[x1,agn_app],?_,fun z hz hk=>?_,fun hn z hz=>?_⟩,h.g,h.g9,by have:=h.i; simp only; omega,fun _=>hl,by
  have:=h.al;show(agn b.acc a.acc.length).length+2*a.i<=a.acc.length+2*i;rw[x1,lAq]at this;rw[x1,agn_app];simp
  omega⟩
 . have:=Frag.star a.acc.length (X.map upA) da x2.up
   rw[lM]at this;exact this
 . rcases List.mem_append.1 hz with h1|h1
   . rcases List.mem_cons.1 h1 with h1|h1
     . rw[h1]at hk; exact absurd hk (by show ¬(3:Nat)=5; decide)
     . obtain⟨x,hx,rfl⟩:=List.mem_map.1 h1
       obtain⟨k1,k2⟩:=upA_kind x;rw[k1]at hk;rw[k2 hk];exact x3 x hx hk
   . rw[List.mem_singleton.1 h1]at hk; exact absurd hk (by show ¬(4:Nat)=5; decide)
 . rcases List.mem_append.1 hz with h1|h1
   . rcases List.mem_cons.1 h1 with h1|h1
     . rw[h1]; exact⟨by show(3:Nat)≠1; decide,by show(3:Nat)≠2; decide⟩
     . obtain⟨x,hx,rfl⟩:=List.mem_map.1 h1
       rw[(upA_kind x).1];exact x4 hn x hx
   . rw[List.mem_singleton.1 h1]; exact⟨by show(4:Nat)≠1; decide,by show(4:Nat)≠2; decide⟩
def Gp (s:List UInt8) (grp:PS->Option (PS×Bool)):Prop:=∀st st' n,grp st=some (st',n)->∃dp,Pf s st st' n dp/\dp<=st'.g-st.g+1
theorem strk_pf {grp:PS->Option (PS×Bool)} (hg:Gp s grp) {st st':PS} {n:Bool} (h:strk s grp st=some (st',n)):∃dp,Pf s st st' n dp/\dp<=st'.g-st.g:=by
 unfold strk at h;split at h
 . rename_i hlt
   split at h
   . split at h
     . rename_i h9
       rw[oI]at h;obtain⟨⟨st2,n2⟩,h1,h2⟩:=h;split at h2
       . rename_i hp
         simp only[oS,pM]at h2;obtain⟨rfl,rfl⟩:=h2;obtain⟨dp,p1,p2⟩:=hg _ _ _ h1;have hl:=qcu hp (by simp);obtain⟨X,x1,x2,x3,x4⟩:=p1.ex;have q1:=p1.g;have q2:=p1.i;have q3:=p1.g9 h9;simp only at q1 q2 q3 x1 x2 x3 p2 hl;refine⟨max 0 (max dp 0),⟨⟨[stA 5 (2*(st.g+1))]++(X++[stA 5 (2*(st.g+1)+1)]),?_,?_,fun z hz hk=>?_,fun hn z hz=>?_⟩,?_,?_,?_,?_,?_⟩,?_⟩
         . simp only
           rw[x1,List.append_assoc,List.append_assoc]
         . have h3:Frag st.acc.length ([stA 5 (2*(st.g+1))]++(X++[stA 5 (2*(st.g+1)+1)])) (true&&(n2&&true)) (max 0 (max dp 0)):=by
            refine .cat _ _ _ _ _ _ _ (.mark _ _ _ (by omega)) (.cat _ _ _ _ _ _ _ ?_ (.mark _ _ _ (by omega)));rw[lAq]at x2;exact x2
           rw[Bool.true_and,Bool.and_true]at h3;exact h3
         . simp only
           rcases List.mem_append.1 hz with h4|h4
           . rw[List.mem_singleton.1 h4]
             show 2*(st.g+1)<=2*(st.g+1)/\2*(st.g+1)<=_;omega
           . rcases List.mem_append.1 h4 with h4|h4
             . have:=x3 z h4 hk; omega
             . rw[List.mem_singleton.1 h4]
               show 2*(st.g+1)<=2*(st.g+1)+1/\2*(st.g+1)+1<=_;omega
         . rcases List.mem_append.1 hz with h4|h4
           . rw[List.mem_singleton.1 h4]; exact⟨by show(5:Nat)≠1; decide,by show(5:Nat)≠2; decide⟩
           . rcases List.mem_append.1 h4 with h4|h4
             . exact x4 hn z h4
             . rw[List.mem_singleton.1 h4]; exact⟨by show(5:Nat)≠1; decide,by show(5:Nat)≠2; decide⟩
         . simp only; omega
         . intro _; exact q3
         . simp only; omega
         . intro _; exact hl
         . have:=p1.al
           simp only[lAq,List.length_singleton]at this ⊢;omega
         . simp only; omega
       . cases h2
     . cases h
   split at h
   . simp only[oS,pM]at h
     obtain⟨rfl,rfl⟩:=h;exact⟨0,.one rfl (.set _ _) (by show(0:Nat)≠5; decide) (fun _=>⟨by show(0:Nat)≠1; decide,by show(0:Nat)≠2; decide⟩) rfl (lR _) (fun _=>hlt),Nat.zero_le _⟩
   split at h
   . simp only[oS,pM]at h
     obtain⟨rfl,rfl⟩:=h;exact⟨0,.one rfl (.set _ _) (by show(0:Nat)≠5; decide) (fun _=>⟨by show(0:Nat)≠1; decide,by show(0:Nat)≠2; decide⟩) rfl (lR _) (fun _=>hlt),Nat.zero_le _⟩
   . cases h
 . cases h
theorem pce_pf {grp:PS->Option (PS×Bool)} (hg:Gp s grp) {d:Nat} {st st':PS} {n sr:Bool} (hlt:st.i<s.length) (h:pce s grp d st=some (st',n,sr)):∃dp,Pf s st st' n dp/\dp<=st'.g-st.g/\st.i+1<=st'.i:=by
 have z1:(0:Nat)≠1:=by decide
 have z2:(0:Nat)≠2:=by decide
 have z5:(0:Nat)≠5:=by decide
 have onep:∀{x:AS} {n:Bool} {fi:Bool},Frag st.acc.length [x] n 0->x.kind≠5->(noA s->x.kind≠1/\x.kind≠2)->∃dp,Pf s st ⟨st.i+1,st.g,fi,st.acc++[x]⟩ n dp/\dp<=st.g-st.g/\st.i+1<=st.i+1:=fun hf h5 hk=>
  ⟨0,.one rfl hf h5 hk rfl (lR _) (fun _=>hlt),Nat.zero_le _,lR _⟩
 unfold pce at h;split at h
 . rename_i hc
   simp only[oS,pM]at h;obtain⟨rfl,rfl,rfl⟩:=h;exact onep (.mark _ _ _ (by omega)) (by show(1:Nat)≠5; decide) fun hn=>absurd hc.1 (hn st.i hlt).1
 split at h
 . rename_i hc
   simp only[oS,pM]at h;obtain⟨rfl,rfl,rfl⟩:=h;exact onep (.mark _ _ _ (by omega)) (by show(2:Nat)≠5; decide) fun hn=>absurd hc.1 (hn st.i hlt).2
 split at h
 . simp only[oS,pM]at h
   obtain⟨rfl,rfl,rfl⟩:=h;exact onep (.set _ _) z5 fun _=>⟨z1,z2⟩
 split at h
 . rw[Option.map_eq_some_iff]at h
   obtain⟨⟨i',p⟩,h1,h2⟩:=h;simp only[pM]at h2;obtain⟨rfl,rfl,rfl⟩:=h2;have:=sqr_i h1;simp only at this;exact⟨0,.one rfl (.set _ _) z5 (fun _=>⟨z1,z2⟩) rfl (by simp only; omega) (fun _=>this.2),Nat.zero_le _,by simp only; omega⟩
 split at h
 . rw[Option.map_eq_some_iff]at h
   obtain⟨⟨st2,e2⟩,h1,h2⟩:=h;simp only[pM]at h2;obtain⟨rfl,rfl,rfl⟩:=h2;obtain⟨dp,p1,p2⟩:=strk_pf hg h1;refine⟨dp,⟨p1.ex,p1.g,p1.g9,?_,fun _=>p1.il hlt,?_⟩,p2,p1.i⟩
   . have:=p1.i
     simp only at this;omega
   . have:=p1.al
     simp only at this;omega
 split at h
 . cases h
 . simp only[oS,pM]at h
   obtain⟨rfl,rfl,rfl⟩:=h;exact onep (.set _ _) z5 fun _=>⟨z1,z2⟩
theorem qjz:∀(f d:Nat) (st:PS) (all:Bool) (st':PS) (all':Bool),pcs s f d st all=some (st',all')->∃n dp,Pf s st st' n dp/\all'=(all&&n)/\dp<=st'.g-st.g+1/\(d=0->s.length<=st'.i)
 | 0,d,st,all,st',all',h=>by cases h
 | f+1,d,st,all,st',all',h=>by
  rw[pcs]at h;split at h
  . rename_i hc
    rw[oI]at h;obtain⟨⟨st1,em,sr⟩,h1,h2⟩:=h
    obtain⟨dp,p1,p2,p3⟩:=pce_pf (grp:=fun st=>pcs s f (d+1) st true) (fun a b n hab=>by
     obtain⟨n',dp,q1,q2,q3,_⟩:=qjz f (d+1) a true b n hab;rw[Bool.true_and]at q2;subst q2
     exact⟨dp,q1,q3⟩) hc.1 h1
    simp only at h2;have g1:=p1.g;split at h2
    . rename_i hs
      split at h2
      . rename_i he
        obtain⟨rfl,he2⟩:=he;have hl:=qcu hs.2 (by simp);have ps:=p1.star (i:=st1.i+1) (lR _) hl;obtain⟨n,dp2,q1,q2,q3,q4⟩:=qjz f d _ all st' all' h2;have g2:=q1.g;simp only at q3 g2;refine⟨true&&n,max (dp+1) dp2,ps.cat q1,by rw[q2,Bool.true_and],by omega,q4⟩
      . cases h2
    . obtain⟨n,dp2,q1,q2,q3,q4⟩:=qjz f d st1 (all&&em) st' all' h2
      have g2:=q1.g;refine⟨em&&n,max dp dp2,p1.cat q1,by rw[q2,Bool.and_assoc],by omega,q4⟩
  . rename_i hc
    simp only[oS,pM]at h;obtain⟨rfl,rfl⟩:=h;refine⟨true,0,⟨⟨[],by simp,.nil _,fun x hx=>by(cases hx),fun _ x hx=>by(cases hx)⟩,lR _,fun h=>h,lR _,fun h=>h,lR _⟩,by rw[Bool.and_true],Nat.zero_le _,fun hd=>?_⟩;simp only;rcases Nat.lt_or_ge st.i s.length with h'|h'
    . exact absurd ⟨h',.inl hd⟩ hc
    . exact h'
structure Exp (L:List AS) (g:Nat):Prop where
 wf:WF L
 pot:∃gl,Pot L gl
 mks:∀(n:Nat) (s:AS),L[n]?=some s->s.kind=5->2<=s.to_/\s.to_/2<g+1
theorem exp_of {X:List AS} {n:Bool} {dp g:Nat} (h:Frag 0 X n dp) (hd:dp<=10) (hm:∀x∈X,x.kind=5->2<=x.to_/\x.to_<=2*g+1):Exp (X++[stA 6 0]) g:=by
 obtain⟨gl,g1,g2,g3,g4⟩:=h.pot 0;rw[Nat.zero_add]at g1 g3;have hlen:(X++[stA 6 0]).length=X.length+1:=by simp
 have casesq:∀(n:Nat) (s:AS),(X++[stA 6 0])[n]?=some s->(X[n]?=some s/\n<X.length)\/(n=X.length/\s=stA 6 0):=fun n s hs=>by
  by_cases hn:n<X.length
  . rw[List.getElem?_append_left hn]at hs; exact .inl ⟨hs,hn⟩
  . rw[List.getElem?_append_right (by omega)]at hs
    have h0:n-X.length=0:=by
     rcases Nat.lt_or_ge (n-X.length) 1 with h|h
     . omega
     . rw[List.getElem?_eq_none (by simpa using h)]at hs; cases hs
    rw[h0,List.getElem?_cons_zero,oS]at hs;exact .inr ⟨by omega,hs.symm⟩
 refine⟨⟨by omega,fun n s hs=>?_,fun n s hs hk=>?_⟩,⟨fun n=>if n<X.length then gl n else 0,⟨fun n k at_ size hk=>?_,fun n=>?_⟩⟩,fun n s hs hk=>?_⟩
 . rcases casesq n s hs with⟨h1,h2⟩|⟨h1,h2⟩
   . have:=(g4 n s h1).1
     rw[hlen];constructor
     . intro h; exact absurd h this
     . intro h; omega
   . subst h2
     rw[hlen];exact⟨fun _=>by omega,fun _=>rfl⟩
 . rcases casesq n s hs with⟨h1,h2⟩|⟨h1,h2⟩
   . have:=(g4 n s h1).2 s.to_ 0 0 (by
      rw[Nat.zero_add];unfold qch
      rcases hk with hk|hk<;>simp[hk])
     omega
   . subst h2
     exact absurd hk (by show ¬((6:Nat)=3\/(6:Nat)=4); decide)
 . unfold gon at hk
   cases hs:(X++[stA 6 0])[n]? with
   | none=>rw[hs]at hk; cases hk
   | some s=>
    rw[hs]at hk;have hk:k∈qch s n at_ size:=hk;rcases casesq n s hs with⟨h1,h2⟩|⟨h1,h2⟩
    . obtain⟨q1,q2,q3⟩:=(g4 n s h1).2 k at_ size (by rw[Nat.zero_add]; exact hk)
      rw[Nat.zero_add]at q2 q3;rw[iP h2]
      have e:(if k<X.length then gl k else 0)=gl k:=by
       split
       . rfl
       . rw[show k=X.length by omega,g1]
      rw[e]; exact q3
    . subst h2
      simp[qch,stA]at hk
 . split
   . have:=g3 n (Nat.zero_le _) (by assumption); omega
   . omega
 . rcases casesq n s hs with⟨h1,h2⟩|⟨h1,h2⟩
   . have:=hm s (List.mem_of_getElem? h1) hk; omega
   . subst h2
     exact absurd hk (by show ¬(6:Nat)=5; decide)
end
def suf:List UInt8:=[92,41,36]
def qcx (s:List UInt8):List UInt8:=[94,92,40]++s++suf
def sh2 (x:AS):AS:=if x.kind=3\/x.kind=4\/x.kind=5 then⟨x.p,x.kind,x.to_+2⟩else x
def qe5 (P:List AS) (st:PS):PS:=⟨st.i+3,st.g+1,st.fi,P++st.acc.map sh2⟩
theorem qi2 (s:List UInt8):(qcx s).length=s.length+6:=by unfold qcx suf; simp
theorem qcz {s:List UInt8} {i:Nat} (h:i<=s.length):(qcx s).drop (i+3)=s.drop i++suf:=by
 unfold qcx;rw[List.append_assoc,show([94,92,40]++(s++suf):List UInt8)=94::92::40::(s++suf)from rfl,List.drop_succ_cons,List.drop_succ_cons,List.drop_succ_cons,List.drop_append_of_le_length h]
theorem allS_get {s:List UInt8} {i:Nat} (h:i<s.length):(qcx s).getD (i+3) 0=s.getD i 0:=by
 unfold qcx;rw[List.append_assoc,show([94,92,40]++(s++suf):List UInt8)=94::92::40::(s++suf)from rfl];rw[List.getD_eq_getElem?_getD,List.getD_eq_getElem?_getD,List.getElem?_cons_succ,List.getElem?_cons_succ,List.getElem?_cons_succ,List.getElem?_append_left h]
theorem pre_star (x:List UInt8):qae (x++suf) [42]=qae x [42]:=by
 cases x with
 | nil=>rfl
 | cons a x=>unfold qae; simp
theorem pre_caret (x:List UInt8):qae (x++suf) [94]=qae x [94]:=by
 cases x with
 | nil=>rfl
 | cons a x=>unfold qae; simp
theorem qmh (x:List UInt8):qae (x++suf) [92,41]=(qae x [92,41]||x.isEmpty):=by
 cases x with
 | nil=>rfl
 | cons a x=>
  cases x with
  | nil=>unfold qae suf; simp
  | cons b x=>unfold qae; simp
theorem ixB_app {x y:List UInt8} {c:UInt8} (h:0<=ixB x c):ixB (x++y) c=ixB x c:=by
 unfold ixB at h ⊢;rw[List.findIdx?_append];cases hf:x.findIdx? (fun x=>x==c)with
 | none=>rw[hf]at h; exact absurd h (by decide)
 | some i=>rfl
theorem sqB_lift {s:List UInt8} {nt:Bool} {j:Nat} {r:Nat×(UInt8->Bool)} (h:sqB s nt j=some r):sqB (qcx s) nt (j+3)=some (r.1+3,r.2):=by
 unfold sqB at h ⊢;split at h
 . rename_i hc
   have hd:=qcz (i:=j+1) hc.1;rw[show j+1+3=j+3+1 by omega]at hd;have hix:=ixB_app (y:=suf) hc.2;have hb:=ixB_lt hc.2;rw[List.length_drop]at hb;rw[hd,hix,iP ⟨by rw[qi2]; omega,hc.2⟩,qcz (by omega),List.take_append_of_le_length (by rw[List.length_drop]; omega)];rw[Option.map_eq_some_iff]at h ⊢;obtain⟨p,hp,rfl⟩:=h;refine⟨p,hp,?_⟩;simp only[pM,and_true];omega
 . cases h
theorem sqr_lift {s:List UInt8} {i:Nat} (hi:i<=s.length) {r:Nat×(UInt8->Bool)} (h:sqr s i=some r):sqr (qcx s) (i+3)=some (r.1+3,r.2):=by
 unfold sqr at h ⊢;rw[qcz hi,pre_caret];split at h
 . rename_i hc
   rw[iP hc];have:=sqB_lift h;rw[show i+1+3=i+3+1 by omega]at this;exact this
 . rename_i hc
   rw[iN hc];exact sqB_lift h
theorem sh2_up (x:AS):upA (sh2 x)=sh2 (upA x):=by
 unfold upA sh2;by_cases h:x.kind=3\/x.kind=4
 . have h':x.kind=3\/x.kind=4\/x.kind=5:=by omega
   simp only[iP h,iP h',Nat.add_right_comm]
 . by_cases h5:x.kind=5
   . have h':x.kind=3\/x.kind=4\/x.kind=5:=.inr (.inr h5)
     simp only[iP h',iN h]
   . have h':¬(x.kind=3\/x.kind=4\/x.kind=5):=by omega
     simp only[iN h',iN h]
section
variable {P:List AS} (hP:P.length=2)
include hP
theorem agn_lift {acc:List AS} {k:Nat}:agn (P++acc.map sh2) (k+2)=P++(agn acc k).map sh2:=by
 unfold agn;rw[List.take_append,List.take_of_length_le (by omega:P.length<=k+2),List.drop_append,List.drop_eq_nil_of_le (by omega:P.length<=k+2),hP,Nat.add_sub_cancel,List.nil_append,List.append_assoc,lAq,lM,hP];simp only[List.map_append,List.map_cons,List.map_nil,List.map_take,List.map_drop]
 have e1:sh2 (stA 3 (acc.length+2))=stA 3 (2+acc.length+2):=by
  unfold sh2 stA;rw[iP (.inl rfl)];simp only[AS.mk.injEq,true_and];omega
 have e2:sh2 (stA 4 k)=stA 4 (k+2):=rfl;rw[e1,e2];simp only[List.map_map];rw[show(upA∘sh2)=(sh2∘upA)from funext sh2_up]
end
def Gl (s:List UInt8) (P:List AS) (grp grp':PS->Option (PS×Bool)):Prop:=∀st st' n,grp st=some (st',n)->st.i<=s.length->st.g<=8->qae (s.drop st'.i) [92,41]=true->(st'.g<=8->grp' (qe5 P st)=some (qe5 P st',n))/\(9<=st'.g->grp' (qe5 P st)=none)
section
variable {s:List UInt8} {P:List AS}
theorem qfd (st:PS) (i g:Nat) (fi:Bool) (x:AS):qe5 P ⟨i,g,fi,st.acc++[x]⟩=⟨i+3,g+1,fi,(qe5 P st).acc++[sh2 x]⟩:=by
 unfold qe5;simp
theorem strk_lift {grp grp':PS->Option (PS×Bool)} (hgp:Gp s grp) (hg:Gl s P grp grp') {st st':PS} {n:Bool} (h8:st.g<=8) (h:strk s grp st=some (st',n)):(st'.g<=8->strk (qcx s) grp' (qe5 P st)=some (qe5 P st',n))/\(9<=st'.g->strk (qcx s) grp' (qe5 P st)=none):=by
 unfold strk at h ⊢;split at h
 . rename_i hlt
   have e1:(qe5 P st).i<(qcx s).length:=by rw[qi2]; show st.i+3<_; omega
   have e2:(qcx s).getD (qe5 P st).i 0=s.getD st.i 0:=allS_get hlt;rw[iP e1,e2];have e3:(qe5 P st).g=st.g+1:=rfl;have e4:(qe5 P st).i+1=st.i+1+3:=by show st.i+3+1=_; omega
   split at h
   . rename_i h40
     rw[iP h40,e3,e4];split at h
     . rename_i h9
       rw[oI]at h;obtain⟨⟨st2,n2⟩,h1,h2⟩:=h;split at h2
       . rename_i hp
         simp only[oS,pM]at h2;obtain⟨rfl,rfl⟩:=h2;have hl:=qcu hp (by simp)
         have hlift:(⟨st.i+1+3,st.g+1+1,true,(qe5 P st).acc++[stA 5 (2*(st.g+1+1))]⟩:PS)=qe5 P ⟨st.i+1,st.g+1,true,st.acc++[stA 5 (2*(st.g+1))]⟩:=by
          rw[qfd];rfl
         rw[hlift];obtain⟨dp,p1,p2⟩:=hgp _ _ _ h1;have hgg:=p1.g;simp only at hgg;by_cases hg8:st.g+1<=8
         . obtain⟨k1,k2⟩:=hg _ _ _ h1 hlt hg8 hp
           constructor
           . intro hh
             rw[iP (by omega),k1 hh,oB];simp only
             have hp':qae ((qcx s).drop (qe5 P st2).i) [92,41]=true:=by
              show qae ((qcx s).drop (st2.i+3)) [92,41]=true;rw[qcz (by simp only at hl; omega),qmh,hp];rfl
             rw[iP hp'];refine congrArg some (congrArg (fun z=>(z,n2)) ?_);rw[qfd];show(⟨st2.i+3+2,st2.g+1,st2.fi,(qe5 P st2).acc++[stA 5 (2*(st.g+1+1)+1)]⟩:PS)=_;rw[show st2.i+3+2=st2.i+2+3 by omega];rfl
           . intro hh
             rw[iP (by omega),k2 hh]; rfl
         . constructor
           . intro hh; simp only at hh; omega
           . intro _
             rw[iN (by omega)]
       . cases h2
     . cases h
   . rename_i h40
     rw[iN h40];split at h
     . rename_i h110
       rw[iP h110,e3,e4];simp only[oS,pM]at h;obtain⟨rfl,rfl⟩:=h;constructor
       . intro _
         rw[qfd];rfl
       . intro hh; simp only at hh; omega
     . rename_i h110
       rw[iN h110];split at h
       . rename_i hix
         rw[iP hix,e3,e4];simp only[oS,pM]at h;obtain⟨rfl,rfl⟩:=h;constructor
         . intro _
           rw[qfd];rfl
         . intro hh; simp only at hh; omega
       . cases h
 . cases h
theorem pce_lift (hn:noA s) {grp grp':PS->Option (PS×Bool)} (hgp:Gp s grp) (hg:Gl s P grp grp') {d:Nat} {st st':PS} {n sr:Bool} (hlt:st.i<s.length) (h8:st.g<=8) (h:pce s grp d st=some (st',n,sr)):(st'.g<=8->pce (qcx s) grp' (d+1) (qe5 P st)=some (qe5 P st',n,sr))/\(9<=st'.g->pce (qcx s) grp' (d+1) (qe5 P st)=none):=by
 unfold pce at h ⊢;have e2:(qcx s).getD (qe5 P st).i 0=s.getD st.i 0:=allS_get hlt;have e3:(qe5 P st).g=st.g+1:=rfl;have e4:(qe5 P st).i+1=st.i+1+3:=by show st.i+3+1=_; omega
 obtain⟨n1,n2⟩:=hn st.i hlt;rw[iN (fun hh=>n1 hh.1),iN (fun hh=>n2 hh.1)]at h;rw[e2,iN (fun hh=>n1 hh.1),iN (fun hh=>n2 hh.1),e3,e4];split at h
 . rename_i h46
   rw[iP h46];simp only[oS,pM]at h;obtain⟨rfl,rfl,rfl⟩:=h;refine⟨fun _=>?_,fun hh=>by simp only at hh; omega⟩;rw[qfd]; rfl
 rename_i h46;rw[iN h46];split at h
 . rename_i h91
   rw[iP h91];rw[Option.map_eq_some_iff]at h;obtain⟨⟨i',p⟩,h1,h2⟩:=h;simp only[pM]at h2;obtain⟨rfl,rfl,rfl⟩:=h2;refine⟨fun _=>?_,fun hh=>by simp only at hh; omega⟩;rw[sqr_lift hlt h1,Option.map_some,qfd]; rfl
 rename_i h91;rw[iN h91];split at h
 . rename_i h92
   rw[iP h92];rw[Option.map_eq_some_iff]at h;obtain⟨⟨st2,e⟩,h1,h2⟩:=h;simp only[pM]at h2;obtain⟨rfl,rfl,rfl⟩:=h2;have hl:(⟨st.i+1+3,st.g+1,false,(qe5 P st).acc⟩:PS)=qe5 P ⟨st.i+1,st.g,false,st.acc⟩:=rfl;rw[hl];obtain⟨k1,k2⟩:=strk_lift (st:=⟨st.i+1,st.g,false,st.acc⟩) hgp hg (P:=P) h8 h1;refine⟨fun hh=>?_,fun hh=>?_⟩
   . rw[k1 hh]; rfl
   . rw[k2 hh]; rfl
 rename_i h92;rw[iN h92];split at h
 . cases h
 . rename_i h42
   have h42':¬(s.getD st.i 0=42/\(qe5 P st).fi=false):=h42;rw[iN h42'];simp only[oS,pM]at h;obtain⟨rfl,rfl,rfl⟩:=h;refine⟨fun _=>?_,fun hh=>by simp only at hh; omega⟩;rw[qfd]; rfl
theorem gp_pcs (f d:Nat):Gp s (fun st=>pcs s f d st true):=fun a b n hab=>by
 obtain⟨n',dp,q1,q2,q3,_⟩:=qjz f d a true b n hab;rw[Bool.true_and]at q2;subst q2;exact⟨dp,q1,q3⟩
theorem qkj (hn:noA s) (hP:P.length=2):∀(f d:Nat) (st:PS) (all:Bool) (st':PS) (all':Bool),pcs s f d st all=some (st',all')->st.i<=s.length->st.g<=8->(d=0\/qae (s.drop st'.i) [92,41]=true)->(st'.g<=8->pcs (qcx s) f (d+1) (qe5 P st) all=some (qe5 P st',all'))/\(9<=st'.g->pcs (qcx s) f (d+1) (qe5 P st) all=none)
 | 0,d,st,all,st',all',h,_,_,_=>by cases h
 | f+1,d,st,all,st',all',h,hi,h8,hd=>by
  have hdrop:(qcx s).drop (qe5 P st).i=s.drop st.i++suf:=qcz hi;rw[pcs]at h ⊢;split at h
  . rename_i hc
    rw[oI]at h;obtain⟨⟨st1,em,sr⟩,h1,h2⟩:=h
    have hclose:qae (s.drop st.i) [92,41]=false:=by
     rcases hc.2 with h0|h0
     . cases hq:qae (s.drop st.i) [92,41]with
       | false=>rfl
       | true=>
        exfalso;have hl:=qcu hq (by simp);unfold qae at hq;rw[bA,beq_iff_eq]at hq;have hq2:=hq.2;have hlt1:st.i+1<s.length:=hl;rw[List.drop_eq_getElem_cons hc.1,List.drop_eq_getElem_cons hlt1]at hq2;simp only[List.length_cons,List.length_nil,List.take_succ_cons,List.take_zero,List.cons.injEq,and_true]at hq2;have g1:s.getD st.i 0=92:=by rw[List.getD_eq_getElem?_getD,List.getElem?_eq_getElem hc.1]; exact hq2.1
        have g2:s.getD (st.i+1) 0=41:=by rw[List.getD_eq_getElem?_getD,List.getElem?_eq_getElem hlt1]; exact hq2.2
        unfold pce at h1;rw[g1,iN (fun hh=>absurd hh.1 (by decide)),iN (fun hh=>absurd hh.1 (by decide)),iN (by decide),iN (by decide),iP rfl]at h1;unfold strk at h1;simp only[g2]at h1;rw[iP hlt1,iN (by decide),iN (by decide),iN (by decide)]at h1;cases h1
     . exact h0
    have hc':(qe5 P st).i<(qcx s).length/\(d+1=0\/qae ((qcx s).drop (qe5 P st).i) [92,41]=false):=by
     refine⟨by rw[qi2]; show st.i+3<_; have:=hc.1; omega,.inr ?_⟩;rw[hdrop,qmh,hclose,List.drop_eq_getElem_cons hc.1];rfl
    rw[iP hc'];have hgl:Gl s P (fun st=>pcs s f (d+1) st true) (fun st=>pcs (qcx s) f (d+1+1) st true):=fun a b n hab ha hg hp=>qkj hn hP f (d+1) a true b n hab ha hg (.inr hp);obtain⟨k1,k2⟩:=pce_lift hn (gp_pcs f (d+1)) hgl hc.1 h8 h1;obtain⟨dp,p1,p2,p3⟩:=pce_pf (gp_pcs f (d+1)) hc.1 h1;have hi1:=p1.il hi;by_cases hg1:st1.g<=8
    . rw[k1 hg1,oB]
      have hd1:(qcx s).drop (qe5 P st1).i=s.drop st1.i++suf:=qcz hi1;simp only at h2 ⊢;rw[hd1,pre_star];split at h2
      . rename_i hs
        rw[iP hs];have hl:=qcu hs.2 (by simp);have hl:st1.i+1<=s.length:=hl
        have hd2:(qcx s).drop ((qe5 P st1).i+1)=s.drop (st1.i+1)++suf:=by
         have:=qcz hl;rw[show st1.i+1+3=st1.i+3+1 by omega]at this;exact this
        rw[hd2,pre_star];split at h2
        . rename_i he
          rw[iP he]
          have hlf:(⟨(qe5 P st1).i+1,(qe5 P st1).g,(qe5 P st1).fi,agn (qe5 P st1).acc (qe5 P st).acc.length⟩:PS)=qe5 P ⟨st1.i+1,st1.g,st1.fi,agn st1.acc st.acc.length⟩:=by
           unfold qe5;simp only[PS.mk.injEq];refine⟨trivial,trivial,trivial,?_⟩;rw[lAq,lM,hP,Nat.add_comm 2,agn_lift hP]
          rw[hlf];exact qkj hn hP f d _ all st' all' h2 hl hg1 hd
        . cases h2
      . rename_i hs
        rw[iN hs];exact qkj hn hP f d _ _ st' all' h2 hi1 hg1 hd
    . have hg':9<=st'.g:=by
       split at h2
       . split at h2
         . obtain⟨_,_,q,_⟩:=qjz f d _ all st' all' h2
           have:=q.g;simp only at this;omega
         . cases h2
       . obtain⟨_,_,q,_⟩:=qjz f d _ _ st' all' h2
         have:=q.g;simp only at this;omega
      rw[k2 (by omega)];exact⟨fun hh=>by omega,fun _=>rfl⟩
  . rename_i hc
    simp only[oS,pM]at h;obtain⟨rfl,rfl⟩:=h
    have hc':¬((qe5 P st).i<(qcx s).length/\(d+1=0\/qae ((qcx s).drop (qe5 P st).i) [92,41]=false)):=by
     rw[hdrop,qmh];rintro ⟨_,h2|h2⟩
     . omega
     . rw[Bool.or_eq_false_iff]at h2
       rcases hd with hd|hd
       . subst hd
         have hle:s.length<=st.i:=by
          rcases Nat.lt_or_ge st.i s.length with h'|h'
          . exact absurd ⟨h',.inl rfl⟩ hc
          . exact h'
         rw[List.drop_eq_nil_of_le hle]at h2;exact absurd h2.2 (by decide)
       . simp only at hd
         rw[hd]at h2;exact absurd h2.1 (by decide)
    rw[iN hc'];exact⟨fun _=>rfl,fun hh=>by simp only at hh; omega⟩
end
def P2:List AS:=[stA 1 0,stA 5 2]
def Q3:List AS:=[stA 5 3,stA 2 0,stA 6 0]
def qd9 (X:List AS):List AS:=P2++X.map sh2++Q3
section
variable {X:List AS}
theorem qf8:(qd9 X).length=X.length+5:=by unfold qd9 P2 Q3; simp
theorem allL_0:(qd9 X)[0]?=some (stA 1 0):=rfl
theorem allL_1:(qd9 X)[1]?=some (stA 5 2):=rfl
theorem qk6 {n:Nat} (h:n<X.length):(qd9 X)[n+2]?=some (sh2 X[n]):=by
 unfold qd9 P2;rw[List.append_assoc];show(X.map sh2++Q3)[n]?=_;rw[List.getElem?_append_left (by rw[lM]; exact h),List.getElem?_map,List.getElem?_eq_getElem h];rfl
theorem qf7 (j:Nat):(qd9 X)[X.length+j+2]?=Q3[j]?:=by
 unfold qd9 P2;rw[List.append_assoc];show(X.map sh2++Q3)[X.length+j]?=_;rw[List.getElem?_append_right (by rw[lM]; omega),lM,Nat.add_sub_cancel_left]
theorem oneL_mid {n:Nat} (h:n<X.length):(X++[stA 6 0])[n]?=some X[n]:=by
 rw[List.getElem?_append_left h,List.getElem?_eq_getElem h]
theorem oneL_end:(X++[stA 6 0])[X.length]?=some (stA 6 0):=by
 rw[List.getElem?_append_right (lR _),Nat.sub_self]; rfl
theorem gonS_sh2 {x:AS} (h1:x.kind≠1) (h2:x.kind≠2) (n at_ size at1 size1:Nat):qch (sh2 x) (n+2) at1 size1=(qch x n at_ size).map (·+2):=by
 have hk:(sh2 x).kind=x.kind:=by unfold sh2; split<;>rfl
 unfold qch;rw[hk,iN h1,iN h2,iN h1,iN h2];by_cases h3:x.kind=3
 . rw[iP h3,iP h3]
   unfold sh2;rw[iP (.inl h3)];rfl
 rw[iN h3,iN h3];by_cases h4:x.kind=4
 . rw[iP h4,iP h4]
   unfold sh2;rw[iP (.inr (.inl h4))];rfl
 rw[iN h4,iN h4];by_cases h0:x.kind=0
 . rw[iP h0,iP h0]; rfl
 rw[iN h0,iN h0];by_cases h6:x.kind=6
 . rw[iP h6,iP h6]; rfl
 rw[iN h6,iN h6];rfl
theorem tak_sh2 {n:Nat} (h:n<X.length) (c:UInt8):tak (qd9 X) (n+2) c=tak (X++[stA 6 0]) n c:=by
 unfold tak;rw[qk6 h,oneL_mid h];have hk:(sh2 X[n]).kind=X[n].kind:=by unfold sh2; split<;>rfl
 have hp:(sh2 X[n]).p=X[n].p:=by unfold sh2; split<;>rfl
 simp only;rw[hk,hp]
variable (hX:∀x∈X,x.kind≠1/\x.kind≠2) (hw:WF (X++[stA 6 0])) {T:List UInt8} {a b:Nat} (hab:a<=b) (hb:b<=T.length)
def part (T:List UInt8) (a b:Nat):List UInt8:=(T.drop a).take (b-a)
theorem qis (hb:b<=T.length):(part T a b).length=b-a:=by unfold part; rw[List.length_take,List.length_drop]; omega
theorem part_get (T:List UInt8) (a b i:Nat) (h:i<(part T a b).length) (h2:a+i<T.length):(part T a b)[i]=T[a+i]:=by
 have h3:i<b-a:=by unfold part at h; rw[List.length_take]at h; omega
 have:(part T a b)[i]?=T[a+i]?:=by
  unfold part;rw[List.getElem?_take_of_lt h3,List.getElem?_drop]
 rw[List.getElem?_eq_getElem h,List.getElem?_eq_getElem h2,oS]at this;exact this
include hX hw hab hb in
theorem part_in:∀{e n:Nat},R (X++[stA 6 0]) T 0 a e n->e<=b->n<=X.length/\R (qd9 X) (part T a b) 0 0 (e-a) (n+2):=fun{e n} hr=>by
 induction hr with
 | start h1 h2=>
  intro _;rw[Nat.sub_self];refine⟨Nat.zero_le _,.eps 0 0 1 2 (.eps 0 0 0 1 (.start 0 (lR _) (Nat.zero_le _)) ?_) ?_⟩
  . unfold gon; rw[allL_0]; simp[qch,stA]
  . unfold gon; rw[allL_1]; simp[qch,stA]
 | eps e n k h hk ih=>
  intro he;obtain⟨i1,i2⟩:=ih he;have hg:=hw.gon hk;rw[lAq,List.length_singleton]at hg;refine⟨by omega,.eps _ _ _ _ i2 ?_⟩
  have hn:n<X.length:=by
   rcases Nat.lt_or_ge n X.length with h'|h'
   . exact h'
   . have:n=X.length:=by omega
     subst this;unfold gon at hk;rw[oneL_end]at hk;simp[qch,stA]at hk
  unfold gon at hk ⊢;rw[oneL_mid hn]at hk;rw[qk6 hn];simp only at hk ⊢;have hx:=hX _ (List.getElem_mem hn);rw[gonS_sh2 hx.1 hx.2 n e T.length];exact List.mem_map.2 ⟨k,hk,rfl⟩
 | take e n h ha hk ih=>
  intro he;obtain⟨i1,i2⟩:=ih (by omega);have hbd:=h.bnd;have ht:=hw.tak hk;rw[lAq,List.length_singleton]at ht;have hn:n<X.length:=by omega
  have hl:e-a<(part T a b).length:=by rw[qis hb]; omega
  refine⟨by omega,?_⟩
  have:=R.take _ _ _ i2 hl (by
   rw[tak_sh2 hn,part_get T a b (e-a) hl (by omega)];simp only[show a+(e-a)=e by omega]
   exact hk)
  rw[show e-a+1=e+1-a by omega]at this;rw[show n+2+1=n+1+2 by omega]at this;exact this
include hX hw hab hb in
theorem all_of_acc (h:Acc (X++[stA 6 0]) T 0 a b):Acc (qd9 X) (part T a b) 0 0 (b-a):=by
 unfold Acc at h ⊢;rw[lAq,List.length_singleton,Nat.add_sub_cancel]at h;have h1:=(part_in hX hw hab hb h (lR _)).2;rw[qf8];have e0:=qf7 (X:=X) 0;have e1:=qf7 (X:=X) 1;refine .eps _ _ (X.length+3) _ (.eps _ _ _ _ h1 ?_) ?_
 . unfold gon
   rw[show X.length+2=X.length+0+2 by omega,e0];simp[Q3,qch,stA]
 . unfold gon
   rw[show X.length+3=X.length+1+2 by omega,e1];simp[Q3,qch,stA,qis hb]
include hX hw hab hb in
theorem part_out:∀{B e n:Nat},R (qd9 X) (part T a b) 0 B e n->(n=0/\e=B)\/(B=0/\((n=1/\e=0)\/(∃j,n=j+2/\j<=X.length/\R (X++[stA 6 0]) T 0 a (a+e) j)\/(n=X.length+3/\Acc (X++[stA 6 0]) T 0 a (a+e))\/(n=X.length+4/\e=b-a/\Acc (X++[stA 6 0]) T 0 a (a+e)))):=fun{B e n} hr=>by
 have hlast:(X++[stA 6 0]).length-1=X.length:=by simp
 have e0:=qf7 (X:=X) 0;have e1:=qf7 (X:=X) 1;have e2:=qf7 (X:=X) 2;rw[Nat.add_zero]at e0
 induction hr with
 | start h1 h2=>exact .inl ⟨rfl,rfl⟩
 | eps e n k h hk ih=>
  unfold gon at hk;rcases ih with⟨rfl,rfl⟩|⟨rfl,⟨rfl,rfl⟩|⟨j,rfl,hj,hr⟩|⟨rfl,hacc⟩|⟨rfl,_,_⟩⟩
  . rw[allL_0]at hk
    simp only at hk;rcases qbr hk with⟨h3,_⟩|⟨h3,_⟩|⟨_,_,h3,h4,_⟩
    . exact absurd h3 (by show ¬(1:Nat)=3; decide)
    . exact absurd h3 (by show ¬(1:Nat)=4; decide)
    . have:=h4 rfl
      subst this;exact .inr ⟨rfl,.inl ⟨h3,rfl⟩⟩
  . rw[allL_1]at hk
    simp only at hk;rcases qbr hk with⟨h3,_⟩|⟨h3,_⟩|⟨_,_,h3,_⟩
    . exact absurd h3 (by show ¬(5:Nat)=3; decide)
    . exact absurd h3 (by show ¬(5:Nat)=4; decide)
    . exact .inr ⟨rfl,.inr (.inl ⟨0,h3,Nat.zero_le _,.start _ (Nat.zero_le _) (by omega)⟩)⟩
  . by_cases hjx:j<X.length
    . rw[qk6 hjx]at hk
      simp only at hk;have hx:=hX _ (List.getElem_mem hjx);rw[gonS_sh2 hx.1 hx.2 j (a+e) T.length,List.mem_map]at hk;obtain⟨k',hk',rfl⟩:=hk;have hg:k'∈gon (X++[stA 6 0]) j (a+e) T.length:=by unfold gon; rw[oneL_mid hjx]; exact hk'
      have hlt:=hw.gon hg;rw[lAq,List.length_singleton]at hlt;exact .inr ⟨rfl,.inr (.inl ⟨k',rfl,by omega,.eps _ _ _ _ hr hg⟩)⟩
    . have hjX:j=X.length:=by omega
      subst hjX;rw[e0]at hk;simp only[Q3,List.getElem?_cons_zero]at hk;rcases qbr hk with⟨h3,_⟩|⟨h3,_⟩|⟨_,_,h3,_⟩
      . exact absurd h3 (by show ¬(5:Nat)=3; decide)
      . exact absurd h3 (by show ¬(5:Nat)=4; decide)
      . exact .inr ⟨rfl,.inr (.inr (.inl ⟨h3,by unfold Acc; rw[hlast]; exact hr⟩))⟩
  . rw[show X.length+3=X.length+1+2 by omega,e1]at hk
    simp only[Q3,List.getElem?_cons_zero,List.getElem?_cons_succ]at hk;rcases qbr hk with⟨h3,_⟩|⟨h3,_⟩|⟨_,_,h3,_,h5⟩
    . exact absurd h3 (by show ¬(2:Nat)=3; decide)
    . exact absurd h3 (by show ¬(2:Nat)=4; decide)
    . have h6:=h5 rfl
      have h7:=h.bnd;rw[qis hb]at h6 h7;exact .inr ⟨rfl,.inr (.inr (.inr ⟨h3,by omega,hacc⟩))⟩
  . rw[show X.length+4=X.length+2+2 by omega,e2]at hk
    simp[Q3,qch,stA]at hk
 | take e n h ha hk ih=>
  rcases ih with⟨rfl,rfl⟩|⟨rfl,⟨rfl,rfl⟩|⟨j,rfl,hj,hr⟩|⟨rfl,hacc⟩|⟨rfl,_,_⟩⟩
  . unfold tak at hk
    rw[allL_0]at hk;simp[stA]at hk
  . unfold tak at hk
    rw[allL_1]at hk;simp[stA]at hk
  . by_cases hjx:j<X.length
    . have ha':=ha
      rw[qis hb]at ha';rw[tak_sh2 hjx,part_get T a b e ha (by omega)]at hk;exact .inr ⟨rfl,.inr (.inl ⟨j+1,by omega,hjx,.take _ _ _ hr (show a+e<T.length by omega) hk⟩)⟩
    . have hjX:j=X.length:=by omega
      subst hjX;unfold tak at hk;rw[e0]at hk;simp[Q3,stA]at hk
  . unfold tak at hk
    rw[show X.length+3=X.length+1+2 by omega,e1]at hk;simp[Q3,stA]at hk
  . unfold tak at hk
    rw[show X.length+4=X.length+2+2 by omega,e2]at hk;simp[Q3,stA]at hk
include hX hw hab hb in
theorem acc_of_all {B E:Nat} (h:Acc (qd9 X) (part T a b) 0 B E):B=0/\E=b-a/\Acc (X++[stA 6 0]) T 0 a b:=by
 unfold Acc at h;rw[qf8]at h;rcases part_out hX hw hab hb h with⟨h1,_⟩|⟨h0,⟨h1,_⟩|⟨j,h1,h2,_⟩|⟨h1,_⟩|⟨_,h1,h2⟩⟩
 . omega
 . omega
 . omega
 . omega
 . rw[show a+E=b by omega]at h2
   exact⟨h0,h1,h2⟩
theorem all_res (hX:∀x∈X,x.kind≠1/\x.kind≠2) (hw:WF (X++[stA 6 0])) (hw':WF (qd9 X)) (hab:a<=b) (hb:b<=T.length) :
 (qcw (qd9 X) (part T a b) 0=none/\¬Acc (X++[stA 6 0]) T 0 a b)\/(qcw (qd9 X) (part T a b) 0=some (((0:Nat):Int),((b-a:Nat):Int))/\Acc (X++[stA 6 0]) T 0 a b/\Acc (qd9 X) (part T a b) 0 0 (b-a)):=by
 have h:=qjo (T:=part T a b) (fr:=0) hw' (Nat.zero_le _);cases hr:qcw (qd9 X) (part T a b) 0 with
 | none=>
  rw[hr]at h;refine .inl ⟨rfl,fun hacc=>?_⟩;have h1:=all_of_acc hX hw hab hb hacc;have h2:=R.bnd h1;exact h 0 (b-a) (by omega) h1
 | some p=>
  rw[hr]at h;obtain⟨B,E,rfl,h1,h2,_⟩:=h;obtain⟨rfl,rfl,h3⟩:=acc_of_all hX hw hab hb h1;exact .inr ⟨rfl,h3,h1⟩
end
end Go.Proofs.Ytachpdpmoihjmaa.W
