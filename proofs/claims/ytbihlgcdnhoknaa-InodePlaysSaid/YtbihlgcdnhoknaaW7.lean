/-
  WHAT THE FUNCTIONS COME TO: each is read by the evaluator,printed,and told as a function of data,part 7 of 14 (no condition).
-/
import Derived.Test.YtbihlgcdnhoknaaW6
import Derived.Lib.SmallJoins
namespace Go.Proofs.Ytbihlgcdnhoknaa.W
open Go.Proofs.Ytbihlgcdnhoknaa.Ev Go.RowKit
set_option maxRecDepth 100000
noncomputable def mv2 (b0 b1 b2 x1 x2 x4:V) (S:St):Rs:=
(ld1 b0 S).bind fun p59=>
(qa2 p59.1).bind fun t60=>
(faP 4 false 1 t60).bind fun t61=>
(ld1 t61 p59.2).bind fun p62=>
(qal E0 66 p62.1 x1 false p62.2).bind fun p64=>
(qa2 p64.1).bind fun t65=>
(faP 5 false 1 t65).bind fun t66=>
(ld1 t66 p64.2).bind fun p67=>
(vu (qbt E0 63 p67.1 x2 p67.2)).bind fun p69=>
(ld1 b0 (onS p69.2)).bind fun p70=>
(qa2 p70.1).bind fun t71=>
(faP 4 false 1 t71).bind fun t72=>
(ld1 t72 (onS p70.2)).bind fun p73=>
(ld1 b1 (onS p73.2)).bind fun p74=>
(qal E0 66 p73.1 p74.1 false (onS p74.2)).bind fun p75=>
(qa2 p75.1).bind fun t76=>
(faP 5 false 1 t76).bind fun t77=>
(ld1 t77 (onS p75.2)).bind fun p78=>
(ld1 b2 (onS p78.2)).bind fun p80=>
(vu (qam E0 63 p78.1 x4 p80.1 (onS p80.2))).bind fun p81=>
qgx [(0,[4,10]),(3,[4,10]),(4,[10]),(5,[10]),(8,[10])] p69.2 [p70.2.log,[],[],p73.2.log,p74.2.log,p75.2.log,[],[],p78.2.log,[],p80.2.log,p81.2.log] p81.2 fun S82=>
(ld1 b0 (onS S82)).bind fun p83=>
(qa2 p83.1).bind fun t84=>
(faP 4 false 1 t84).bind fun t85=>
(ld1 t85 (onS p83.2)).bind fun p86=>
(ld1 b2 (onS p86.2)).bind fun p87=>
(qal E0 66 p86.1 p87.1 false (onS p87.2)).bind fun p88=>
qgx [(0,[4]),(3,[4])] S82 [p83.2.log,[],[],p86.2.log,p87.2.log,p88.2.log,[]] (onS p88.2) fun S90=>
(qa2 p88.1).bind fun t92=>
(faP 0 true 4 t92).bind fun t93=>
(faP 0 false 1 t93).bind fun t94=>
(ld1 t94 S90).bind fun p95=>
(qa6 E0 .eql 3 false true p95.1 (.int .i64 2)).bind fun t96=>
ifK t96 (
(ld1 b1 p95.2).bind fun p98=>
(qa2 p88.1).bind fun t99=>
(faP 4 false 1 t99).bind fun t100=>
(stP 1 t100 p98.1 p98.2).bind fun p101=>
some (.ret (.int .i64 0),p101.2)) (
some (.ret (.int .i64 0),p95.2))
noncomputable def mv1 (self:EV) (b0 b1 x1 x2 x4:V) (S:St):Rs:=
(ld1 b0 S).bind fun p35=>
qah (self.f 13 [p35.1,x1,x2] p35.2) fun t38 S38=>
(qab t38 0).bind fun t40=>
(qab t38 1).bind fun t41=>
(some (nwP 3 1 (Ev.one (.int .i64 0)) S38)).bind fun p42=>
(stP 1 p42.1 t40 p42.2).bind fun p43=>
(ld1 b0 p43.2).bind fun p47=>
(ld1 b1 p47.2).bind fun p48=>
qah (self.f 30 [p47.1,p48.1,x4] p48.2) fun t50 S50=>
(bsP 72 1 2 (Ev.one .nilfn) [(0,t50),(1,(.fn (.func 40) [] [b1,b0,p42.1]))] S50).bind fun p52=>
qah (self.f 26 [p52.1] p52.2) fun t53 S53=>
(qa6 E0 .neq 27 false true t53 (.int .i64 0)).bind fun t56=>
ifK t56 (
some (.ret t53,S53)) (
mv2 b0 b1 p42.1 x1 x2 x4 S53)
theorem F19_cut (self:EV) (N:Nat) (x0 x1 x2 x3 x4:V) (S:St):F19 self N x0 x1 x2 x3 x4 S =
(qdb 23 x0 S).bind fun p0=>
(qdb 3 x3 p0.2).bind fun p1=>
(ld1 p0.1 (onS p1.2)).bind fun p3=>
(ld1 p0.1 (onS p3.2)).bind fun p5=>
qbq (qaf E0 (B19.r.l).ops) p1.2 4 [p3.2.log,[],p5.2.log,[]] (self.f 28 [p5.1,x1] (onS p5.2)) fun t7 S7=>
(ld1 p0.1 (onS S7)).bind fun p8=>
(ld1 p1.1 (onS p8.2)).bind fun p9=>
qbq (qaf E0 (B19.r.l).ops) p1.2 7 [p3.2.log,[],p5.2.log,[],S7.log,p8.2.log,p9.2.log] (self.f 28 [p8.1,p9.1] (onS p9.2)) fun t10 S10=>
qbq (qaf E0 (B19.r.l).ops) p1.2 9 [p3.2.log,[],p5.2.log,[],S7.log,p8.2.log,p9.2.log,S10.log,[]] (self.f 29 [x4] (onS S10)) fun t12 S12=>
(ld1 p0.1 (onS S12)).bind fun p13=>
qbq (qaf E0 (B19.r.l).ops) p1.2 13 [p3.2.log,[],p5.2.log,[],S7.log,p8.2.log,p9.2.log,S10.log,[],S12.log,p13.2.log,[],[]] (self.f 37 [p13.1,x1,x2] (onS p13.2)) fun t16 S16=>
(bsP 72 1 5 (Ev.one .nilfn) [(0,(.fn (.func 27) [p3.1] [])),(1,t7),(2,t10),(3,t12),(4,t16)] (onS S16)).bind fun p17=>
qbq (qaf E0 (B19.r.l).ops) p1.2 15 [p3.2.log,[],p5.2.log,[],S7.log,p8.2.log,p9.2.log,S10.log,[],S12.log,p13.2.log,[],[],S16.log,p17.2.log] (self.f 26 [p17.1] (onS p17.2)) fun t18 S18=>
qgx [(0,[2,4,5,6,7,9,10,13]),(2,[5,6,10]),(4,[5,6,10]),(5,[6,10]),(6,[10]),(7,[10]),(9,[10])] p1.2 [p3.2.log,[],p5.2.log,[],S7.log,p8.2.log,p9.2.log,S10.log,[],S12.log,p13.2.log,[],[],S16.log,p17.2.log,S18.log,[]] (onS S18) fun S20=>
(qa6 E0 .neq 27 false true t18 (.int .i64 0)).bind fun t22=>
(qa3 false t22).bind fun g24=>(bif g24 then some x1 else some (.tuple [])).bind fun t24=>
(qa3 false t22).bind fun g25=>(bif g25 then ld1 p1.1 S20 else some (.tuple [],S20)).bind fun p25=>
(qa3 false t22).bind fun g26=>(bif g26 then qa6 E0 .eql 3 false false t24 p25.1 else some (.tuple [])).bind fun t26=>
(qa3 false t22).bind fun g27=>(bif g27 then some t26 else some (.tuple [])).bind fun t27=>
(qa3 true t27).bind fun g28=>(bif g28 then some x2 else some (.tuple [])).bind fun t28=>
(qa3 true t27).bind fun g29=>(bif g29 then some x4 else some (.tuple [])).bind fun t29=>
(qa3 true t27).bind fun g30=>(bif g30 then qa6 E0 .eql 9 false false t28 t29 else some (.tuple [])).bind fun t30=>
(qa3 false t22).bind fun g31=>(bif g31 then qaw t27 (some t30) (some (.bool false))else some (.tuple [])).bind fun t31=>
(qaw t22 (some (.bool true)) (some t31)).bind fun t32=>
ifK t32 (
some (.ret t18,p25.2)) (
mv1 self p0.1 p1.1 x1 x2 x4 p25.2):=F19_eq self N x0 x1 x2 x3 x4 S
theorem rd19 {n:Nat} {args:List V} {s:St} {r:En×St} (e:qb6 E0 (ev E0 KD n) qa4 Try.f19 B19 args s=some r):(ev E0 KD (n+1)).f 19 args s=some r:=qaa (c:=C19) (d:=B19) (by kernel_rfl) (by kernel_rfl) (qa5 C19 _ (by kernel_rfl)) rfl e
theorem rd40 {n:Nat} {args:List V} {s:St} {r:En×St} (e:qb6 E0 (ev E0 KD n) qa4 Try.f40 B40 args s=some r):(ev E0 KD (n+1)).f 40 args s=some r:=qaa (c:=C40) (d:=B40) (by kernel_rfl) (by kernel_rfl) (qa5 C40 _ (by kernel_rfl)) rfl e
section
variable {T:Tab} {B:Nat}
inductive Met (T:Tab) (i:Int):Int->Nat->Prop where
 | here:i≠1->Met T i i 0
 | step {j:Int} {n:Nat} {q:Nod}:j≠i->T.get j=some q->j≠1->Met T i q.ino.up n->Met T i j (n+1)
theorem Up.uniq:∀{i:Int} {n m:Nat},Up T i n->Up T i m->n=m
 | _,_,_,.root,.root=>rfl
 | _,_,_,.root,.step _ _ h _=>absurd rfl h
 | _,_,_,.step _ _ h _,.root=>absurd rfl h
 | _,_,_,.step h1 _ _ h4,.step k1 _ _ k4=>by
  rw[h1]at k1;cases k1;rw[Up.uniq h4 k4]
theorem UpA.up {i:Int}:∀{j:Int} {n:Nat},UpA T i j n->Up T j n
 | _,_,.root=>.root
 | _,_,.step _ h2 h3 h4 h5=>.step h2 h3 h4 h5.up
theorem Up.or (i:Int):∀{j:Int} {n:Nat},Up T j n->UpA T i j n\/∃m,m<=n/\Met T i j m
 | _,_,.root=>.inl .root
 | j,_,.step (n:=n) h1 h2 h3 h4=>by
  by_cases hj:j=i
  . subst hj
    exact .inr ⟨0,Nat.zero_le _,.here h3⟩
  . rcases Up.or i h4 with h|⟨m,hm,h⟩
    . exact .inl (.step hj h1 h2 h3 h)
    . exact .inr ⟨m+1,by omega,.step hj h1 h3 h⟩
theorem Met.not {i:Int}:∀{j:Int} {m n:Nat},Met T i j m->UpA T i j n->False
 | _,_,_,.here h,k=>by
  cases k with
  | root=>exact h rfl
  | step h1 _ _ _ _=>exact h1 rfl
 | _,_,_,.step _ _ h _,.root=>h rfl
 | _,_,_,.step h1 h2 h3 h4,.step k1 k2 _ _ k5=>by
  rw[h2]at k2;cases k2;exact h4.not k5
open Classical in
noncomputable def qdf (T:Tab) (t i:Int):Int:=if ∃n,UpA T i t n then 0 else 2
theorem neq3 (t:TypeId) (c d:Bool) (x y:Int):qa6 E0 .neq t c d (.int .i64 x) (.int .i64 y)=some (.bool (!(x==y))):=by
 rw[binV_ii,intsV_neq];by_cases h:x=y<;>simp[h]
section
variable {U:St} {b r:Nat}
theorem L40_up (h:TabAt U b r T) {x1 x2:Nat} {i:Int} (c1:Cap U x1 23 (.ptr b 0)) (c2:Cap U x2 3 (.int .i64 i)) (self:EV) (N:Nat) (nk:Ac->St->Rs) (ek:Nat->Ac->St->Rs) :
 ∀{at_:Int} {n:Nat} (k:Nat),UpA T i at_ n->n<k->L40_5 self N nk ek k (.ptr x1 0) (.ptr x2 0) (.int .i64 at_) U=ek 0 (fr 20 []) U
 | _,_,0,_,hk=>by omega
 | _,_,k+1,.root,_=>by
  rw[qnc,neq3,oB,ifK_bool]; rfl
 | at_,_,k+1,.step (n:=n) (q:=q) h1 h2 h3 h4 h5,hk=>by
  rw[qnc,neq3,oB,ifK_bool,beq_false_of_ne h4,nF,cT,c2.ld h.on,oB];dsimp only;rw[qbl,oB,ifK_bool,dF h1,cF,c1.ld h.on,oB];dsimp only;rw[qc5,oB,qax,oB,Nat.zero_add,h.ld (v:=.map r) rfl,oB];dsimp only;rw[qer h at_,oB,h2];simp only[qjw,qc5,qax,oB,Nat.zero_add];rw[h.nd1 h2 (v:=.int .i64 q.ino.up) rfl,oB];exact L40_up h c1 c2 self N nk ek k h5 (by omega)
theorem L40_met (h:TabAt U b r T) {x1 x2:Nat} {i:Int} (c1:Cap U x1 23 (.ptr b 0)) (c2:Cap U x2 3 (.int .i64 i)) (self:EV) (N:Nat) (nk:Ac->St->Rs) (ek:Nat->Ac->St->Rs) :
 ∀{at_:Int} {n:Nat} (k:Nat),Met T i at_ n->n<k->L40_5 self N nk ek k (.ptr x1 0) (.ptr x2 0) (.int .i64 at_) U=some (.ret (.int .i64 2),U)
 | _,_,0,_,hk=>by omega
 | _,_,k+1,.here h1,_=>by
  rw[qnc,neq3,oB,ifK_bool,beq_false_of_ne h1,nF,cT,c2.ld h.on,oB];dsimp only;rw[qbl,oB,ifK_bool,dT rfl,cT]
 | at_,_,k+1,.step (n:=n) (q:=q) h1 h2 h4 h5,hk=>by
  rw[qnc,neq3,oB,ifK_bool,beq_false_of_ne h4,nF,cT,c2.ld h.on,oB];dsimp only;rw[qbl,oB,ifK_bool,dF h1,cF,c1.ld h.on,oB];dsimp only;rw[qc5,oB,qax,oB,Nat.zero_add,h.ld (v:=.map r) rfl,oB];dsimp only;rw[qer h at_,oB,h2];simp only[qjw,qc5,qax,oB,Nat.zero_add];rw[h.nd1 h2 (v:=.int .i64 q.ino.up) rfl,oB];exact L40_met h c1 c2 self N nk ek k h5 (by omega)
variable {S:St}
theorem apart_asks (h:TabAt S b r T) (m:Nat) {y x z:Nat} {t i:Int} {n:Nat} (hu:Up T t n) (hn:n<qa4) (hy:Cap S y 3 (.int .i64 t)) (hx:Cap S x 23 (.ptr b 0)) (hz:Cap S z 3 (.int .i64 i)):Asks S (m+1) (.fn (.func 40) [] [.ptr y 0,.ptr x 0,.ptr z 0]) (qdf T t i):=fun U g=>by
 have h1:=h.grewF g;refine⟨U,?_,Grew.refl _ _⟩;rw[qct (qci (by decide)) (by kernel_rfl)];refine rd40 ?_;show F40 (ev E0 KD m) qa4 (.ptr y 0) (.ptr x 0) (.ptr z 0) U=_;rw[F40_eq,(hy.grew g).ld h1.on,oB];dsimp only;unfold qdf;rcases hu.or i with ha|⟨k,hk,hm⟩
 . rw[iP ⟨_,ha⟩,L40_up h1 (hx.grew g) (hz.grew g) _ _ _ _ qa4 ha hn,exB_same,R40_1_eq]
 . rw[iN fun⟨n',e⟩=>hm.not e]
   exact L40_met h1 (hx.grew g) (hz.grew g) _ _ _ _ qa4 hm (by omega)
end
end
section
variable {S U:St} {b r:Nat} {T:Tab}
theorem Cap.keep {W:Nat->Prop} {x e:Nat} {v:V} (h:Cap S x e v) (hw:¬W x) (g:Grew W S U):Cap U x e v:=⟨h.bx.grew h.lt hw g,Nat.lt_of_lt_of_le h.lt g.next⟩
theorem box2_steps (ho:S.on=false) (e e2:Nat) {v v2:V} (hv:OneV v) (hv2:OneV v2):∃U1 U,qdb e v S=some (.ptr S.next 0,U1)/\qdb e2 v2 U1=some (.ptr (S.next+1) 0,U)/\Cap U S.next e v/\Cap U (S.next+1) e2 v2/\Grew (fun _=>False) S U/\U.next=S.next+2:=by
 obtain⟨U1,h1,h2,h3,h4⟩:=qi7 ho e hv;obtain⟨U2,k1,k2,k3,k4⟩:=qi7 (h3.on.trans ho) e2 hv2;have c1:Cap U1 S.next e v:=⟨h2,by omega⟩
 rw[h4]at k1 k2 k4;exact⟨U1,U2,h1,k1,c1.grew k3,⟨k2,by omega⟩,h3.trans k3,by omega⟩
def eMove (T:Tab) (f:Int) (a:List UInt8) (t:Int) (c:List UInt8):Int:=qcf [0,qf9 T f,qf9 T t,qcw c,qdr T f a]
theorem gTu:qa3 true (.tuple [])=some false:=rfl
theorem mv_head (h:TabAt S b r T) (m:Nat) (f t:Int) (a c:List UInt8) (hc:c.length<9223372036854775808) :
 ∃U,Grew (fun _=>False) S U/\Cap U S.next 23 (.ptr b 0)/\Cap U (S.next+1) 3 (.int .i64 t)/\F19 (ev E0 KD (m+4)) qa4 (.ptr b 0) (.int .i64 f) (sv a) (.int .i64 t) (sv c) S =
  if eMove T f a t c=0/\¬(f=t/\a=c)then mv1 (ev E0 KD (m+4)) (.ptr S.next 0) (.ptr (S.next+1) 0) (.int .i64 f) (sv a) (sv c) U else some (.ret (.int .i64 (eMove T f a t c)),U):=by
 obtain⟨S1,S2,s1,s2,c1,c2,g2,n2⟩:=box2_steps h.on 23 3 (oneP b 0) (qb4 .i64 t);have h2:=h.grewF g2;obtain⟨S3,a1,a2,a3,a4,a5⟩:=qlw (m+3) h2.on b f;have h3:=h2.grewF a4;obtain⟨S4,b1,b2,b3,b4,b5⟩:=qlw (m+3) h3.on b t;have h4:=h3.grewF b4;obtain⟨S5,d1,d2,d3,d4⟩:=qpa (m+3) h4.on c;have h5:=h4.grewF d3;obtain⟨S6,e1,e2,e3,e4,e5,e6⟩:=qov (m+3) h5.on b f a;have h6:=h5.grewF e5;have g56:=d3.trans e5;have g46:=b4.trans g56;have g36:=a4.trans g46
 have all:AsksAll S6 (m+3) [.fn (.func 27) [.ptr b 0] [],.fn (.func 57) [] [.ptr S2.next 0,.ptr (S2.next+1) 0],.fn (.func 57) [] [.ptr S3.next 0,.ptr (S3.next+1) 0],.fn (.func 58) [] [.ptr S4.next 0],.fn (.func 63) [] [.ptr S5.next 0,.ptr (S5.next+1) 0,.ptr (S5.next+2) 0]] (eMove T f a t c):=
  qae (qcc (m+1) b) (qae (qeo h6 (m+1) (a2.grew g46) (a3.grew g46)) (qae (qeo h6 (m+1) (b2.grew g56) (b3.grew g56)) (qae (qk8 (m+1) h6.on (d2.grew e5) hc) (qae (qhj h6 m e2 e3 e4) qf7))))
 obtain⟨R,U,q1,q2,q3,q4⟩:=asked h6.on (m+3) _ (fun v hv=>by
  simp only[List.mem_cons,List.not_mem_nil,or_false]at hv
  rcases hv with rfl|rfl|rfl|rfl|rfl<;>exact oneF _ _ _) (by show 5<1000000; decide) all
 obtain⟨l2,q2'⟩:=qe7 (m+3) q2;have gU:=g36.trans q3;have gA:=qdm gU h2.on;have onA:(atS U S2).on=false:=rfl;have k1:=c1.grew gA;have k2:=c2.grew gA;refine⟨atS U S2,g2.trans gA,k1,k2,?_⟩;generalize hA:atS U S2=A at onA gA k1 k2;rw[F19_cut,s1,oB];dsimp only;rw[s2,oB];dsimp only;rw[c1.ldL h2.on,oB];dsimp only;rw[qa1,c1.ldL h2.on,oB];dsimp only;rw[qa1,show(ev E0 KD (m+4)).f 28 [.ptr b 0,.int .i64 f] (onS S2)=_ from a1 (some []),qa7];rw[show onS (stt S3 (Option.map _ (some [])))=onS S3 from rfl,(c1.grew a4).ldL h3.on,oB];dsimp only;rw[qa1,(c2.grew a4).ldL h3.on,oB];dsimp only;rw[qa1,show(ev E0 KD (m+4)).f 28 [.ptr b 0,.int .i64 t] (onS S3)=_ from b1 (some []),qa7];rw[show onS (stt S4 (Option.map _ (some [])))=onS S4 from rfl,show(ev E0 KD (m+4)).f 29 [sv c] (onS S4)=_ from d1 (some []),qa7];rw[show onS (stt S5 (Option.map _ (some [])))=onS S5 from rfl,((c1.grew (a4.trans b4)).grew d3).ldL h5.on,oB];dsimp only;rw[qa1,show(ev E0 KD (m+4)).f 37 [.ptr b 0,.int .i64 f,sv a] (onS S5)=_ from e1 (some []),qa7];rw[show bsP 72 1 5 (Ev.one .nilfn) [(0,(.fn (.func 27) [.ptr b 0] [])),(1,.fn (.func 57) [] [.ptr S2.next 0,.ptr (S2.next+1) 0]),(2,.fn (.func 57) [] [.ptr S3.next 0,.ptr (S3.next+1) 0]),(3,.fn (.func 58) [] [.ptr S4.next 0]),(4,.fn (.func 63) [] [.ptr S5.next 0,.ptr (S5.next+1) 0,.ptr (S5.next+2) 0])] (onS (stt S6 (Option.map _ (some []))))=_ from q1 (some []),oB]
 dsimp only;rw[show(ev E0 KD (m+4)).f 26 _ (onS (stt R (Option.map _ (some []))))=_ from q2',qa7];rw[qfg (S.next+2) [0,2,5,6,10] [4,7,9,13]]
 rotate_left
 . rfl
 . exact⟨⟨⟨rfl,by show S.next<S.next+2; omega⟩,trivial⟩,⟨⟨rfl,by show S.next<S.next+2; omega⟩,trivial⟩,⟨⟨rfl,by show S.next<S.next+2; omega⟩,trivial⟩,⟨⟨rfl,by show S.next+1<S.next+2; omega⟩,trivial⟩,⟨⟨rfl,by show S.next<S.next+2; omega⟩,trivial⟩,trivial⟩
 . exact⟨⟨by show S.next+2<=S2.next+1; omega,by show S.next+2<=S2.next; omega,trivial⟩,⟨by show S.next+2<=S3.next+1; omega,by show S.next+2<=S3.next; omega,trivial⟩,⟨by show S.next+2<=S4.next; omega,trivial⟩,⟨by show S.next+2<=S5.next+2; omega,by show S.next+2<=S5.next+1; omega,by show S.next+2<=S5.next; omega,trivial⟩,trivial⟩
 rw[qa1,qbf h2.on,hA,neq27,oB];generalize eMove T f a t c=e;by_cases h0:e=0
 . subst h0
   simp only[beq_self_eq_true,Bool.not_true,gFF,oB,cT];rw[k2.ld onA,oB];dsimp only;rw[qbl,oB];by_cases hft:f=t
   . rw[dT hft]
     simp only[gTT,oB,cT,eqStr,pickV_bool,cF,ifK_bool];by_cases hac:a=c
     . rw[show(a==c)=true by simp[hac],cT,iN fun h=>h.2 ⟨hft,hac⟩]
     . rw[show(a==c)=false from beq_false_of_ne hac,cF,iP ⟨trivial,fun h=>hac h.2⟩]
   . rw[dF hft]
     simp only[gTF,oB,cF,pickV_bool,ifK_bool];rw[iP ⟨trivial,fun h=>hft h.1⟩]
 . rw[beq_false_of_ne h0]
   simp only[nF,gFT,oB,cF,gTu,pickV_bool,cT,ifK_bool];rw[iN fun h=>h0 h.1]
end
section
variable {S U:St} {b r:Nat} {T:Tab}
theorem var_one (ho:S.on=false) (e:Nat) (z:Tr V) {v:V} (hv:OneV v):∃t,stP 1 (.ptr S.next 0) v (nwP e 1 z S).2=some (.tuple [],t)/\Bx t S.next e [v]/\Grew (fun _=>False) S t/\t.next=S.next+1:=by
 obtain⟨t,h1,h2,h3,h4⟩:=qf2 ho e 1 z [v] rfl (by omega) big1;refine⟨t,?_,h2,h3,h4⟩;rw[<- h1];show vu (bif Nat.beq v.size 1&&!qai v then stK _ _ _ 1 v.cells else none)=_;rw[hv.size,hv.tup,hv.cells]; rfl
def qor (T:Tab) (t:Int) (c:List UInt8) (e:Int):Int:=qcf [qkx T t c,e]
theorem mv1_run (h:TabAt S b r T) (m:Nat) {x0 x3:Nat} {f t i:Int} {a c:List UInt8} {n:Nat} (c0:Cap S x0 23 (.ptr b 0)) (c3:Cap S x3 3 (.int .i64 t)) (hf:T.find f a=some i) (hu:Up T t n) (hn:n<qa4) :
 ∃U z,Grew (fun _=>False) S U/\Cap U z 3 (.int .i64 i)/\S.next<=z/\mv1 (ev E0 KD (m+4)) (.ptr x0 0) (.ptr x3 0) (.int .i64 f) (sv a) (sv c) S =
  if qor T t c (qdf T t i)=0 then mv2 (.ptr x0 0) (.ptr x3 0) (.ptr z 0) (.int .i64 f) (sv a) (sv c) U else some (.ret (.int .i64 (qor T t c (qdf T t i))),U):=by
 obtain⟨S1,s1,s2,s3,s4⟩:=var_one h.on 3 (Ev.one (.int .i64 0)) (qb4 .i64 i);have h1:=h.grewF s3;have cz:Cap S1 S.next 3 (.int .i64 i):=⟨s2,by omega⟩
 obtain⟨S2,a1,a2,a3,a4,a5,a6⟩:=free_run (m+3) h1.on b t c;have h2:=h1.grewF a5;have k0:=(c0.grew s3).grew a5;have k3:=(c3.grew s3).grew a5;have kz:=cz.grew a5
 have all:AsksAll S2 (m+3) [.fn (.func 60) [] [.ptr S1.next 0,.ptr (S1.next+1) 0,.ptr (S1.next+2) 0],.fn (.func 40) [] [.ptr x3 0,.ptr x0 0,.ptr S.next 0]] (qor T t c (qdf T t i)):=
  qae (qm1 h2 m a2 a3 a4) (qae (apart_asks h2 (m+2) hu hn k3 k0 kz) qf7)
 obtain⟨R,U,q1,q2,q3,q4⟩:=asked h2.on (m+3) _ (fun v hv=>by
  simp only[List.mem_cons,List.not_mem_nil,or_false]at hv
  rcases hv with rfl|rfl<;>exact oneF _ _ _) (by show 2<1000000; decide) all
 refine⟨U,S.next,(s3.trans a5).trans q3,kz.grew q3,lR _,?_⟩;unfold mv1;rw[c0.ld h.on,oB];dsimp only;rw[show ev E0 KD (m+4)=ev E0 KD (m+2+2)from rfl,qj7 h (m+2) f a,callP_ret,extr0,oB,extr1,oB,hf,show(some i).getD 0=i from rfl,oB];rw[qdz,s1,oB];dsimp only;rw[(c0.grew s3).ld h1.on,oB];dsimp only;rw[(c3.grew s3).ld h1.on,oB];dsimp only;rw[show(ev E0 KD (m+2+2)).f 30 [.ptr b 0,.int .i64 t,sv c] S1=_ from a1 none,callP_ret];rw[show bsP 72 1 2 (Ev.one .nilfn) [(0,.fn (.func 60) [] [.ptr S1.next 0,.ptr (S1.next+1) 0,.ptr (S1.next+2) 0]),(1,.fn (.func 40) [] [.ptr x3 0,.ptr x0 0,.ptr S.next 0])] (stt S2 (Option.map _ none))=_ from q1 none,oB];dsimp only;rw[show(ev E0 KD (m+2+2)).f 26 _ (stt R (Option.map _ none))=_ from q2,callP_ret,neq27,oB,ifK_bool];by_cases h0:qor T t c (qdf T t i)=0
 . rw[iP h0,h0]; rfl
 . rw[iN h0,beq_false_of_ne h0]; rfl
theorem own_lt (h:TabAt S b r T) {y:Nat} (hy:Own b r T y):y<S.next:=by
 rcases hy with rfl|rfl|⟨p,hp,rfl|e⟩
 . exact h.hb
 . exact h.hr
 . exact h.hn p hp
 . exact h.hm p hp _ e
theorem ino_set4 (n:Ino) (d:Int):(Tr.ofListFrom .nil n.cells 0).set (.int .i64 d) 4=Tr.ofListFrom .nil (setU d n).cells 0:=set6_4 ..
theorem TabAt.setUp (h:TabAt S b r T) {i:Int} {p:Nod} (hp:T.get i=some p) (d:Int):∃U,stP 1 (.ptr p.box 4) (.int .i64 d) S=some (.tuple [],U)/\TabAt U b r (T.upd i (setU d))/\Grew (fun x=>x=p.box) S U/\U.next=S.next:=by
 have hb:=h.nd p (qar hp).1;exact⟨_,qoe h.on hb rfl (m:=(setU d p.ino).cells) rfl (i:=4) (by decide) (ino_set4 _ _) rfl rfl rfl,h.putN hp (setU d) rfl rfl,qan _ _,rfl⟩
theorem mv2_run (h:TabAt S b r T) {x0 x3 z:Nat} {f t i:Int} {a c:List UInt8} {p pt q:Nod} {mf mt:Nat} (o0:¬Own b r T x0) (o3:¬Own b r T x3) (oz:¬Own b r T z)
 (c0:Cap S x0 23 (.ptr b 0)) (c3:Cap S x3 3 (.int .i64 t)) (cz:Cap S z 3 (.int .i64 i)) (hp:T.get f=some p) (hm:p.ino.map=some mf) (ha:lkS a p.ino.ents=some i) (hpt:(T.upd f (qbj (qa9 a p.ino.ents))).get t=some pt) (hmt:pt.ino.map=some mt) (hq:T.get i=some q) :
 ∃U,mv2 (.ptr x0 0) (.ptr x3 0) (.ptr z 0) (.int .i64 f) (sv a) (sv c) S=some (.ret (.int .i64 0),U)/\TabAt U b r (moved T f a t c i p.ino.ents pt.ino.ents q.ino.kind)/\Grew (Own b r T) S U:=by
 have ownf:Own b r T mf:=qpm hp hm
 have ownt:Own b r T mt:=by
  rw[qap,Option.map_eq_some_iff]at hpt;obtain⟨x,hx,hxx⟩:=hpt;refine qpm hx ?_;rw[<- hmt,<- hxx]; split<;>rfl
 have ownq:Own b r T q.box:=qpl hq;obtain⟨S1,a1,a2,a3,a4⟩:=h.delName hp hm ha;have d0:=c0.keep (fun e:x0=mf=>o0 (e▸ownf)) a3;have d3:=c3.keep (fun e:x3=mf=>o3 (e▸ownf)) a3;have dz:=cz.keep (fun e:z=mf=>oz (e▸ownf)) a3;obtain⟨S2,b1,b2,b3,b4⟩:=a2.setName hpt hmt c i;have ht2:=b2.same (U:=atS S2 S1) rfl rfl rfl;have gB:=qdm b3 a2.on;have e0:=d0.keep (fun e:x0=mt=>o0 (e▸ownt)) gB;have e3:=d3.keep (fun e:x3=mt=>o3 (e▸ownt)) gB;have ez:=dz.keep (fun e:z=mt=>oz (e▸ownt)) gB;have hgB:Grew (Own b r T) S (atS S2 S1):=(a3.mono fun x _ hx=>hx▸ownf).trans (gB.mono fun x _ hx=>hx▸ownt)
 have hq2:∃q2,((T.upd f (qbj (qa9 a p.ino.ents))).upd t (qbj (qb1 c i pt.ino.ents))).get i=some q2/\q2.box=q.box/\q2.ino.kind=q.ino.kind:=by
  rw[qap,qap,hq,Option.map_some,Option.map_some];refine⟨_,rfl,?_,?_⟩
  . split<;>split<;>rfl
  . split<;>split<;>rfl
 obtain⟨q2,hq2,hbox,hkind⟩:=hq2;generalize hA:atS S2 S1=A at ht2 gB e0 e3 ez hgB
 have head:mv2 (.ptr x0 0) (.ptr x3 0) (.ptr z 0) (.int .i64 f) (sv a) (sv c) S=ifK (.bool (decide (q.ino.kind=2))) ((stP 1 (.ptr q.box 4) (.int .i64 t) A).bind fun p101=>some (.ret (.int .i64 0),p101.2)) (some (.ret (.int .i64 0),A)):=by
  unfold mv2;rw[c0.ld h.on,oB];dsimp only;rw[qc5,oB,qax,oB,Nat.zero_add,h.ld (v:=.map r) rfl,oB];dsimp only;rw[qer h f,oB,hp];simp only[qjw,qc5,qax,oB,Nat.zero_add];rw[h.nd1 hp (v:=mapV p.ino.map) rfl,oB];dsimp only;rw[hm];simp only[mapV];rw[show qbt E0 63 (.map mf) (sv a) S=_ from a1 none];show((some (V.tuple [],S1)).bind _)=_;rw[oB];dsimp only;rw[d0.ldL a2.on,oB];dsimp only;rw[qc5,oB,qax,oB,qa1,Nat.zero_add,a2.ldL (v:=.map r) rfl,oB];dsimp only;rw[qa1,d3.ldL a2.on,oB];dsimp only;rw[qa1,qft a2,oB,hpt];simp only[qjw,qc5,qax,oB,Nat.zero_add,qa1];rw[a2.ndL hpt (k:=5) (v:=mapV pt.ino.map) rfl,oB];dsimp only;rw[qa1,dz.ldL a2.on,oB];dsimp only;rw[qa1,hmt];simp only[mapV];rw[show qam E0 63 (.map mt) (sv c) (.int .i64 i) (onS S1)=_ from b1 (some [])];show((some (V.tuple [],S2.lg _)).bind _)=_;rw[oB];dsimp only;rw[qd6 (by rfl),qfb a2.on,hA,e0.ldL ht2.on,oB];dsimp only;rw[qc5,oB,qax,oB,qa1,Nat.zero_add,ht2.ldL (v:=.map r) rfl,oB];dsimp only;rw[qa1,ez.ldL ht2.on,oB];dsimp only;rw[qa1,qft ht2,oB,hq2];simp only[qjw];rw[qd6 (by rfl),qa1,qhc ht2.on];simp only[qc5,qax,oB,Nat.zero_add];rw[ht2.nd1 hq2 (k:=0) (v:=.int .i64 q2.ino.kind) rfl,oB];dsimp only;rw[qbl,oB,hkind,e3.ld ht2.on,hbox];rfl
 rw[ifK_bool]at head;by_cases hk:q.ino.kind=2
 . obtain⟨U,u1,u2,u3,u4⟩:=ht2.setUp hq2 t
   rw[hbox]at u1 u3;rw[dT hk,cT,u1]at head;refine⟨U,head,?_,hgB.trans (u3.mono fun x _ hx=>hx▸ownq)⟩;unfold moved;rw[iP hk]; exact u2
 . rw[dF hk,cF]at head
   refine⟨A,head,?_,hgB⟩;unfold moved;rw[iN hk]; exact ht2
end
section
variable {S U:St} {b r:Nat} {T:Tab} {B:Nat}
noncomputable def eMv (T:Tab) (f:Int) (a:List UInt8) (t:Int) (c:List UInt8):Int:=
 if eMove T f a t c=0/\¬(f=t/\a=c)then qor T t c (qdf T t ((T.find f a).getD 0))else eMove T f a t c
inductive Moves (T:Tab) (f:Int) (a:List UInt8) (t:Int) (c:List UInt8):Tab->Prop where
 | same:f=t->a=c->Moves T f a t c T
 | go {i:Int} {p pt q:Nod}:¬(f=t/\a=c)->T.get f=some p->lkS a p.ino.ents=some i->(T.upd f (qbj (qa9 a p.ino.ents))).get t=some pt->pt.ino.kind=2->lkS c pt.ino.ents=none->T.get i=some q->(q.ino.kind=2->∃n,UpA T i t n)->
  Moves T f a t c (moved T f a t c i p.ino.ents pt.ino.ents q.ino.kind)
theorem qgv {T:Tab} {d:Int} (h:qf9 T d=0):∃p,T.get d=some p/\p.ino.kind=2:=by
 unfold qf9 at h;cases hg:T.get d with
 | none=>rw[hg]at h; cases h
 | some p=>
  rw[hg]at h;refine⟨p,rfl,?_⟩;by_cases hk:p.ino.kind=2
  . exact hk
  . simp[hk]at h
theorem eEntry_zero {T:Tab} {d:Int} {a:List UInt8} (h:qdr T d a=0):∃p i,T.get d=some p/\lkS a p.ino.ents=some i/\T.find d a=some i:=by
 unfold qdr at h;cases hf:T.find d a with
 | none=>rw[hf]at h; cases h
 | some i=>
  have hf':=hf;unfold Tab.find at hf;rw[oI]at hf;obtain⟨p,h1,h2⟩:=hf;exact⟨p,i,h1,h2,rfl⟩
theorem qlz {T:Tab} {d:Int} {a:List UInt8} (h:qkx T d a=0) {p:Nod} (hp:T.get d=some p):lkS a p.ino.ents=none:=by
 unfold qkx Tab.find at h;rw[hp,oB]at h;cases hl:lkS a p.ino.ents with
 | none=>rfl
 | some i=>rw[hl]at h; cases h
theorem ql9 {a b:List UInt8}:∀{kv:List (List UInt8×Int)},lkS b kv=none->lkS b (qa9 a kv)=none
 | [],h=>h
 | p::kv,h=>by
  unfold lkS at h;by_cases hb:b=p.1
  . rw[iP hb]at h; cases h
  . rw[iN hb]at h
    unfold qa9;by_cases ha:a=p.1
    . rw[iP ha]; exact h
    . rw[iN ha]
      unfold lkS;rw[iN hb];exact ql9 h
theorem qon (hs:Sd T B) {d:Int} {p:Nod} (hp:T.get d=some p) (hk:p.ino.kind=2):∃m,p.ino.map=some m:=by
 have:=hs.dir d p hp hk;cases hm:p.ino.map with
 | none=>rw[hm]at this; cases this
 | some m=>exact⟨m,rfl⟩
theorem move_run (h:TabAt S b r T) (hs:Sd T B) (hB:B<qa4) (m:Nat) (f t:Int) (a c:List UInt8) (hc:c.length<9223372036854775808) :
 ∃U,(ev E0 KD (m+5)).f 19 [.ptr b 0,.int .i64 f,sv a,.int .i64 t,sv c] S=some (.ret (.int .i64 (eMv T f a t c)),U)/\Grew (Own b r T) S U/\∃T',TabAt U b r T'/\(eMv T f a t c≠0->T'=T)/\(eMv T f a t c=0->Moves T f a t c T'):=by
 have hlb:=h.hb;obtain⟨U,g,c0,c3,hF⟩:=mv_head h m f t a c hc;have hU:=h.grewF g;have gO:Grew (Own b r T) S U:=g.mono fun _ _ h=>h.elim;unfold eMv;by_cases hgo:eMove T f a t c=0/\¬(f=t/\a=c)
 . rw[iP hgo]at hF ⊢
   have z:=qck hgo.1;have z1:=z (qf9 T f) (by simp);have z2:=z (qf9 T t) (by simp);have z3:=z (qdr T f a) (by simp);obtain⟨p,i,hp,hl,hf⟩:=eEntry_zero z3;obtain⟨p',hp',hpk⟩:=qgv z1;rw[hp]at hp'; cases hp';obtain⟨mf,hm⟩:=qon hs hp hpk;obtain⟨xt,hxt,hxk⟩:=qgv z2;obtain⟨mt,hmt⟩:=qon hs hxt hxk;obtain⟨hi1,q,hq,hqu⟩:=hs.ent f p hp _ (qhq hl);obtain⟨n,hn,hup⟩:=hs.chn t xt hxt hxk;rw[hf];rw[show(some i).getD 0=i from rfl];obtain⟨U2,z,g2,cz,hz,hF2⟩:=mv1_run hU m (x0:=S.next) (x3:=S.next+1) (a:=a) (c:=c) c0 c3 hf hup (Nat.lt_of_le_of_lt hn hB);have hU2:=hU.grewF g2;rw[hF2]at hF;by_cases he:qor T t c (qdf T t i)=0
   . rw[iP he]at hF
     have y:=qck he;have y1:=y (qkx T t c) (by simp);have y2:=y (qdf T t i) (by simp);have hlc:=qlz y1 hxt
     have hno:∀x,S.next<=x->¬Own b r T x:=fun x hx ho=>by
      have:=own_lt h ho;omega
     have hn1:S.next<=U.next:=g.next
     have hpt:(T.upd f (qbj (qa9 a p.ino.ents))).get t=some (if t=f then{xt with ino:=qbj (qa9 a p.ino.ents) xt.ino}else xt):=by rw[qap,hxt]; rfl
     have hpk2:(if t=f then({xt with ino:=qbj (qa9 a p.ino.ents) xt.ino}:Nod)else xt).ino.kind=2:=by split<;>exact hxk
     have hpm2:(if t=f then({xt with ino:=qbj (qa9 a p.ino.ents) xt.ino}:Nod)else xt).ino.map=some mt:=by split<;>exact hmt
     have hpe2:lkS c (if t=f then({xt with ino:=qbj (qa9 a p.ino.ents) xt.ino}:Nod)else xt).ino.ents=none:=by
      by_cases htf:t=f
      . rw[iP htf]
        rw[htf,hp]at hxt; cases hxt;exact ql9 hlc
      . rw[iN htf]; exact hlc
     generalize (if t=f then({xt with ino:=qbj (qa9 a p.ino.ents) xt.ino}:Nod)else xt)=pt at hpt hpk2 hpm2 hpe2;obtain⟨U3,hF3,hT3,g3⟩:=mv2_run hU2 (x0:=S.next) (x3:=S.next+1) (z:=z) (a:=a) (c:=c) (hno _ (lR _)) (hno _ (by omega)) (hno _ (by omega)) (c0.grew g2) (c3.grew g2) cz hp hm hl hpt hpm2 hq (mf:=mf) (mt:=mt);rw[hF3]at hF;refine⟨U3,?_,(gO.trans (g2.mono fun _ _ h=>h.elim)).trans g3,_,hT3,fun e=>absurd he e,fun _=>.go hgo.2 hp hl hpt hpk2 hpe2 hq fun hk=>?_⟩
     . rw[he]; exact rd19 hF
     . unfold qdf at y2
       by_cases hx:∃n,UpA T i t n
       . exact hx
       . rw[iN hx]at y2; cases y2
   . rw[iN he]at hF
     exact⟨U2,rd19 hF,gO.trans (g2.mono fun _ _ h=>h.elim),T,hU2,fun _=>rfl,fun e=>absurd e he⟩
 . rw[iN hgo]at hF ⊢
   refine⟨U,rd19 hF,gO,T,hU,fun _=>rfl,fun e=>?_⟩
   have:f=t/\a=c:=by
    by_cases hft:f=t/\a=c
    . exact hft
    . exact absurd ⟨e,hft⟩ hgo
   exact .same this.1 this.2
theorem Moves.sd {T':Tab} {f t:Int} {a c:List UInt8} (h:Moves T f a t c T') (hs:Sd T B):Sd T' (2*B+1):=by
 cases h with
 | same _ _=>exact hs.mono (by omega)
 | go h1 h2 h3 h4 h5 h6 h7 h8=>
  refine hs.move h2 h4 h5 h3 h7 h6 fun hk=>?_;obtain⟨n,hn⟩:=h8 hk;rw[qap,Option.map_eq_some_iff]at h4;obtain⟨x,hx,hxx⟩:=h4
  have hxk:x.ino.kind=2:=by
   rw[<- h5,<- hxx]; split<;>rfl
  obtain⟨n',hn',hup⟩:=hs.chn t x hx hxk;exact⟨n,by rw[hn.up.uniq hup]; exact hn',hn⟩
end
section
variable {S U:St} {b r:Nat} {T:Tab} {B:Nat}
theorem unlink_stop (h:TabAt S b r T) (m:Nat) (d:Int) (a:List UInt8) {e:Int} (he:e≠0)
 (all:∀{S3 S4 S5:St},TabAt S5 b r T->Cap S5 S3.next 23 (.ptr b 0)->Cap S5 (S3.next+1) 3 (.int .i64 d)->Cap S5 S4.next 23 (.ptr b 0)->Cap S5 (S4.next+1) 3 (.int .i64 d)->Cap S5 (S4.next+2) 9 (sv a)->Cap S5 S.next 23 (.ptr b 0)->Cap S5 (S.next+1) 3 (.int .i64 d)->Cap S5 (S.next+2) 9 (sv a)->
  AsksAll S5 (m+3) [.fn (.func 27) [.ptr b 0] [],.fn (.func 57) [] [.ptr S3.next 0,.ptr (S3.next+1) 0],.fn (.func 63) [] [.ptr S4.next 0,.ptr (S4.next+1) 0,.ptr (S4.next+2) 0],.fn (.func 36) [] [.ptr S.next 0,.ptr (S.next+1) 0,.ptr (S.next+2) 0]] e) :
 ∃U,(ev E0 KD (m+5)).f 14 [.ptr b 0,.int .i64 d,sv a] S=some (.ret (.int .i64 e),U)/\TabAt U b r T/\Grew (fun _=>False) S U:=by
 obtain⟨S1,S2,S3,s1,s2,s3,c1,c2,c3,g3,n3⟩:=qff h.on 23 3 9 (oneP b 0) (qb4 .i64 d) (qfx a);have h3:=h.grewF g3;obtain⟨S4,a1,a2,a3,a4,a5⟩:=qlw (m+3) h3.on b d;have h4:=h3.grewF a4;obtain⟨S5,b1,b2,b3,b4,b5,b6⟩:=qov (m+3) h4.on b d a;have h5:=h4.grewF b5;have g45:=a4.trans b5;have all:=all h5 (a2.grew b5) (a3.grew b5) b2 b3 b4 (c1.grew g45) (c2.grew g45) (c3.grew g45)
 obtain⟨R,U,q1,q2,q3,q4⟩:=asked h5.on (m+3) _ (fun v hv=>by
  simp only[List.mem_cons,List.not_mem_nil,or_false]at hv
  rcases hv with rfl|rfl|rfl|rfl<;>exact oneF _ _ _) (by show 4<1000000; decide) all
 obtain⟨l2,q2'⟩:=qe7 (m+3) q2;have gU:=g45.trans q3;have hU:=(h3.grewF gU).same (U:=atS U S3) rfl rfl rfl;have gA:=qdm gU h3.on;refine⟨atS U S3,rd14 ?_,hU,g3.trans gA⟩;show F14 (ev E0 KD (m+4)) qa4 (.ptr b 0) (.int .i64 d) (sv a) S=_;rw[F14_eq,s1,oB];dsimp only;rw[s2,oB];dsimp only;rw[s3,oB];dsimp only;rw[c1.ldL h3.on,oB];dsimp only;rw[qa1,c1.ldL h3.on,oB];dsimp only;rw[qa1,c2.ldL h3.on,oB];dsimp only;rw[qa1,show(ev E0 KD (m+4)).f 28 [.ptr b 0,.int .i64 d] (onS S3)=_ from a1 (some []),qa7];rw[show onS (stt S4 (Option.map _ (some [])))=onS S4 from rfl,(c1.grew a4).ldL h4.on,oB];dsimp only;rw[qa1,(c2.grew a4).ldL h4.on,oB];dsimp only;rw[qa1,(c3.grew a4).ldL h4.on,oB];dsimp only;rw[qa1,show(ev E0 KD (m+4)).f 37 [.ptr b 0,.int .i64 d,sv a] (onS S4)=_ from b1 (some []),qa7];rw[show bsP 72 1 4 (Ev.one .nilfn) [(0,(.fn (.func 27) [.ptr b 0] [])),(1,.fn (.func 57) [] [.ptr S3.next 0,.ptr (S3.next+1) 0]),(2,.fn (.func 63) [] [.ptr S4.next 0,.ptr (S4.next+1) 0,.ptr (S4.next+2) 0]),(3,.fn (.func 36) [] [.ptr S.next 0,.ptr (S.next+1) 0,.ptr (S.next+2) 0])] (onS (stt S5 (Option.map _ (some []))))=_ from q1 (some []),oB];dsimp only;rw[show(ev E0 KD (m+4)).f 26 _ (onS (stt R (Option.map _ (some []))))=_ from q2',qa7];rw[qfg (S.next+3) [0,2,3,5,6,7] [4,8]]
 rotate_left
 . rfl
 . exact⟨⟨⟨rfl,by show S.next<S.next+3; omega⟩,trivial⟩,⟨⟨rfl,by show S.next<S.next+3; omega⟩,trivial⟩,⟨⟨rfl,by show S.next+1<S.next+3; omega⟩,trivial⟩,⟨⟨rfl,by show S.next<S.next+3; omega⟩,trivial⟩,⟨⟨rfl,by show S.next+1<S.next+3; omega⟩,trivial⟩,⟨⟨rfl,by show S.next+2<S.next+3; omega⟩,trivial⟩,trivial⟩
 . exact⟨⟨by show S.next+3<=S3.next+1; omega,by show S.next+3<=S3.next; omega,trivial⟩,⟨by show S.next+3<=S4.next+2; omega,by show S.next+3<=S4.next+1; omega,by show S.next+3<=S4.next; omega,trivial⟩,trivial⟩
 rw[qa1,qbf h3.on,neq27,oB,ifK_bool,beq_false_of_ne he];rfl
theorem unlink_err (h:TabAt S b r T) (hs:Sd T B) (hb:∀i p,T.get i=some p->p.ino.ents.length<1000000) (m:Nat) (d:Int) (a:List UInt8) (he:qey T d a≠0) :
 ∃U,(ev E0 KD (m+5)).f 14 [.ptr b 0,.int .i64 d,sv a] S=some (.ret (.int .i64 (qey T d a)),U)/\TabAt U b r T/\Grew (fun _=>False) S U:=by
 refine unlink_stop h m d a he fun{S3 S4 S5} h5 c1 c2 c3 c4 c5 c6 c7 c8=>?_;by_cases hd:qf9 T d=0
 . cases hf:T.find d a with
   | none=>
    have e1:qey T d a=5:=by unfold qey; rw[iP hd,hf]
    have e2:qdr T d a=5:=by unfold qdr; rw[hf]; rfl
    have:=qae (qcc (S:=S5) (m+1) b) (qae (qeo h5 (m+1) c1 c2) (qo6 (es:=[]) (fs:=[.fn (.func 36) [] [.ptr S.next 0,.ptr (S.next+1) 0,.ptr (S.next+2) 0]]) (qhj h5 m c3 c4 c5) (by rw[e2]; decide)));rw[hd,e2]at this;rw[e1]; exact this
   | some i=>
    have hf':=hf;unfold Tab.find at hf';rw[oI]at hf';obtain⟨p,hp,hl⟩:=hf';obtain⟨_,q,hq,_⟩:=hs.ent d p hp _ (qhq hl);have e1:qey T d a=if q.ino.ents=[]then 0 else 20:=by unfold qey; rw[iP hd,hf]; dsimp only; rw[hq]
    have e2:qdr T d a=0:=by unfold qdr; rw[hf]; rfl
    have:=qae (qcc (S:=S5) (m+1) b) (qae (qeo h5 (m+1) c1 c2) (qae (qhj h5 m c3 c4 c5) (qae (qot h5 m hf hq (hb i q hq) c6 c7 c8) qf7)));rw[hd,e2]at this;rw[e1]
    have e3:∀x:Int,qcf [0,0,0,x]=x:=fun x=>by
     show(if x=0 then 0 else x)=x;split
     . omega
     . rfl
    rw[e3]at this;exact this
 . have e1:qey T d a=qf9 T d:=by unfold qey; rw[iN hd]
   have:=qae (qcc (S:=S5) (m+1) b) (qo6 (es:=[]) (fs:=[.fn (.func 63) [] [.ptr S4.next 0,.ptr (S4.next+1) 0,.ptr (S4.next+2) 0],.fn (.func 36) [] [.ptr S.next 0,.ptr (S.next+1) 0,.ptr (S.next+2) 0]]) (qeo h5 (m+1) c1 c2) hd);rw[e1]
   have e3:qcf [0,qf9 T d]=qf9 T d:=by
    show(if qf9 T d=0 then 0 else qf9 T d)=_;rw[iN hd]
   rw[e3]at this;exact this
theorem write_err (h:TabAt S b r T) (hT:Fits T) (m:Nat) (i:Int) (data:List UInt8) (hd:data.length<1000000) (hd2:∀p,T.get i=some p->p.ino.data.length<1000000) (he:qgw T i data≠0) :
 ∃U,(ev E0 KD (m+5)).f 10 [.ptr b 0,.int .i64 i,sv data] S=some (.ret (.int .i64 (qgw T i data)),U)/\TabAt U b r T/\Grew (fun _=>False) S U:=by
 obtain⟨S1,S2,S3,s1,s2,s3,c1,c2,c3,g3,n3⟩:=qff h.on 23 3 9 (oneP b 0) (qb4 .i64 i) (qfx data);have h3:=h.grewF g3;obtain⟨S4,a1,a2,a3,a4,a5⟩:=file_run (m+3) h3.on b i;have h4:=h3.grewF a4
 have all:AsksAll S4 (m+3) [.fn (.func 27) [.ptr b 0] [],.fn (.func 62) [] [.ptr S3.next 0,.ptr (S3.next+1) 0],.fn (.func 34) [] [.ptr S.next 0,.ptr (S.next+2) 0,.ptr (S.next+1) 0]] (qgw T i data):=by
  cases hp:T.get i with
  | none=>
   have e1:qgw T i data=5:=by unfold qgw; rw[hp]
   have e2:qk1 T i=5:=by unfold qk1; rw[hp]
   have:=qae (qcc (S:=S4) (m+1) b) (qo6 (es:=[]) (fs:=[.fn (.func 34) [] [.ptr S.next 0,.ptr (S.next+2) 0,.ptr (S.next+1) 0]]) (qj6 h4 (m+1) a2 a3) (by rw[e2]; decide));rw[e2]at this;rw[e1]; exact this
  | some p=>
   unfold qgw;rw[hp];exact qae (qcc (m+1) b) (qae (qj6 h4 (m+1) a2 a3) (qae (qqk h4 hT m hp hd (hd2 p hp) (c1.grew a4) (c3.grew a4) (c2.grew a4)) qf7))
 obtain⟨R,U,q1,q2,q3,q4⟩:=asked h4.on (m+3) _ (fun v hv=>by
  simp only[List.mem_cons,List.not_mem_nil,or_false]at hv
  rcases hv with rfl|rfl|rfl<;>exact oneF _ _ _) (by show 3<1000000; decide) all
 obtain⟨l2,q2'⟩:=qe7 (m+3) q2;have gU:=a4.trans q3;have hU:=(h3.grewF gU).same (U:=atS U S3) rfl rfl rfl;have gA:=qdm gU h3.on;refine⟨atS U S3,rd10 ?_,hU,g3.trans gA⟩;show F10 (ev E0 KD (m+4)) qa4 (.ptr b 0) (.int .i64 i) (sv data) S=_;rw[F10_eq,s1,oB];dsimp only;rw[s2,oB];dsimp only;rw[s3,oB];dsimp only;rw[c1.ldL h3.on,oB];dsimp only;rw[qa1,c1.ldL h3.on,oB];dsimp only;rw[qa1,c2.ldL h3.on,oB];dsimp only;rw[qa1,show(ev E0 KD (m+4)).f 33 [.ptr b 0,.int .i64 i] (onS S3)=_ from a1 (some []),qa7];rw[show bsP 72 1 3 (Ev.one .nilfn) [(0,(.fn (.func 27) [.ptr b 0] [])),(1,.fn (.func 62) [] [.ptr S3.next 0,.ptr (S3.next+1) 0]),(2,.fn (.func 34) [] [.ptr S.next 0,.ptr (S.next+2) 0,.ptr (S.next+1) 0])] (onS (stt S4 (Option.map _ (some []))))=_ from q1 (some []),oB];dsimp only;rw[show(ev E0 KD (m+4)).f 26 _ (onS (stt R (Option.map _ (some []))))=_ from q2',qa7];rw[qfg (S.next+3) [0,2,3] [4]]
 rotate_left
 . rfl
 . exact⟨⟨⟨rfl,by show S.next<S.next+3; omega⟩,trivial⟩,⟨⟨rfl,by show S.next<S.next+3; omega⟩,trivial⟩,⟨⟨rfl,by show S.next+1<S.next+3; omega⟩,trivial⟩,trivial⟩
 . exact⟨⟨by show S.next+3<=S3.next+1; omega,by show S.next+3<=S3.next; omega,trivial⟩,trivial⟩
 rw[qa1,qbf h3.on,neq27,oB,ifK_bool,beq_false_of_ne he];rfl
end
end Go.Proofs.Ytbihlgcdnhoknaa.W
namespace Go.Proofs.Ytbihlgcdnhoknaa.W
open Go.Proofs.Ytbihlgcdnhoknaa.Ev
def sumD (l:List Nod):Nat:=(l.map fun p=>p.ino.data.length).sum
theorem sumD_cons (p:Nod) (l):sumD (p::l)=p.ino.data.length+sumD l:=by
 unfold sumD;rw[List.map_cons,List.sum_cons]
def Lt (a:List UInt8):Prop:=∃c:UInt8,a=[c]/\97<=c.toNat/\c.toNat<=100
structure NodeOk (k:Nat) (i:Int) (n:Ino):Prop where
 l0:0<=n.links
 l1:n.links<=1+k
 pos:i≠1->1<=n.links
 nam:∀e∈n.ents,Lt e.1
 len:n.ents.length<=k
 dat:n.data.length<=19
 ddir:n.kind=2->n.data=[]
 knd:n.kind=1\/n.kind=2\/n.kind=3
 lnk:n.kind=3->n.links=1
structure Ok (T:Tab) (k:Nat):Prop where
 sd:Sd T (2^k-1)
 nd:∀i p,T.get i=some p->NodeOk k i p.ino
 lst:1<=T.last/\T.last<=1+k
 num:T.ui=T.nodes.length
 byt:T.ub=sumD T.nodes
 cnt:T.nodes.length<=1+k
 qi:T.ui<=T.qi
 qb:T.ub<=T.qb
theorem pow_step (k:Nat):2*(2^k-1)+1=2^(k+1)-1:=by
 have:=Nat.one_le_two_pow (n:=k);rw[Nat.pow_succ]; omega
section
variable {T:Tab} {k:Nat}
theorem sumD_le:∀{l:List Nod},(∀p∈l,p.ino.data.length<=19)->sumD l<=19*l.length
 | [],_=>by simp[sumD]
 | p::l,h=>by
  rw[sumD_cons,List.length_cons];have:=h p (List.mem_cons_self ..);have:=sumD_le fun q hq=>h q (mO _ hq);omega
theorem Ok.ub (h:Ok T k):0<=T.ub/\T.ub<=19*(1+k):=by
 have h1:=h.byt;have h2:=h.cnt;have h3:sumD T.nodes<=19*T.nodes.length:=sumD_le fun p hp=>(h.nd p.no p (getN_of h.sd.key hp)).dat;omega
end
open Go.RowKit
set_option maxRecDepth 100000
theorem qok {a b:List LE} (h:∀e∈a,∀f∈b,e.b≠f.b\/(e.w=false/\f.w=false)):qd5 a b=false:=by
 have c1:∀(e:LE) (l:List LE),(∀f∈l,e.b≠f.b\/(e.w=false/\f.w=false))->qem e l=false:=fun e l=>by
  induction l with
  | nil=>intro _; rfl
  | cons f l ih=>
   intro hl;unfold qem
   have hm:meet e f=false:=by
    rcases hl f (List.mem_cons_self ..)with h1|⟨h1,h2⟩
    . exact meet_ne h1
    . unfold meet
      rw[h1,h2];cases Nat.beq e.b f.b<;>cases Nat.blt e.lo f.hi<;>cases Nat.blt f.lo e.hi<;>rfl
   rw[hm];exact ih fun g hg=>hl g (mO _ hg)
 induction a with
 | nil=>rfl
 | cons e a ih=>
  unfold qd5;rw[c1 e b (h e (List.mem_cons_self ..))];exact ih fun g hg=>h g (mO _ hg)
section
variable {S U:St}
end
section
variable {S U:St} {b r:Nat} {T:Tab} {k:Nat}
theorem eFile_zero {T:Tab} {i:Int} (h:qk1 T i=0):∃q,T.get i=some q/\q.ino.kind=1:=by
 unfold qk1 at h;cases hg:T.get i with
 | none=>rw[hg]at h; cases h
 | some q=>
  rw[hg]at h;dsimp only at h;refine⟨q,rfl,?_⟩;by_cases h2:q.ino.kind=2
  . rw[iP h2]at h; cases h
  . rw[iN h2]at h
    by_cases h1:q.ino.kind=1
    . exact h1
    . rw[iN h1]at h; cases h
theorem own_made {p:Nod} {d:Int} {kv:List (List UInt8×Int)} {n:Int} {l:Int} {x:Nat} (h:Own b r (qdo {T with last:=l} p d kv n) x):Own b r T x\/x=p.box\/p.ino.map=some x:=by
 rcases h with h|h|⟨q,hq,hx⟩
 . exact .inl (.inl h)
 . exact .inl (.inr (.inl h))
 . obtain⟨q0,hq0,rfl⟩:=updN_mem.1 (show q∈qfl d (qbj kv) (T.nodes++[p])from hq)
   have hx':x=q0.box\/q0.ino.map=some x:=by
    by_cases e:q0.no=d
    . rw[iP e]at hx; exact hx
    . rw[iN e]at hx; exact hx
   rcases List.mem_append.1 hq0 with hq0|hq0
   . exact .inl (.inr (.inr ⟨q0,hq0,hx'⟩))
   . rw[List.mem_singleton]at hq0
     subst hq0;exact .inr hx'
theorem pow_rounds {k:Nat} (hk:k<=63):2^k-1<qa4:=by
 have h1:2^k<=2^63:=Nat.pow_le_pow_right (by decide) hk;have h2:qa4=18446744073709551616:=by unfold qa4; decide
 have h3:(2:Nat)^63=9223372036854775808:=by decide
 omega
theorem Moves.own {T':Tab} {f t:Int} {a c:List UInt8} (h:Moves T f a t c T') {x:Nat} (hx:Own b r T' x):Own b r T x:=by
 cases h with
 | same _ _=>exact hx
 | @go i p pt q h1 h2 h3 h4 h5 h6 h7 h8=>
  unfold moved at hx;have two:Own b r ((T.upd f (qbj (qa9 a p.ino.ents))).upd t (qbj (qb1 c i pt.ino.ents))) x->Own b r T x:=fun hx=>qfy (i:=f) (f:=qbj (qa9 a p.ino.ents)) (fun _=>rfl) (qfy (i:=t) (f:=qbj (qb1 c i pt.ino.ents)) (fun _=>rfl) hx);split at hx
  . exact two (qfy (i:=i) (f:=setU t) (fun _=>rfl) hx)
  . exact two hx
theorem Moves.q {T':Tab} {f t:Int} {a c:List UInt8} (h:Moves T f a t c T'):T'.qi=T.qi/\T'.qb=T.qb/\T'.ui=T.ui/\T'.ub=T.ub/\T'.last=T.last:=by
 cases h with
 | same _ _=>exact⟨rfl,rfl,rfl,rfl,rfl⟩
 | @go i p pt q h1 h2 h3 h4 h5 h6 h7 h8=>
  unfold moved;split<;>exact⟨rfl,rfl,rfl,rfl,rfl⟩
theorem new_ok (qi qb:Int) (h1:1<=qi) (h2:0<=qb) (nb nm:Nat):Ok (qh8 qi qb nb nm) 0:=by
 have hg:∀i p,(qh8 qi qb nb nm).get i=some p->i=1/\p=⟨1,nb,qg1 nm⟩:=fun i p hp=>by
  have hp':(if i=1 then some (⟨1,nb,qg1 nm⟩:Nod)else none)=some p:=hp;by_cases hi:i=1
  . rw[iP hi]at hp'
    exact⟨hi,(Option.some.inj hp').symm⟩
  . rw[iN hi]at hp'; cases hp'
 refine⟨⟨by show([1]:List Int).Nodup; decide,⟨_,rfl,rfl,rfl⟩,fun i p hp=>?_,fun i p hp _=>?_,fun i p hp hk=>?_,fun i p hp e he=>?_,fun i p hp=>?_,fun i p hp h1=>?_,fun i p hp _ h1=>?_,fun i p hp _=>?_⟩,fun i p hp=>?_,⟨by show(1:Int)<=1; omega,by show(1:Int)<=1+0; omega⟩,rfl,rfl,by show 1<=1+0; omega,h1,h2⟩
 all_goals obtain⟨rfl,rfl⟩:=hg i p hp
 . show(1:Int)<=1/\(1:Int)<=1; omega
 . rfl
 . exact absurd rfl hk
 . cases he
 . exact List.nodup_nil
 . exact absurd rfl h1
 . exact absurd rfl h1
 . exact⟨0,lR _,.root⟩
 . exact⟨by show(0:Int)<=1; omega,by show(1:Int)<=1+0; omega,fun h=>absurd rfl h,fun e he=>(by cases he),lR _,Nat.zero_le _,fun _=>rfl,.inr (.inl rfl),fun h=>(by cases h)⟩
end
end Go.Proofs.Ytbihlgcdnhoknaa.W

namespace Go.Proofs.Ytbihlgcdnhoknaa.W
open Go.Proofs.Ytbihlgcdnhoknaa.Ev Go.RowKit
set_option maxRecDepth 100000
section
variable {F:Fz.Fz}
theorem kfSorted_fz (kfs:List FuncId) (et:TypeId) (args:List V):Fz.LocP F fun s=>(qd8 kfs et).run args s:=by
 unfold qd8;dsimp only;split
 . refine Fz.Loc.cond ?_ Fz.Loc.none
   refine Fz.Loc.bind (Fz.loc_ld _ _) fun m=>?_;unfold qgt;cases m<;>try exact Fz.Loc.none
   case nilmap=>exact Fz.LocP.ret _
   case map r=>
    refine Fz.Loc.bindGet r (fun _ _ _ _ _ _=>rfl) fun hb o=>?_;cases o<;>try exact Fz.Loc.none
    refine Fz.Loc.opt fun l=>?_;cases l with
    | nil=>exact Fz.LocP.ret _
    | cons x l=>exact Fz.LocP.nw (fun k=>En.ret (V.oslice k 0 (l.length+1) 1)) fun _=>_
 . exact Fz.Loc.none
theorem fzD:Fz.KnLoc F KD:=(((((Fz.knLoc_nil).add 38 fun _=>kfSorted_fz _ _ _).add 15 fun _=>Fz.specKF_fz _).add 24 fun _=>Fz.specKF_fz _).add 82 fun _=>Fz.specKF_fz _).add 59 fun _=>Fz.specKF_fz _
end
section
variable {S U:St} {b r:Nat} {T:Tab}
noncomputable def icy (S:St) (b e z n:Nat) (c:Tr (Tr V)):St:=S.put b (.cells e z n true c)
theorem icy_same {b e z n:Nat} {c:Tr (Tr V)} (h:S.heap.get b=some (.cells e z n false c)) (hb:b<S.next):Fz.Same ⟨b,e,z,n,c⟩ (icy S b e z n c) S:=
 ⟨rfl,fun x hx=>by show S.heap.get x=(S.put b _).heap.get x; rw[qc4,iN hx],by show(S.put b _).heap.get b=_; rw[qc4,iP rfl],h,hb⟩
theorem TabAt.icy (h:TabAt S b r T) {x e z n:Nat} {c:Tr (Tr V)} (hx:¬Own b r T x):TabAt (icy S x e z n c) b r T:=
 h.grew (qan (s:=S) x _) fun y hy=>by
  subst hy;exact⟨fun e=>hx (.inl e),fun e=>hx (.inr (.inl e)),fun p hp=>⟨fun e=>hx (.inr (.inr ⟨p,hp,.inl e⟩)),fun e=>hx (.inr (.inr ⟨p,hp,.inr e⟩))⟩⟩
end
end Go.Proofs.Ytbihlgcdnhoknaa.W
namespace Go.Proofs.Ytbihlgcdnhoknaa.W
open Go.Proofs.Ytbihlgcdnhoknaa.Ev Go.RowKit
theorem flat_at {β:Type} {z:Nat} (hz:0<z):∀(ls:List (List β)),(∀l∈ls,l.length=z)->∀(j:Nat) c,ls.flatten[j]?=some c->∃l,ls[j/z]?=some l/\l[j%z]?=some c
 | [],_,j,c,h=>by simp at h
 | l::ls,hl,j,c,h=>by
  rw[List.flatten_cons]at h;have h0:=hl l (List.mem_cons_self ..);by_cases hj:j<z
  . rw[List.getElem?_append_left (by omega)]at h
    exact⟨l,by rw[Nat.div_eq_of_lt hj]; rfl,by rw[Nat.mod_eq_of_lt hj]; exact h⟩
  . rw[List.getElem?_append_right (by omega),h0]at h
    obtain⟨l',h1,h2⟩:=flat_at hz ls (fun x hx=>hl x (mO _ hx)) (j-z) c h;refine⟨l',?_,?_⟩
    . rw[show j=(j-z)+z by omega,Nat.add_div_right _ hz]; exact h1
    . rw[show j=(j-z)+z by omega,Nat.add_mod_right]; exact h2
theorem pick_any {α:Type} {P:Nat->α->Prop}:∀(n:Nat),(∀i,i<n->∃b,P i b)->∃l:List α,l.length=n/\∀i b,l[i]?=some b->P i b
 | 0,_=>⟨[],rfl,fun i b h=>by simp at h⟩
 | n+1,h=>by
  obtain⟨l,h1,h2⟩:=pick_any n fun i hi=>h i (by omega);obtain⟨b,hb⟩:=h n (by omega);refine⟨l++[b],by simp[h1],fun i c hc=>?_⟩;by_cases hi:i<n
  . rw[List.getElem?_append_left (by omega)]at hc
    exact h2 i c hc
  . have hi2:i=n:=by
     have:=(List.getElem?_eq_some_iff.1 hc).1;simp[h1]at this;omega
    subst hi2;rw[List.getElem?_append_right (by omega)]at hc;simp[h1]at hc;subst hc;exact hb
theorem vrels_map {ρ:Rho} {α:Type} (f:α->V) (g:α->Value):∀l:List α,(∀a∈l,VRel ρ (f a) (g a))->VRels ρ (l.map f) (l.map g)
 | [],_=>.nil
 | a::l,h=>.cons (h a (List.mem_cons_self ..)) (vrels_map f g l fun b hb=>h b (mO _ hb))
section
variable {H:Type} {enc:TypeId×Value->H} {W:World}
theorem list_of_trod {α:Type} {t e z:Nat} {F:α->V} {Q:α->Prop} (ht:Try.prog.underlying t=some (.slice e)) (hz:Try.prog.cellsOf e=z) (hz0:0<z)
 (el:∀fuel cs (x:DataW H×List MemPlace),DataW.trod enc Try.prog W 0 (fun _=>true) true fuel e cs=some x->∃(a:α) (cv:Value),VRel (frz W) (F a) cv/\qai (F a)=false/\cv.cells.toList=cs/\Q a)
 {fuel:Nat} {cs:List Value} {x:DataW H×List MemPlace} (h:DataW.trod enc Try.prog W 0 (fun _=>true) true fuel t cs=some x) :
 ∃(cv:Value) (v:V) (l:List α),cs=[cv]/\VRel (frz W) v cv/\((l=[]/\(v=.nilslice\/v=.eslice))\/v=.list z (l.map F))/\(∀a∈l,Q a)/\∃ad len cap,cv=.slice ad len cap:=by
 rcases DataW.trod_slice ht h with⟨hv,_⟩|⟨a,len,cap,elems,rest,m,hm,hv,_,_,hcap,hmax,hel,hat,_⟩
 . exact⟨_,.nilslice,[],hv,.nilslice,.inl ⟨rfl,.inl rfl⟩,fun _ h=>by simp at h,_,_,_,rfl⟩
 . by_cases h0:len=0
   . subst h0
     exact⟨_,.eslice,[],hv,.eslice a cap,.inl ⟨rfl,.inr rfl⟩,fun _ h=>by simp at h,_,_,_,rfl⟩
   . have hAt:∀i,i<len->∃p:α×Value,VRel (frz W) (F p.1) p.2/\qai (F p.1)=false/\Q p.1/\p.2.cells.toList.length=z/\∀k,k<z->∃y,p.2.cells.toList[k]?=some y/\W.cell? ((a.add (i*z)).add k)=some y:=fun i hi=>by
      have:=hat i hi;rw[hz,List.getElem?_eq_getElem (by omega),oI]at this;obtain⟨cells,h1,h2⟩:=this;obtain⟨b,cv,b1,b2,b3,b4⟩:=el _ _ _ h2;obtain⟨c1,c2⟩:=cells?_at h1;exact⟨(b,cv),b1,b2,b4,by rw[b3]; exact c1,by rw[b3]; exact c2⟩
     obtain⟨p0,_,_,_,_,q0⟩:=hAt 0 (by omega);obtain⟨y0,_,hb0⟩:=q0 0 hz0
     have hspot:a.spot=none/\∃bg ty fr,W.heap[a.block]?=some (.cells bg ty fr):=by
      rw[Nat.zero_mul,show(a.add 0).add 0=a from rfl]at hb0;unfold World.cell? at hb0;split at hb0
      . rename_i bg ty fr hh
        split at hb0
        . cases hb0
        . rename_i hsp
          exact⟨by simpa using hsp,bg,ty,fr,hh⟩
      . cases hb0
     obtain⟨hsp,bg,ty,fr,hheap⟩:=hspot;obtain⟨l,l1,l2⟩:=pick_any len hAt;have hin:∀p∈l,∃i,l[i]?=some p:=fun p hp=>List.mem_iff_getElem?.1 hp;refine⟨_,.list z ((l.map (·.1)).map F),l.map (·.1),hv,?_,.inr rfl,fun b hb=>?_,_,_,_,rfl⟩
     . rw[List.map_map]
       refine .list (vrels_map _ (·.2) l fun p hp=>?_) (fun v hv=>?_) (by rw[lM]; exact l1) hcap fun _=>⟨fun cv hcv=>?_,hsp,bg,ty,fr,hheap,fun j c hj=>?_⟩
       . obtain⟨i,hi⟩:=hin p hp
         exact(l2 i p hi).1
       . rw[List.mem_map]at hv
         obtain⟨p,hp,rfl⟩:=hv;obtain⟨i,hi⟩:=hin p hp;exact(l2 i p hi).2.1
       . rw[List.mem_map]at hcv
         obtain⟨p,hp,rfl⟩:=hcv;obtain⟨i,hi⟩:=hin p hp;have:=(l2 i p hi).2.2.2.1
         rwa [Array.length_toList]at this
       . rw[List.flatMap_def,List.map_map]at hj
         obtain⟨cl,h1,h2⟩:=flat_at hz0 _ (fun cl hcl=>by
          rw[List.mem_map]at hcl;obtain⟨p,hp,rfl⟩:=hcl;obtain⟨i,hi⟩:=hin p hp
          exact(l2 i p hi).2.2.2.1) j c hj
         rw[List.getElem?_map,Option.map_eq_some_iff]at h1;obtain⟨p,hp,rfl⟩:=h1;obtain⟨y,y1,y2⟩:=(l2 _ p hp).2.2.2.2 (j%z) (Nat.mod_lt _ hz0)
         have hc:c=y:=by
          have:=h2.symm.trans y1;simpa using this
         subst hc;rw[add_eq hsp,add_eq rfl]at y2;unfold World.cell? at y2;simp only at y2;rw[hheap]at y2
         have he:a.off+j/z*z+j%z=a.off+j:=by
          have:=Nat.div_add_mod j z;rw[Nat.mul_comm]at this;omega
         rw[he]at y2;exact y2
     . rw[List.mem_map]at hb
       obtain⟨p,hp,rfl⟩:=hb;obtain⟨i,hi⟩:=hin p hp;exact(l2 i p hi).2.2.1
end
section
variable {S U:St} {b r:Nat} {T:Tab}
end
end Go.Proofs.Ytbihlgcdnhoknaa.W

namespace Go.Proofs.Ytbihlgcdnhoknaa.W
open Go.Proofs.Ytbihlgcdnhoknaa.Ev Go.RowKit
set_option maxRecDepth 100000
section
variable {S U A:St} {b r:Nat} {T:Tab}
theorem Grew.into {W W':Nat->Prop} {a c d:St} (h:Grew W a c) (k:Grew W' c d) (hw:∀x,x<a.next->W' x->W x):Grew W a d:=
 ⟨Nat.le_trans h.next k.next,k.on.trans h.on,fun x hx hn=>(k.keep x (Nat.lt_of_lt_of_le hx h.next) fun hh=>hn (hw x hx hh)).trans (h.keep x hx hn)⟩
def rowI (l:List Int):List (Tr V):=l.map fun a=>Ev.one (.int .i64 a)
inductive IL (S:St) (r:Nat):V->List Int->Prop where
 | slice {l:List Int} (h:RowAt S r 3 1 (rowI l)) (hr:r<S.next):IL S r (.slice r 0 l.length l.length) l
 | oslice {l:List Int} (h:RowAt S r 3 1 (rowI l)) (hr:r<S.next) (h0:0<l.length):IL S r (.oslice r 0 l.length 1) l
variable {x:Nat} {v:V} {l:List Int}
theorem IL.row (h:IL S x v l):RowAt S x 3 1 (rowI l)/\x<S.next:=by cases h<;>exact⟨by assumption,by assumption⟩
theorem IL.inv (h:IL S x v l):v=.slice x 0 l.length l.length\/(v=.oslice x 0 l.length 1/\0<l.length):=by
 cases h with
 | slice=>exact .inl rfl
 | oslice _ _ h0=>exact .inr ⟨rfl,h0⟩
variable {m:Nat} {C:Int->Nat}
theorem neqB (p q:Bool):qa6 E0 .neq 4 false false (.bool p) (.bool q)=some (.bool (p != q)):=by cases p<;>cases q<;>kernel_rfl
theorem qjc (t:TypeId) (c d:Bool) (x y:Int):qa6 E0 .lss t c d (.int .i64 x) (.int .i64 y)=some (.bool (decide (x<y))):=by rw[binV_ii,intsV_lss]
theorem qm3 (t:TypeId) (c d:Bool) (x y:Int):qa6 E0 .gtr t c d (.int .i64 x) (.int .i64 y)=some (.bool (decide (y<x))):=by rw[binV_ii,intsV_gtr]
theorem row_ne {b e e' z z':Nat} {l l':List (Tr V)} (h:RowAt S b e z l) (h':RowAt S b e' z' l'):e=e':=by
 obtain⟨c,h1,_⟩:=h.row;obtain⟨c',h2,_⟩:=h'.row;rw[h1]at h2;simp only[oS,O.cells.injEq]at h2;exact h2.1
theorem TL.ldL {w:V} {ns:List Bs} (h:TL S w ns) (ho:S.on=false) {i:Nat} (hi:i<ns.length):∃p L,ixP 1 w (.int .i64 (i:Int))=some p/\ld1 p (onS S)=some (sv ns[i],S.lg [L])/\L.w=false:=by
 obtain⟨r,o,ls,h1,h2,h3⟩:=h.ix (List.getElem?_eq_getElem hi);exact⟨_,⟨r,o,o+1,false⟩,h1,qh4 ho (show ld1 (.ptr r o) S=_ from h2.ld1 ho h3) [],rfl⟩
end
end Go.Proofs.Ytbihlgcdnhoknaa.W





