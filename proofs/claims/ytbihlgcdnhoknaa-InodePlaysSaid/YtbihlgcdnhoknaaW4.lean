/-
  WHAT THE FUNCTIONS COME TO: each is read by the evaluator,printed,and told as a function of data,part 4 of 14 (no condition).
-/
import Derived.Test.YtbihlgcdnhoknaaW3
namespace Go.Proofs.Ytbihlgcdnhoknaa.W
open Go.Proofs.Ytbihlgcdnhoknaa.Ev
def numb:Nat->List V->List (Nat×V)
 | _,[]=>[]
 | i,v::l=>(i,v)::numb (i+1) l
theorem fillE_numb (n:Nat):∀(vs:List V) (i:Nat) (c:Tr (Tr V)),(∀v∈vs,OneV v)->i+vs.length<=n->∃c',qjl n 1 c (numb i vs)=some c'/\∀j,(∀v,i<=j->vs[j-i]?=some v->c'.get j=some (Ev.one v))/\(j<i->c'.get j=c.get j)
 | [],i,c,_,_=>⟨c,rfl,fun j=>⟨fun v _ h=>by simp at h,fun _=>rfl⟩⟩
 | v::vs,i,c,hv,hn=>by
  have h1:=hv v (List.mem_cons_self ..);rw[List.length_cons]at hn;obtain⟨c',h2,h3⟩:=fillE_numb n vs (i+1) (c.set (Ev.one v) i) (fun w hw=>hv w (mO _ hw)) (by omega);refine⟨c',?_,fun j=>⟨fun w hj hw=>?_,fun hj=>?_⟩⟩
  . show qjl n 1 c ((i,v)::numb (i+1) vs)=_
    unfold qjl;rw[h1.size,h1.tup,h1.cells,show Nat.blt i n=true from blt_true.2 (by omega)];simp only[Nat.beq_refl,nF,Bool.and_self,cT,Tr.setC_eq];exact h2
  . by_cases e:j=i
    . subst e
      rw[Nat.sub_self]at hw;simp only[List.getElem?_cons_zero,oS]at hw;rw[(h3 j).2 (by omega),Tr.get_set,iP rfl,hw]
    . refine(h3 j).1 w (by omega) ?_
      rw[show j-i=(j-(i+1))+1 by omega,List.getElem?_cons_succ]at hw;exact hw
  . rw[(h3 j).2 (by omega),Tr.get_set,iN (by omega)]
section
variable {S:St}
theorem bsP_ones (ho:S.on=false) (e:Nat) (z:Tr V) (vs:List V) (hv:∀v∈vs,OneV v) (hf:vs.length<big):∃U,(∀m,bsP e 1 vs.length z (numb 0 vs) (stt S m)=some (.slice S.next 0 vs.length vs.length,stt U (m.map fun l=>⟨S.next,0,big,true⟩::l)))/\RowAt U S.next e 1 (vs.map Ev.one)/\Grew (fun _=>False) S U/\U.next=S.next+1:=by
 obtain⟨c,h1,h2⟩:=fillE_numb vs.length vs 0 (Tr.tab vs.length vs.length fun _=>z) hv (by omega);refine⟨nw S (.cells e 1 vs.length false c),fun m=>?_,?_,qcq ho _ _,rfl⟩
 . unfold bsP
   rw[h1,oB];cases m with
   | none=>rfl
   | some l=>
    show some (V.slice S.next 0 vs.length vs.length,nw (S.lg l) _)=_;rw[nw_lg ho]; rfl
 . refine qje ho (by omega) (by rw[lM]) (by omega) fun i t h=>?_
   rw[List.getElem?_map]at h;cases hg:vs[i]? with
   | none=>rw[hg]at h; cases h
   | some v=>
    rw[hg]at h;simp only[Option.map_some,oS]at h;rw[<- h];exact(h2 i).1 v (Nat.zero_le _) hg
def Asks (S:St) (n:Nat) (f:V) (e:Int):Prop:=∀U,Grew (fun _=>False) S U->∃U',qk0 E0 (ev E0 KD n) f [] U=some (.ret (.int .i64 e),U')/\Grew (fun _=>False) U U'
theorem Asks.mono {S S2:St} {n:Nat} {f:V} {e:Int} (h:Asks S n f e) (g:Grew (fun _=>False) S S2):Asks S2 n f e:=fun U gU=>h U (g.trans gU)
def AsksAll (S:St) (n:Nat):List V->Int->Prop
 | [],e=>e=0
 | f::fs,e=>∃e1,Asks S n f e1/\((e1≠0/\e=e1)\/(e1=0/\AsksAll S n fs e))
theorem AsksAll.mono {S S2:St} {n:Nat} (g:Grew (fun _=>False) S S2):∀{fs:List V} {e:Int},AsksAll S n fs e->AsksAll S2 n fs e
 | [],_,h=>h
 | _::_,_,⟨e1,h1,.inl h2⟩=>⟨e1,h1.mono g,.inl h2⟩
 | _::_,_,⟨e1,h1,.inr ⟨h2,h3⟩⟩=>⟨e1,h1.mono g,.inr ⟨h2,AsksAll.mono g h3⟩⟩
theorem neq27 (e:Int):qa6 E0 .neq 27 false true (.int .i64 e) (.int .i64 0)=some (.bool (!(e==0))):=by
 rw[binV_ii,intsV_neq];rfl
theorem L26_spec {n N:Nat} (ho:S.on=false) {x:Nat} (hx:x<S.next) {row:List V} (hr:RowAt S x 72 1 (row.map Ev.one)) (nk:Ac->St->Rs) (ek:Nat->Ac->St->Rs) (e:Int) :
 ∀(fs:List V) (i k:Nat) (U:St),row.drop i=fs->fs.length<k->row.length<1000000->Grew (fun _=>False) S U->AsksAll S n fs e->
 ∃U',L26_6 (ev E0 KD n) N nk ek k (.slice x 0 row.length row.length) (.int .i64 (row.length:Int)) (.int .i64 (i:Int)) U=(if e=0 then ek 0 (fr 18 []) U' else some (.ret (.int .i64 e),U'))/\Grew (fun _=>False) S U'
 | fs,i,0,U,_,hk,_,_,_=>by omega
 | [],i,k+1,U,hi,hk,hb,g,ha=>by
  refine⟨U,?_,g⟩;have he:e=0:=ha;rw[L26_6_eq,binV_ii,intsV_lss,dec_ge (drop_end hi),oB,ifK_bool,cF,iP he]
 | f::fs,i,k+1,U,hi,hk,hb,g,ha=>by
  obtain⟨hlt,hf,hrest,_⟩:=qgl hi;obtain⟨e1,h1,h2⟩:=ha;obtain⟨U',q1,q2'⟩:=h1 U g;have q2:=g.trans q2';have hrow:=hr.grew hx (fun h=>h) g;have hgi:(row.map Ev.one)[i]?=some (Ev.one f):=by rw[List.getElem?_map,List.getElem?_eq_getElem hlt,hf]; rfl
  have hl:ld1 (.ptr x (0+i*1)) U=some (f,U):=by
   show ld U x (0+i*1)=_;rw[show 0+i*1=i by omega];exact hrow.ld1 (g.on.trans ho) hgi
  have hix:ixP 1 (.slice x 0 row.length row.length) (.int .i64 (i:Int))=some (.ptr x (0+i*1)):=by
   show(bif Nat.blt i row.length then some (V.ptr x (0+i*1))else none)=_;rw[blt_true.2 hlt]; rfl
  rw[L26_6_eq,binV_ii,intsV_lss,dec_lt hlt,oB,ifK_bool,cT,hix,oB,hl,oB];dsimp only;rw[q1,callP_ret,neq27,oB,ifK_bool];rcases h2 with⟨h3,rfl⟩|⟨rfl,h3⟩
  . rw[beq_false_of_ne h3]
    exact⟨U',by rw[iN h3]; rfl,q2⟩
  . rw[beq_self_eq_true,Bool.not_true,cF,binV_ii,intsV_add,qlq (by omega),oB]
    exact L26_spec ho hx hr nk ek e fs (i+1) k U' hrest (by simp at hk; omega) hb q2 h3
theorem first_run {n:Nat} (ho:S.on=false) {x:Nat} (hx:x<S.next) {row:List V} (hr:RowAt S x 72 1 (row.map Ev.one)) (hb:row.length<1000000) {e:Int} (ha:AsksAll S n row e) :
 ∃U',(ev E0 KD (n+1)).f 26 [.slice x 0 row.length row.length] S=some (.ret (.int .i64 e),U')/\Grew (fun _=>False) S U':=by
 obtain⟨U',h1,h2⟩:=L26_spec (N:=qa4) ho hx hr (R26_1 (ev E0 KD n) qa4 (qc0 E0 (ev E0 KD n) Try.f26) qbd) (exB 0 (R26_1 (ev E0 KD n) qa4 (qc0 E0 (ev E0 KD n) Try.f26) qbd) qbd) e row 0 qa4 S rfl (by unfold qa4; omega) hb (Grew.refl _ _) ha;refine⟨U',rd26 ?_,h2⟩;show F26 (ev E0 KD n) qa4 (.slice x 0 row.length row.length) S=_;rw[F26_eq,lnS_slice,oB];dsimp only;rw[show(V.int .i64 0)=.int .i64 ((0:Nat):Int)from rfl,h1];by_cases h:e=0
 . rw[iP h,exB_same,R26_1_eq,h]
 . rw[iN h]
structure Cap (S:St) (x e:Nat) (v:V):Prop where
 bx:Bx S x e [v]
 lt:x<S.next
theorem Cap.grew {U:St} {x e:Nat} {v:V} (h:Cap S x e v) (g:Grew (fun _=>False) S U):Cap U x e v:=⟨h.bx.grew h.lt (fun h=>h) g,Nat.lt_of_lt_of_le h.lt g.next⟩
theorem Cap.ld {x e:Nat} {v:V} (h:Cap S x e v) (ho:S.on=false):ld1 (.ptr x 0) S=some (v,S):=Bx6.ld ho h.bx big1 rfl
theorem qct {E:Env} {self:EV} {f:FuncId} (h:E.ext.get f=none) (hb:qdn E f=true) (x y args:List V) (S:St):qk0 E self (.fn (.func f) x y) args S=self.f f (x++args++y) S:=by
 show(match E.ext.get f with|some k=>_|none=>_)=_;rw[h];show(bif qdn E f then self.f f (x++args++y) S else none)=_;rw[hb]; rfl
end
def qf9 (T:Tab) (d:Int):Int:=match T.get d with
 | none=>5
 | some p=>if p.ino.kind=2 then 0 else 8
def qk1 (T:Tab) (d:Int):Int:=match T.get d with
 | none=>5
 | some p=>if p.ino.kind=2 then 7 else if p.ino.kind=1 then 0 else 2
def qkx (T:Tab) (d:Int) (a:List UInt8):Int:=if(T.find d a).isSome then 6 else 0
def qdr (T:Tab) (d:Int) (a:List UInt8):Int:=if(T.find d a).isSome then 0 else 5
def mayBe (s:List UInt8):Bool:=!(s==[])&&!(s==[46])&&!(s==[46,46])&&!(s.any qbm)
def qcw (s:List UInt8):Int:=if 56<s.length then 3 else if mayBe s then 0 else 2
section
variable {S:St} {b r:Nat} {T:Tab}
theorem qbl (t:TypeId) (c d:Bool) (k:IntKind) (x y:Int):qa6 E0 .eql t c d (.int k x) (.int k y)=some (.bool (decide (x=y))):=by rw[binV_ii,intsV_eql]
theorem qeo (h:TabAt S b r T) (m:Nat) {x y:Nat} {d:Int} (hx:Cap S x 23 (.ptr b 0)) (hy:Cap S y 3 (.int .i64 d)):Asks S (m+2) (.fn (.func 57) [] [.ptr x 0,.ptr y 0]) (qf9 T d):=fun U g=>by
 have h1:=h.grewF g;refine⟨U,?_,Grew.refl _ _⟩;rw[qct (qci (by decide)) (by kernel_rfl)];refine rd57 ?_;show F57 (ev E0 KD (m+1)) qa4 (.ptr x 0) (.ptr y 0) U=_;rw[F57_eq,(hx.grew g).ld h1.on,oB];dsimp only;rw[(hy.grew g).ld h1.on,oB];dsimp only;rw[qhp h1 m d,callP_ret];unfold qf9;cases hg:T.get d with
 | none=>
  unfold qjw;rw[eq62n,oB,ifK_bool,cT]
 | some p=>
  unfold qjw;dsimp only;rw[eq62p,oB,ifK_bool,cF,qc5,oB,qax,oB,qax,oB,Nat.zero_add,h1.nd1 hg (v:=.int .i64 p.ino.kind) rfl,oB];dsimp only;rw[qbl,oB,qby,callP_ret];by_cases hk:p.ino.kind=2
  . rw[iP hk,dT hk]; rfl
  . rw[iN hk,dF hk]; rfl
theorem qj6 (h:TabAt S b r T) (m:Nat) {x y:Nat} {d:Int} (hx:Cap S x 23 (.ptr b 0)) (hy:Cap S y 3 (.int .i64 d)):Asks S (m+2) (.fn (.func 62) [] [.ptr x 0,.ptr y 0]) (qk1 T d):=fun U g=>by
 have h1:=h.grewF g;refine⟨U,?_,Grew.refl _ _⟩;rw[qct (qci (by decide)) (by kernel_rfl)];refine rd62 ?_;show F62 (ev E0 KD (m+1)) qa4 (.ptr x 0) (.ptr y 0) U=_;rw[F62_eq,(hx.grew g).ld h1.on,oB];dsimp only;rw[(hy.grew g).ld h1.on,oB];dsimp only;rw[qhp h1 m d,callP_ret];unfold qk1;cases hg:T.get d with
 | none=>
  unfold qjw;rw[eq62n,oB,ifK_bool,cT]
 | some p=>
  unfold qjw;dsimp only;rw[eq62p,oB,ifK_bool,cF,qc5,oB,qax,oB,qax,oB,Nat.zero_add,h1.nd1 hg (v:=.int .i64 p.ino.kind) rfl,oB];dsimp only;rw[qbl,oB,ifK_bool];by_cases hk:p.ino.kind=2
  . rw[iP hk,dT hk]; rfl
  . rw[iN hk,dF hk,cF]
    simp only[qc5,qax,oB,Nat.zero_add];rw[h1.nd1 hg (v:=.int .i64 p.ino.kind) rfl,oB];dsimp only;rw[qbl,oB,qby,callP_ret];by_cases hk1:p.ino.kind=1
    . rw[iP hk1,dT hk1]; rfl
    . rw[iN hk1,dF hk1]; rfl
theorem extr0 (a c:V):qab (.tuple [a,c]) 0=some a:=rfl
theorem extr1 (a c:V):qab (.tuple [a,c]) 1=some c:=rfl
theorem gTT:qa3 true (.bool true)=some true:=rfl
theorem gTF:qa3 true (.bool false)=some false:=rfl
theorem gFT:qa3 false (.bool true)=some false:=rfl
theorem gFF:qa3 false (.bool false)=some true:=rfl
theorem notV (c:Bool):unV .not (.bool c)=some (.bool (!c)):=rfl
theorem qm1 (h:TabAt S b r T) (m:Nat) {x y z:Nat} {d:Int} {a:List UInt8} (hx:Cap S x 23 (.ptr b 0)) (hy:Cap S y 3 (.int .i64 d)) (hz:Cap S z 9 (sv a)):Asks S (m+3) (.fn (.func 60) [] [.ptr x 0,.ptr y 0,.ptr z 0]) (qkx T d a):=fun U g=>by
 have h1:=h.grewF g;refine⟨U,?_,Grew.refl _ _⟩;rw[qct (qci (by decide)) (by kernel_rfl)];refine rd60 ?_;show F60 (ev E0 KD (m+2)) qa4 (.ptr x 0) (.ptr y 0) (.ptr z 0) U=_;rw[F60_eq,(hx.grew g).ld h1.on,oB];dsimp only;rw[(hy.grew g).ld h1.on,oB];dsimp only;rw[(hz.grew g).ld h1.on,oB];dsimp only;rw[qj7 h1 m d a,callP_ret,extr0,oB,extr1,oB,notV,oB,qby,callP_ret];unfold qkx;cases(T.find d a).isSome<;>rfl
theorem qhj (h:TabAt S b r T) (m:Nat) {x y z:Nat} {d:Int} {a:List UInt8} (hx:Cap S x 23 (.ptr b 0)) (hy:Cap S y 3 (.int .i64 d)) (hz:Cap S z 9 (sv a)):Asks S (m+3) (.fn (.func 63) [] [.ptr x 0,.ptr y 0,.ptr z 0]) (qdr T d a):=fun U g=>by
 have h1:=h.grewF g;refine⟨U,?_,Grew.refl _ _⟩;rw[qct (qci (by decide)) (by kernel_rfl)];refine rd63 ?_;show F63 (ev E0 KD (m+2)) qa4 (.ptr x 0) (.ptr y 0) (.ptr z 0) U=_;rw[F63_eq,(hx.grew g).ld h1.on,oB];dsimp only;rw[(hy.grew g).ld h1.on,oB];dsimp only;rw[(hz.grew g).ld h1.on,oB];dsimp only;rw[qj7 h1 m d a,callP_ret,extr0,oB,extr1,oB,qby,callP_ret];unfold qdr;cases(T.find d a).isSome<;>rfl
theorem qot (h:TabAt S b r T) (m:Nat) {x y z:Nat} {d i:Int} {a:List UInt8} {p:Nod} (hf:T.find d a=some i) (hp:T.get i=some p) (hl:p.ino.ents.length<1000000) (hx:Cap S x 23 (.ptr b 0)) (hy:Cap S y 3 (.int .i64 d)) (hz:Cap S z 9 (sv a)):Asks S (m+3) (.fn (.func 36) [] [.ptr x 0,.ptr y 0,.ptr z 0]) (if p.ino.ents=[]then 0 else 20):=fun U g=>by
 have h1:=h.grewF g;refine⟨U,?_,Grew.refl _ _⟩;rw[qct (qci (by decide)) (by kernel_rfl)];refine rd36 ?_;show F36 (ev E0 KD (m+2)) qa4 (.ptr x 0) (.ptr y 0) (.ptr z 0) U=_;rw[F36_eq,(hx.grew g).ld h1.on,oB];dsimp only;rw[(hy.grew g).ld h1.on,oB];dsimp only;rw[(hz.grew g).ld h1.on,oB];dsimp only;rw[qj7 h1 m d a,callP_ret,extr0,oB,extr1,oB,(hx.grew g).ld h1.on,oB];dsimp only;rw[qc5,oB,qax,oB,Nat.zero_add,h1.ld (v:=.map r) rfl,oB];dsimp only;rw[hf,show(some i).getD 0=i from rfl,qer h1 i,oB,hp];unfold qjw;dsimp only;rw[qc5,oB,qax,oB,Nat.zero_add,h1.nd1 hp (v:=mapV p.ino.map) rfl,oB];dsimp only
 have hln:lnMap (mapV p.ino.map) U=some (.int .i64 (p.ino.ents.length:Int),U):=by
  cases hm:p.ino.map with
  | none=>rw[h1.no p (qar hp).1 hm]; rfl
  | some m0=>
   have:=lnMap_of h1.on (h1.em p (qar hp).1 m0 hm);rw[show(kvS p.ino.ents).length=p.ino.ents.length by unfold kvS; rw[lM]]at this;exact this
 rw[hln,oB];dsimp only;rw[qbl,oB,qby,callP_ret];cases he:p.ino.ents with
 | nil=>rfl
 | cons q l=>
  have hne:decide (((q::l).length:Int)=0)=false:=dF (by rw[List.length_cons]; omega);rw[hne];rfl
theorem strEq (c d:Bool) (a e:List UInt8):qa6 E0 .neq 9 c d (sv a) (sv e)=some (.bool (!(a==e))):=by rw[binV_ss,strOp_neq]
theorem qk8 (m:Nat) {z:Nat} {a:List UInt8} (ho:S.on=false) (hz:Cap S z 9 (sv a)) (hl:a.length<9223372036854775808):Asks S (m+2) (.fn (.func 58) [] [.ptr z 0]) (qcw a):=fun U g=>by
 have on1:=g.on.trans ho;refine⟨U,?_,Grew.refl _ _⟩;rw[qct (qci (by decide)) (by kernel_rfl)];refine rd58 ?_;show F58 (ev E0 KD (m+1)) qa4 (.ptr z 0) U=_
 have hc:∀n,(ev E0 KD (n+1)).f 59 [sv a,sv [47,0]] U=some (.ret (.bool (a.any qbm)),U):=fun n=>by
  rw[qhk (show KD 59=some kfAny from knAdd_same)];exact kfAny_run a hl U
 have hld:=(hz.grew g).ld on1;rw[F58_eq,hld,oB];dsimp only;rw[lnStr_sv,oB];dsimp only;rw[binV_ii,intsV_gtr,oB,ifK_bool];unfold qcw;by_cases h56:56<a.length
 . rw[iP h56,dT (by omega:(56:Int)<(a.length:Int)),cT]
 . rw[iN h56,dF (by omega:¬(56:Int)<(a.length:Int)),cF,hld,oB]
   dsimp only;rw[strEq,oB];unfold mayBe;cases h0:(a==[])with
   | true=>
    simp only[Bool.not_true,gTF,oB,cF,pickV_bool,Bool.false_and,callP_ret,qby]
   | false=>
    simp only[nF,gTT,oB,cT,hld,strEq,pickV_bool,Bool.true_and];cases h1:(a==[46])with
    | true=>
     simp only[Bool.not_true,gTF,oB,cF,pickV_bool,Bool.false_and,callP_ret,qby]
    | false=>
     simp only[nF,gTT,oB,cT,hld,strEq,pickV_bool,Bool.true_and];cases h2:(a==[46,46])with
     | true=>
      simp only[Bool.not_true,gTF,oB,cF,pickV_bool,Bool.false_and,callP_ret,qby]
     | false=>
      simp only[nF,gTT,oB,cT,hld,hc,callP_ret,notV,pickV_bool,Bool.true_and,qby]
end
def atS (U S:St):St:={U with on:=false,log:=S.log}
section
variable {S U:St}
theorem atS_self (ho:S.on=false):atS S S=S:=by
 cases S;simp only at ho;subst ho; rfl
theorem qfb (ho:S.on=false) (l:List LE) (ls:List (List LE)):qbe S (U.lg l) ls=atS U S:=by
 unfold qbe;rw[ho]; rfl
theorem qbf (ho:S.on=false) (ls:List (List LE)):qbe S (onS U) ls=atS U S:=qfb ho [] ls
theorem qdm {W:Nat->Prop} (g:Grew W S U) (ho:S.on=false):Grew W S (atS U S):=⟨g.next,ho.symm,g.keep⟩
theorem Bx6.ldL (ho:S.on=false) {x e:Nat} {l:List V} (h:Bx S x e l) (hl:l.length<big) {i:Nat} {v:V} (hv:l[i]?=some v):ld1 (.ptr x i) (onS S)=some (v,S.lg [⟨x,i,i+1,false⟩]):=by
 obtain⟨hi,he⟩:=List.getElem?_eq_some_iff.1 hv;rw[h.ld1On ho i hi hl,he]; rfl
theorem Cap.ldL {x e:Nat} {v:V} (h:Cap S x e v) (ho:S.on=false):ld1 (.ptr x 0) (onS S)=some (v,S.lg [⟨x,0,1,false⟩]):=Bx6.ldL ho h.bx big1 rfl
variable {b r:Nat} {T:Tab}
theorem TabAt.ldL (h:TabAt S b r T) {i:Nat} {v:V} (hv:(T.cells r)[i]?=some v):ld1 (.ptr b i) (onS S)=some (v,S.lg [⟨b,i,i+1,false⟩]):=Bx6.ldL h.on h.tb big6 hv
theorem TabAt.ndL (h:TabAt S b r T) {i:Int} {p:Nod} (hp:T.get i=some p) {k:Nat} {v:V} (hv:p.ino.cells[k]?=some v):ld1 (.ptr p.box k) (onS S)=some (v,S.lg [⟨p.box,k,k+1,false⟩]):=Bx6.ldL h.on (h.nd p (qar hp).1) big6 hv
theorem qft (h:TabAt S b r T) (i:Int):qal E0 66 (.map r) (.int .i64 i) false (onS S)=some (qjw (T.get i),S.lg [⟨r,0,big,false⟩]):=look_tab h i (some [])
theorem oneP (x:Nat) (o:Nat):OneV (.ptr x o):=⟨rfl,rfl,rfl,rfl⟩
theorem oneF (f:Fn) (x y:List V):OneV (.fn f x y):=⟨rfl,rfl,rfl,rfl⟩
theorem box1_run (ho:S.on=false) (e:Nat) {v:V} (hv:OneV v):∃U,(∀m (k:V×St->Rs),(qdb e v (stt S m)).bind k=k (.ptr S.next 0,stt U (m.map fun l=>⟨S.next,0,big,true⟩::l)))/\Cap U S.next e v/\Grew (fun _=>False) S U/\U.next=S.next+1:=by
 obtain⟨U,h1,h2,h3,h4⟩:=qlu ho e hv;exact⟨U,fun m k=>by rw[h1 m,oB],⟨h2,by omega⟩,h3,h4⟩
theorem qpa (n:Nat) (ho:S.on=false) (a:List UInt8):∃U,(∀m,(ev E0 KD (n+1)).f 29 [sv a] (stt S m)=some (.ret (.fn (.func 58) [] [.ptr S.next 0]),stt U (m.map fun l=>⟨S.next,0,big,true⟩::l)))/\Cap U S.next 9 (sv a)/\Grew (fun _=>False) S U/\U.next=S.next+1:=by
 obtain⟨U,h1,h2,h3,h4⟩:=box1_run ho 9 (qfx a);refine⟨U,fun m=>rd29 ?_,h2,h3,h4⟩;show F29 (ev E0 KD n) qa4 (sv a) (stt S m)=_;rw[F29_eq,h1]
theorem box2_run (ho:S.on=false) (e e2:Nat) {v v2:V} (hv:OneV v) (hv2:OneV v2):∃U,(∀m (k:V×St->V×St->Rs),((qdb e v (stt S m)).bind fun p0=>(qdb e2 v2 p0.2).bind fun p1=>k p0 p1)=k (.ptr S.next 0,stt (qag S e v.size [v.cells]) (m.map fun l=>⟨S.next,0,big,true⟩::l)) (.ptr (S.next+1) 0,stt U (m.map fun l=>⟨S.next+1,0,big,true⟩::⟨S.next,0,big,true⟩::l)))/\Cap U S.next e v/\Cap U (S.next+1) e2 v2/\Grew (fun _=>False) S U/\U.next=S.next+2:=by
 obtain⟨U1,h1,h2,h3,h4⟩:=qlu ho e hv
 have hU1:U1=qag S e v.size [v.cells]:=by
  have:=h1 none;unfold qdb at this;simp only[hv.tup,cF]at this;have h:=congrArg (fun o:Option (V×St)=>o.map Prod.snd) this;exact(Option.some.inj h).symm
 obtain⟨U2,k1,k2,k3,k4⟩:=qlu (h3.on.trans ho) e2 hv2;have c1:Cap U1 S.next e v:=⟨h2,by omega⟩
 rw[h4]at k1 k2;refine⟨U2,fun m k=>?_,c1.grew k3,⟨k2,by omega⟩,h3.trans k3,by omega⟩;rw[h1 m,oB];dsimp only;rw[k1,oB,qfc,hU1]
theorem box3_run (ho:S.on=false) (e e2 e3:Nat) {v v2 v3:V} (hv:OneV v) (hv2:OneV v2) (hv3:OneV v3):∃U,(∀m (k:V->V->V×St->Rs),((qdb e v (stt S m)).bind fun p0=>(qdb e2 v2 p0.2).bind fun p1=>(qdb e3 v3 p1.2).bind fun p2=>k p0.1 p1.1 p2)=k (.ptr S.next 0) (.ptr (S.next+1) 0) (.ptr (S.next+2) 0,stt U (m.map fun l=>⟨S.next+2,0,big,true⟩::⟨S.next+1,0,big,true⟩::⟨S.next,0,big,true⟩::l)))/\Cap U S.next e v/\Cap U (S.next+1) e2 v2/\Cap U (S.next+2) e3 v3/\Grew (fun _=>False) S U/\U.next=S.next+3:=by
 obtain⟨U1,h1,h2,h3,h4⟩:=qlu ho e hv;obtain⟨U2,k1,k2,k3,k4⟩:=qlu (h3.on.trans ho) e2 hv2;obtain⟨U3,l1,l2,l3,l4⟩:=qlu (k3.on.trans (h3.on.trans ho)) e3 hv3;have c1:Cap U1 S.next e v:=⟨h2,by omega⟩
 rw[h4]at k1 k2 k4;rw[k4]at l1 l2;have c2:Cap U2 (S.next+1) e2 v2:=⟨k2,by omega⟩
 refine⟨U3,fun m k=>?_,(c1.grew k3).grew l3,c2.grew l3,⟨l2,by omega⟩,(h3.trans k3).trans l3,by omega⟩;rw[h1 m,oB];dsimp only;rw[k1,oB];dsimp only;rw[l1,oB,qfc,qfc]
theorem qlw (n:Nat) (ho:S.on=false) (b:Nat) (d:Int):∃U,(∀m,(ev E0 KD (n+1)).f 28 [.ptr b 0,.int .i64 d] (stt S m)=some (.ret (.fn (.func 57) [] [.ptr S.next 0,.ptr (S.next+1) 0]),stt U (m.map fun l=>⟨S.next+1,0,big,true⟩::⟨S.next,0,big,true⟩::l)))/\Cap U S.next 23 (.ptr b 0)/\Cap U (S.next+1) 3 (.int .i64 d)/\Grew (fun _=>False) S U/\U.next=S.next+2:=by
 obtain⟨U,h1,h2,h3,h4,h5⟩:=box2_run ho 23 3 (oneP b 0) (qb4 .i64 d);refine⟨U,fun m=>rd28 ?_,h2,h3,h4,h5⟩;show F28 (ev E0 KD n) qa4 (.ptr b 0) (.int .i64 d) (stt S m)=_;rw[F28_eq,h1]
theorem file_run (n:Nat) (ho:S.on=false) (b:Nat) (d:Int):∃U,(∀m,(ev E0 KD (n+1)).f 33 [.ptr b 0,.int .i64 d] (stt S m)=some (.ret (.fn (.func 62) [] [.ptr S.next 0,.ptr (S.next+1) 0]),stt U (m.map fun l=>⟨S.next+1,0,big,true⟩::⟨S.next,0,big,true⟩::l)))/\Cap U S.next 23 (.ptr b 0)/\Cap U (S.next+1) 3 (.int .i64 d)/\Grew (fun _=>False) S U/\U.next=S.next+2:=by
 obtain⟨U,h1,h2,h3,h4,h5⟩:=box2_run ho 23 3 (oneP b 0) (qb4 .i64 d);refine⟨U,fun m=>rd33 ?_,h2,h3,h4,h5⟩;show F33 (ev E0 KD n) qa4 (.ptr b 0) (.int .i64 d) (stt S m)=_;rw[F33_eq,h1]
theorem free_run (n:Nat) (ho:S.on=false) (b:Nat) (d:Int) (a:List UInt8):∃U,(∀m,(ev E0 KD (n+1)).f 30 [.ptr b 0,.int .i64 d,sv a] (stt S m)=some (.ret (.fn (.func 60) [] [.ptr S.next 0,.ptr (S.next+1) 0,.ptr (S.next+2) 0]),stt U (m.map fun l=>⟨S.next+2,0,big,true⟩::⟨S.next+1,0,big,true⟩::⟨S.next,0,big,true⟩::l)))/\Cap U S.next 23 (.ptr b 0)/\Cap U (S.next+1) 3 (.int .i64 d)/\Cap U (S.next+2) 9 (sv a)/\Grew (fun _=>False) S U/\U.next=S.next+3:=by
 obtain⟨U,h1,h2,h3,h4,h5,h6⟩:=box3_run ho 23 3 9 (oneP b 0) (qb4 .i64 d) (qfx a);refine⟨U,fun m=>rd30 ?_,h2,h3,h4,h5,h6⟩;show F30 (ev E0 KD n) qa4 (.ptr b 0) (.int .i64 d) (sv a) (stt S m)=_;rw[F30_eq];exact h1 m fun x y z=>some (.ret (.fn (.func 60) [] [x,y,z.1]),z.2)
theorem qov (n:Nat) (ho:S.on=false) (b:Nat) (d:Int) (a:List UInt8):∃U,(∀m,(ev E0 KD (n+1)).f 37 [.ptr b 0,.int .i64 d,sv a] (stt S m)=some (.ret (.fn (.func 63) [] [.ptr S.next 0,.ptr (S.next+1) 0,.ptr (S.next+2) 0]),stt U (m.map fun l=>⟨S.next+2,0,big,true⟩::⟨S.next+1,0,big,true⟩::⟨S.next,0,big,true⟩::l)))/\Cap U S.next 23 (.ptr b 0)/\Cap U (S.next+1) 3 (.int .i64 d)/\Cap U (S.next+2) 9 (sv a)/\Grew (fun _=>False) S U/\U.next=S.next+3:=by
 obtain⟨U,h1,h2,h3,h4,h5,h6⟩:=box3_run ho 23 3 9 (oneP b 0) (qb4 .i64 d) (qfx a);refine⟨U,fun m=>rd37 ?_,h2,h3,h4,h5,h6⟩;show F37 (ev E0 KD n) qa4 (.ptr b 0) (.int .i64 d) (sv a) (stt S m)=_;rw[F37_eq];exact h1 m fun x y z=>some (.ret (.fn (.func 63) [] [x,y,z.1]),z.2)
theorem room_run (n:Nat) (ho:S.on=false) (b:Nat) (i k:Int):∃U,(∀m,(ev E0 KD (n+1)).f 32 [.ptr b 0,.int .i64 i,.int .i64 k] (stt S m)=some (.ret (.fn (.func 61) [] [.ptr S.next 0,.ptr (S.next+1) 0,.ptr (S.next+2) 0]),stt U (m.map fun l=>⟨S.next+2,0,big,true⟩::⟨S.next+1,0,big,true⟩::⟨S.next,0,big,true⟩::l)))/\Cap U S.next 23 (.ptr b 0)/\Cap U (S.next+1) 3 (.int .i64 i)/\Cap U (S.next+2) 3 (.int .i64 k)/\Grew (fun _=>False) S U/\U.next=S.next+3:=by
 obtain⟨U,h1,h2,h3,h4,h5,h6⟩:=box3_run ho 23 3 3 (oneP b 0) (qb4 .i64 i) (qb4 .i64 k);refine⟨U,fun m=>rd32 ?_,h2,h3,h4,h5,h6⟩;show F32 (ev E0 KD n) qa4 (.ptr b 0) (.int .i64 i) (.int .i64 k) (stt S m)=_;rw[F32_eq];exact h1 m fun x y z=>some (.ret (.fn (.func 61) [] [x,y,z.1]),z.2)
def qaj:Int:=4611686018427387904
structure Fits (T:Tab):Prop where
 ui:-qaj<T.ui/\T.ui<qaj
 ub:-qaj<T.ub/\T.ub<qaj
def eRoom (T:Tab) (n k:Int):Int:=if T.ui+n<=T.qi/\T.ub+k<=T.qb then 0 else 10
theorem qlt (t:TypeId) (c d:Bool) (x y:Int) (hx:-qaj<x/\x<qaj) (hy:-qaj<y/\y<qaj):qa6 E0 .add t c d (.int .i64 x) (.int .i64 y)=some (.int .i64 (x+y)):=by
 unfold qaj at hx hy;rw[binV_ii,intsV_add,qnv (by omega) (by omega)]
theorem subI (t:TypeId) (c d:Bool) (x y:Int) (hx:-qaj<x/\x<qaj) (hy:-qaj<y/\y<qaj):qa6 E0 .sub t c d (.int .i64 x) (.int .i64 y)=some (.int .i64 (x-y)):=by
 unfold qaj at hx hy;rw[binV_ii,intsV_sub,qnv (by omega) (by omega)]
theorem leqI (t:TypeId) (c d:Bool) (x y:Int):qa6 E0 .leq t c d (.int .i64 x) (.int .i64 y)=some (.bool (decide (x<=y))):=by rw[binV_ii,intsV_leq]
theorem room1_asks (h:TabAt S b r T) (hT:Fits T) (m:Nat) {x y z:Nat} {n k:Int} (hn:-qaj<n/\n<qaj) (hk:-qaj<k/\k<qaj) (hx:Cap S x 23 (.ptr b 0)) (hy:Cap S y 3 (.int .i64 n)) (hz:Cap S z 3 (.int .i64 k)):Asks S (m+2) (.fn (.func 61) [] [.ptr x 0,.ptr y 0,.ptr z 0]) (eRoom T n k):=fun U g=>by
 have h1:=h.grewF g;obtain⟨lx,hlx⟩:∃l',(ev E0 KD (m+1)).f 25 [.bool (decide (T.ui+n<=T.qi)&&decide (T.ub+k<=T.qb)),.int .i64 10] (onS U)=some (.ret (.int .i64 (if(decide (T.ui+n<=T.qi)&&decide (T.ub+k<=T.qb))=true then 0 else 10)),U.lg l'):=Lg.ev_onS lgD (qby m _ 10 U)
 have hr:eRoom T n k=if(decide (T.ui+n<=T.qi)&&decide (T.ub+k<=T.qb))=true then 0 else 10:=by
  unfold eRoom;simp only[bA,decide_eq_true_eq]
 refine⟨U,?_,Grew.refl _ _⟩;rw[qct (qci (by decide)) (by kernel_rfl)];refine rd61 ?_;show F61 (ev E0 KD (m+1)) qa4 (.ptr x 0) (.ptr y 0) (.ptr z 0) U=_;rw[F61_eq,(hx.grew g).ldL h1.on,oB];dsimp only;rw[qc5,oB,qax,oB,qax,oB,qa1,Nat.zero_add,h1.ldL (i:=2+0) (v:=.int .i64 T.ui) rfl,oB];dsimp only;rw[qa1,(hy.grew g).ldL h1.on,oB];dsimp only;rw[qlt 3 false false _ _ hT.ui hn,oB,qa1,(hx.grew g).ldL h1.on,oB];dsimp only;rw[qc5,oB,qax,oB,qax,oB,qa1,Nat.zero_add,h1.ldL (i:=0+0) (v:=.int .i64 T.qi) rfl,oB];dsimp only;rw[leqI,oB,qa1,hr];cases hc:decide (T.ui+n<=T.qi)with
 | false=>
  rw[hc]at hlx;simp only[gTF,oB,cF,pickV_bool,qik];simp only[Bool.false_and]at hlx;rw[hlx,qa7,qd6 (by rfl),qa1,qhc h1.on];rfl
 | true=>
  rw[hc]at hlx;simp only[gTT,oB,cT,pickV_bool];rw[(hx.grew g).ldL h1.on,oB];dsimp only;simp only[qc5,oB,qax,qa1,Nat.zero_add];rw[h1.ldL (i:=2+1) (v:=.int .i64 T.ub) rfl,oB];dsimp only;rw[qa1,(hz.grew g).ldL h1.on,oB];dsimp only;rw[qlt 3 false false _ _ hT.ub hk,oB,qa1,(hx.grew g).ldL h1.on,oB];dsimp only;simp only[qc5,oB,qax,qa1,Nat.zero_add];rw[h1.ldL (i:=1) (v:=.int .i64 T.qb) rfl,oB];dsimp only;rw[leqI,oB,qa1];simp only[Bool.true_and]at hlx ⊢;rw[hlx,qa7,qd6 (by rfl),qa1,qhc h1.on]
end
section
variable {S U:St} {b r:Nat} {T:Tab}
theorem make2_asks (h:TabAt S b r T) (hT:Fits T) (m:Nat) {x z:Nat} {data:List UInt8} (hd:data.length<4611686018427387904) (hx:Cap S x 23 (.ptr b 0)) (hz:Cap S z 9 (sv data)):Asks S (m+3) (.fn (.func 31) [] [.ptr x 0,.ptr z 0]) (eRoom T 1 (data.length:Int)):=fun U g=>by
 have h1:=h.grewF g;obtain⟨U1,q1,q2,q3,q4,q5,q6⟩:=room_run (m+1) h1.on b 1 (data.length:Int);have h2:=h1.grewF q5;obtain⟨U2,p1,p2⟩:=room1_asks h2 hT m (n:=1) (k:=(data.length:Int)) (by unfold qaj; omega) (by unfold qaj; omega) q2 q3 q4 U1 (Grew.refl _ _);refine⟨U2,?_,q5.trans p2⟩;rw[qct (qci (by decide)) (by kernel_rfl)];refine rd31 ?_;show F31 (ev E0 KD (m+2)) qa4 (.ptr x 0) (.ptr z 0) U=_;rw[F31_eq,(hx.grew g).ld h1.on,oB];dsimp only;rw[(hz.grew g).ld h1.on,oB];dsimp only;rw[lnStr_sv,oB];dsimp only;rw[show(ev E0 KD (m+2)).f 32 [.ptr b 0,.int .i64 1,.int .i64 (data.length:Int)] U=some (.ret (.fn (.func 61) [] [.ptr U.next 0,.ptr (U.next+1) 0,.ptr (U.next+2) 0]),U1)from q1 none,callP_ret];rw[p1,callP_ret]
theorem qqk (h:TabAt S b r T) (hT:Fits T) (m:Nat) {x y z:Nat} {i:Int} {data:List UInt8} {p:Nod} (hp:T.get i=some p) (hd:data.length<1000000) (hd2:p.ino.data.length<1000000) (hx:Cap S x 23 (.ptr b 0)) (hy:Cap S y 9 (sv data)) (hz:Cap S z 3 (.int .i64 i)) :
 Asks S (m+3) (.fn (.func 34) [] [.ptr x 0,.ptr y 0,.ptr z 0]) (eRoom T 0 ((data.length:Int)-(p.ino.data.length:Int))):=fun U g=>by
 have h1:=h.grewF g;obtain⟨U1,q1,q2,q3,q4,q5,q6⟩:=room_run (m+1) h1.on b 0 ((data.length:Int)-(p.ino.data.length:Int));have h2:=h1.grewF q5;obtain⟨U2,p1,p2⟩:=room1_asks h2 hT m (n:=0) (k:=(data.length:Int)-(p.ino.data.length:Int)) (by unfold qaj; omega) (by unfold qaj; omega) q2 q3 q4 U1 (Grew.refl _ _);obtain⟨l2,p3⟩:∃l',qk0 E0 (ev E0 KD (m+2)) (.fn (.func 61) [] [.ptr U.next 0,.ptr (U.next+1) 0,.ptr (U.next+2) 0]) [] (onS U1)=some (.ret (.int .i64 (eRoom T 0 ((data.length:Int)-(p.ino.data.length:Int)))),U2.lg l'):=Lg.callK_lg lgD (qci (f:=61) (by decide)) p1 [];refine⟨atS U2 U,?_,qdm (q5.trans p2) h1.on⟩;rw[qct (qci (by decide)) (by kernel_rfl)];refine rd34 ?_;show F34 (ev E0 KD (m+2)) qa4 (.ptr x 0) (.ptr y 0) (.ptr z 0) U=_;rw[F34_eq,(hx.grew g).ldL h1.on,oB];dsimp only;rw[qa1,(hy.grew g).ldL h1.on,oB];dsimp only;rw[lnStr_sv,oB];dsimp only;rw[qik,qa1,(hx.grew g).ldL h1.on,oB];dsimp only;rw[qc5,oB,qax,oB,qa1,Nat.zero_add,h1.ldL (v:=.map r) rfl,oB];dsimp only;rw[qa1,(hz.grew g).ldL h1.on,oB];dsimp only;rw[qa1,qft h1,oB,hp];unfold qjw;dsimp only;rw[qc5,oB,qax,oB,qax,oB,qa1,Nat.zero_add,h1.ndL hp (i:=i) (k:=0+2) (v:=sv p.ino.data) rfl,oB];dsimp only;rw[lnStr_sv,oB];dsimp only;rw[subI 3 false false _ _ (by unfold qaj; omega) (by unfold qaj; omega),oB,qik,qa1]
 rw[show(ev E0 KD (m+2)).f 32 [.ptr b 0,.int .i64 0,.int .i64 ((data.length:Int)-(p.ino.data.length:Int))] (onS U)=_ from q1 (some []),qa7];show qbq _ _ _ _ (qk0 E0 (ev E0 KD (m+2)) _ [] (onS (U1.lg _))) _=_;rw[qa1,p3,qa7,qd6 (by rfl),qa1,qbf h1.on]
def qf4 (data:List UInt8):Bool:=!(data==[])&&decide (data.length<=255)&&decide (ixB data 0<0)
def qgp (kind:Int) (data:List UInt8):Bool:=if kind=1 then true else if kind=2 then data==[]else if kind=3 then qf4 data else false
def qky (kind mode:Int) (data:List UInt8):Int:=if qgp kind data&&decide (0<=mode)&&decide (mode<=511)then 0 else 2
theorem eqStr (c d:Bool) (a e:List UInt8):qa6 E0 .eql 9 c d (sv a) (sv e)=some (.bool (a==e)):=by rw[binV_ss,strOp_eql]
theorem like_map (ho:S.on=false) (c1 c2:Bool):∃U,(∀(k:V->V×St->Rs),((qd9 E0 70 none S).bind fun p14=>(vu (qam E0 70 p14.1 (.int .i64 1) (.bool true) p14.2)).bind fun p15=>k p14.1 p15)=k (.map S.next) (.tuple [],(nw S (.map [] 0)).put S.next (.map [{k:=.int .i64 1,v:=.bool true,born:=0}] 1)))/\U=(nw S (.map [] 0)).put S.next (.map [{k:=.int .i64 1,v:=.bool true,born:=0}] 1)/\Grew (fun _=>False) S U/\MapAt U S.next (kvI [(1,.bool true)])/\U.on=false:=by
 have g1:=qcq ho (fun _=>False) (.map [] 0);have hm:MapAt (nw S (.map [] 0)) S.next (kvI []):=⟨[],0,by rw[qfw,iP rfl],MapOk.new⟩
 have on1:(nw S (.map [] 0)).on=false:=qpe ho _;refine⟨_,fun k=>?_,rfl,g1.own (lR _) (qan _ _),⟨[{k:=.int .i64 1,v:=.bool true,born:=0}],1,by rw[qc4,iP rfl],rfl,rfl,lR _⟩,on1⟩;show((some (V.map S.next,nw S (.map [] 0))).bind _)=_;rw[oB]
 have hu:qam E0 70 (.map S.next) (.int .i64 1) (.bool true) (nw S (.map [] 0))=some ((nw S (.map [] 0)).put S.next (.map [{k:=.int .i64 1,v:=.bool true,born:=0}] 1)):=by
  unfold qam;rw[und70,oB];simp only;rw[und3,oB];simp only[qh2,cT];rw[qni on1 (show(nw S (.map [] 0)).heap.get S.next=some (.map [] 0) by rw[qfw,iP rfl]),oB];simp only;rw[show qg7 (.int .i64 1) [] 0=some none from rfl,oB];simp only;rw[setO_off on1]; rfl
 dsimp only;rw[hu]; rfl
theorem grew_map {r:Nat} {es:List ME} {c:Nat} (g:Grew (fun _=>False) S U) (hr:S.next<=r):Grew (fun _=>False) S (U.put r (.map es c)):=g.own hr (qan _ _)
theorem make1_asks (ho:S.on=false) (m:Nat) {x y z:Nat} {data:List UInt8} {kind mode:Int} (hx:Cap S x 9 (sv data)) (hy:Cap S y 3 (.int .i64 kind)) (hz:Cap S z 3 (.int .i64 mode)):Asks S (m+2) (.fn (.func 23) [] [.ptr x 0,.ptr y 0,.ptr z 0]) (qky kind mode data):=fun U g=>by
 have on1:=g.on.trans ho
 have hix:(ev E0 KD (m+1)).f 24 [sv data,.int .u8 0] U=some (.ret (.int .i64 (ixB data 0)),U):=by
  rw[qhk (show KD 24=some kfIndexByte from rfl)];exact qif data 0 U
 obtain⟨W1,hw1,hW1,gw1,mw1,onw1⟩:=like_map on1 true true;obtain⟨es2,c2,e2,u2⟩:=upd_int onw1 und70 mw1 2 (.bool (data==[]));have mw2:=qh5 (S:=W1) U.next (c:=c2) e2
 have onw2:(W1.put U.next (.map es2 c2)).on=false:=onw1;obtain⟨es3,c3,e3,u3⟩:=upd_int onw2 und70 mw2 3 (.bool (qf4 data));have mw3:=qh5 (S:=W1.put U.next (.map es2 c2)) U.next (c:=c3) e3
 have gw2:=grew_map (es:=es2) (c:=c2) gw1 (lR _);have gw3:=grew_map (es:=es3) (c:=c3) gw2 (lR _);have u2':qam E0 70 (.map U.next) (.int .i64 2) (.bool (data==[])) W1=some (W1.put U.next (.map es2 c2)):=u2 none;have u3':qam E0 70 (.map U.next) (.int .i64 3) (.bool (qf4 data)) (W1.put U.next (.map es2 c2))=some ((W1.put U.next (.map es2 c2)).put U.next (.map es3 c3)):=u3 none;have onw3:((W1.put U.next (.map es2 c2)).put U.next (.map es3 c3)).on=false:=onw1;have hlook:=look_int onw3 und70 zero4 mw3 kind none;generalize hW3:(W1.put U.next (.map es2 c2)).put U.next (.map es3 c3)=W3 at u3' hlook gw3 onw3
 have hlk:(lkI kind (setKI 3 (V.bool (qf4 data)) (setKI 2 (V.bool (data==[])) [(1,V.bool true)]))).getD (V.bool false)=V.bool (qgp kind data):=by
  show(if kind=1 then some (V.bool true)else if kind=2 then some (V.bool (data==[]))else if kind=3 then some (V.bool (qf4 data))else none).getD (V.bool false)=_;unfold qgp;by_cases k1:kind=1
  . rw[iP k1,iP k1]; rfl
  . rw[iN k1,iN k1]
    by_cases k2:kind=2
    . rw[iP k2,iP k2]; rfl
    . rw[iN k2,iN k2]
      by_cases k3:kind=3
      . rw[iP k3,iP k3]; rfl
      . rw[iN k3,iN k3]; rfl
 rw[hlk]at hlook;have hlook':qal E0 70 (.map U.next) (.int .i64 kind) false W3=some (.bool (qgp kind data),W3):=hlook;refine⟨W3,?_,gw3⟩;rw[qct (qci (by decide)) (by kernel_rfl)];refine rd23 ?_;show F23 (ev E0 KD (m+1)) qa4 (.ptr x 0) (.ptr y 0) (.ptr z 0) U=_;have hldx:=(hx.grew g).ld on1
 have tail:((qd9 E0 70 none U).bind fun p14=>
  (vu (qam E0 70 p14.1 (.int .i64 1) (.bool true) p14.2)).bind fun p15=>
  (ld1 (.ptr x 0) p15.2).bind fun p16=>
  (qa6 E0 .eql 9 false true p16.1 (sv [])).bind fun t17=>
  (vu (qam E0 70 p14.1 (.int .i64 2) t17 p16.2)).bind fun p18=>
  (vu (qam E0 70 p14.1 (.int .i64 3) (.bool (qf4 data)) p18.2)).bind fun p20=>
  (ld1 (.ptr y 0) p20.2).bind fun p22=>
  (qal E0 70 p14.1 p22.1 false p22.2).bind fun p23=>
  (qa3 true p23.1).bind fun g27=>(bif g27 then ld1 (.ptr z 0) p23.2 else some (.tuple [],p23.2)).bind fun p27=>
  (qa3 true p23.1).bind fun g28=>(bif g28 then qa6 E0 .geq 3 false true p27.1 (.int .i64 0)else some (.tuple [])).bind fun t28=>
  (qaw p23.1 (some t28) (some (.bool false))).bind fun t29=>
  (qa3 true t29).bind fun g31=>(bif g31 then ld1 (.ptr z 0) p27.2 else some (.tuple [],p27.2)).bind fun p31=>
  (qa3 true t29).bind fun g32=>(bif g32 then qa6 E0 .leq 3 false true p31.1 (.int .i64 511)else some (.tuple [])).bind fun t32=>
  (qaw t29 (some t32) (some (.bool false))).bind fun t33=>
  qah ((ev E0 KD (m+1)).f 25 [t33,(.int .i64 2)] p31.2) fun t34 S34=>
  some (.ret t34,S34))=some (.ret (.int .i64 (qky kind mode data)),W3):=by
  rw[hw1 fun v p15=>(ld1 (.ptr x 0) p15.2).bind fun p16=>
   (qa6 E0 .eql 9 false true p16.1 (sv [])).bind fun t17=>
   (vu (qam E0 70 v (.int .i64 2) t17 p16.2)).bind fun p18=>
   (vu (qam E0 70 v (.int .i64 3) (.bool (qf4 data)) p18.2)).bind fun p20=>
   (ld1 (.ptr y 0) p20.2).bind fun p22=>
   (qal E0 70 v p22.1 false p22.2).bind fun p23=>
   (qa3 true p23.1).bind fun g27=>(bif g27 then ld1 (.ptr z 0) p23.2 else some (.tuple [],p23.2)).bind fun p27=>
   (qa3 true p23.1).bind fun g28=>(bif g28 then qa6 E0 .geq 3 false true p27.1 (.int .i64 0)else some (.tuple [])).bind fun t28=>
   (qaw p23.1 (some t28) (some (.bool false))).bind fun t29=>
   (qa3 true t29).bind fun g31=>(bif g31 then ld1 (.ptr z 0) p27.2 else some (.tuple [],p27.2)).bind fun p31=>
   (qa3 true t29).bind fun g32=>(bif g32 then qa6 E0 .leq 3 false true p31.1 (.int .i64 511)else some (.tuple [])).bind fun t32=>
   (qaw t29 (some t32) (some (.bool false))).bind fun t33=>
   qah ((ev E0 KD (m+1)).f 25 [t33,(.int .i64 2)] p31.2) fun t34 S34=>
   some (.ret t34,S34),<- hW1]
  dsimp only;rw[((hx.grew g).grew gw1).ld onw1,oB];dsimp only;rw[eqStr,oB,u2'];show((some (V.tuple [],W1.put U.next (.map es2 c2))).bind _)=_;rw[oB];dsimp only;rw[u3'];show((some (V.tuple [],W3)).bind _)=_;rw[oB];dsimp only;rw[((hy.grew g).grew gw3).ld onw3,oB];dsimp only;rw[hlook',oB];dsimp only;have hldz:=((hz.grew g).grew gw3).ld onw3;unfold qky;cases hl:qgp kind data with
  | false=>
   simp only[gTF,oB,cF,pickV_bool,Bool.false_and,qby,callP_ret]
  | true=>
   simp only[gTT,oB,cT,hldz,binV_ii,intsV_geq,pickV_bool,Bool.true_and];cases h0:decide (0<=mode)with
   | false=>
    simp only[gTF,oB,cF,pickV_bool,Bool.false_and,qby,callP_ret]
   | true=>
    simp only[gTT,oB,cT,hldz,binV_ii,intsV_leq,pickV_bool,Bool.true_and,qby,callP_ret]
 rw[F23_eq,hldx,oB];dsimp only;rw[strEq,oB];cases hd0:(data==[])with
 | true=>
  have hl:qf4 data=false:=by unfold qf4; rw[hd0]; rfl
  rw[hl]at tail;simp only[Bool.not_true,gTF,oB,cF,pickV_bool,callP_ret];exact tail
 | false=>
  simp only[nF,gTT,oB,cT,hldx,lnStr_sv,binV_ii,intsV_leq,pickV_bool];cases hd1:decide ((data.length:Int)<=255)with
  | false=>
   have hl:qf4 data=false:=by
    unfold qf4;rw[show decide (data.length<=255)=false by rw[decide_eq_false_iff_not]at hd1 ⊢; omega];simp
   rw[hl]at tail;simp only[gTF,oB,cF,pickV_bool,callP_ret];exact tail
  | true=>
   have hl:qf4 data=decide (ixB data 0<0):=by
    unfold qf4;rw[hd0,show decide (data.length<=255)=true by rw[decide_eq_true_eq]at hd1 ⊢; omega];simp
   rw[hl]at tail;simp only[gTT,oB,cT,hldx,hix,callP_ret,binV_ii,intsV_lss,pickV_bool];exact tail
end
def Own (b r:Nat) (T:Tab) (x:Nat):Prop:=x=b\/x=r\/∃p∈T.nodes,x=p.box\/p.ino.map=some x
def qcf:List Int->Int
 | []=>0
 | e::l=>if e=0 then qcf l else e
section
variable {S U:St} {b r:Nat} {T:Tab}
theorem qf7 {n:Nat}:AsksAll S n [] (qcf []):=rfl
theorem qae {n:Nat} {f:V} {e:Int} {fs:List V} {es:List Int} (h:Asks S n f e) (h2:AsksAll S n fs (qcf es)):AsksAll S n (f::fs) (qcf (e::es)):=by
 refine⟨e,h,?_⟩;unfold qcf;by_cases h0:e=0
 . rw[iP h0]; exact .inr ⟨h0,h2⟩
 . rw[iN h0]; exact .inl ⟨h0,rfl⟩
theorem qo6 {n:Nat} {f:V} {e:Int} {fs:List V} {es:List Int} (h:Asks S n f e) (h0:e≠0):AsksAll S n (f::fs) (qcf (e::es)):=by
 refine⟨e,h,?_⟩;unfold qcf;rw[iN h0]; exact .inl ⟨h0,rfl⟩
theorem qcc (m:Nat) (b:Nat):Asks S (m+2) (.fn (.func 27) [.ptr b 0] []) 0:=fun U g=>by
 refine⟨U,?_,Grew.refl _ _⟩;rw[qct (qci (by decide)) (by kernel_rfl)];exact there_run m U b
theorem qck:∀{l:List Int},qcf l=0->∀e∈l,e=0
 | [],_,e,h=>by cases h
 | x::l,hc,e,h=>by
  unfold qcf at hc;by_cases h0:x=0
  . rw[iP h0]at hc
    rcases List.mem_cons.1 h with rfl|h
    . exact h0
    . exact qck hc e h
  . rw[iN h0]at hc; exact absurd hc h0
theorem asked (ho:S.on=false) (n:Nat) (vs:List V) (hv:∀v∈vs,OneV v) (hl:vs.length<1000000) {e:Int} (ha:AsksAll S n vs e):∃R U,(∀m,bsP 72 1 vs.length (Ev.one .nilfn) (numb 0 vs) (stt S m)=some (.slice S.next 0 vs.length vs.length,stt R (m.map fun l=>⟨S.next,0,big,true⟩::l)))/\
 (ev E0 KD (n+1)).f 26 [.slice S.next 0 vs.length vs.length] R=some (.ret (.int .i64 e),U)/\Grew (fun _=>False) S U/\R.on=false:=by
 obtain⟨R,h1,h2,h3,h4⟩:=bsP_ones ho 72 (Ev.one .nilfn) vs hv (by unfold big; omega);have on1:=h3.on.trans ho;obtain⟨U,q1,q2⟩:=first_run (n:=n) on1 (x:=S.next) (by omega) h2 hl (ha.mono h3);exact⟨R,U,h1,q1,h3.trans q2,on1⟩
theorem qe7 (n:Nat) {vs:List V} {R U:St} {e:Int} (h:(ev E0 KD (n+1)).f 26 [.slice S.next 0 vs.length vs.length] R=some (.ret (.int .i64 e),U)):∃l,(ev E0 KD (n+1)).f 26 [.slice S.next 0 vs.length vs.length] (onS R)=some (.ret (.int .i64 e),U.lg l):=Lg.ev_onS lgD h
theorem TabAt.setName (h:TabAt S b r T) {d:Int} {p:Nod} (hp:T.get d=some p) {m:Nat} (hm:p.ino.map=some m) (a:List UInt8) (i:Int):∃U,(∀l,qam E0 63 (.map m) (sv a) (.int .i64 i) (stt S l)=some (stt U (l.map fun l=>⟨m,0,big,true⟩::⟨m,0,big,false⟩::l)))/\TabAt U b r (T.upd d (qbj (qb1 a i p.ino.ents)))/\Grew (fun x=>x=m) S U/\U.next=S.next:=by
 obtain⟨es,c,h1,h2⟩:=upd_str h.on (h.em p (qar hp).1 m hm) a i;exact⟨_,h2,h.putE hp hm h1,qan _ _,rfl⟩
def addL (k:Int) (n:Ino):Ino:={n with links:=n.links+k}
theorem ino_set3 (n:Ino) (v:Int):n.cells.length=6/\(Tr.ofListFrom .nil n.cells 0).set (.int .i64 v) 3=Tr.ofListFrom .nil {n with links:=v}.cells 0:=⟨rfl,set6_3 ..⟩
theorem TabAt.setLinks (h:TabAt S b r T) {i:Int} {p:Nod} (hp:T.get i=some p) (k:Int):∃U,stP 1 (.ptr p.box 3) (.int .i64 (p.ino.links+k)) S=some (.tuple [],U)/\TabAt U b r (T.upd i (addL k))/\Grew (fun x=>x=p.box) S U/\U.next=S.next:=by
 have hb:=h.nd p (qar hp).1;refine⟨_,qoe h.on hb rfl (m:=(addL k p.ino).cells) rfl (i:=3) (by decide) (ino_set3 p.ino _).2 rfl rfl rfl,h.putN hp (addL k) rfl rfl,qan _ _,rfl⟩
theorem qpl {i:Int} {p:Nod} (hp:T.get i=some p):Own b r T p.box:=.inr (.inr ⟨p,(qar hp).1,.inl rfl⟩)
theorem qpm {i:Int} {p:Nod} (hp:T.get i=some p) {m:Nat} (hm:p.ino.map=some m):Own b r T m:=.inr (.inr ⟨p,(qar hp).1,.inr hm⟩)
def eLink (T:Tab) (d:Int) (a:List UInt8) (i:Int):Int:=qcf [0,qf9 T d,qcw a,qk1 T i,qkx T d a]
theorem link_asked (h:TabAt S b r T) (m:Nat) (d i:Int) (a:List UInt8) (ha:a.length<9223372036854775808) :
 ∃U,Grew (fun _=>False) S U/\F9 (ev E0 KD (m+4)) qa4 (.ptr b 0) (.int .i64 d) (sv a) (.int .i64 i) S =
  if eLink T d a i=0 then(qa2 (.ptr b 0)).bind fun t23=>
   (faP 4 false 1 t23).bind fun t24=>
   (ld1 t24 U).bind fun p25=>
   (qal E0 66 p25.1 (.int .i64 d) false p25.2).bind fun p27=>
   (qa2 p27.1).bind fun t28=>
   (faP 5 false 1 t28).bind fun t29=>
   (ld1 t29 p27.2).bind fun p30=>
   (vu (qam E0 63 p30.1 (sv a) (.int .i64 i) p30.2)).bind fun p33=>
   (qa2 (.ptr b 0)).bind fun t35=>
   (faP 4 false 1 t35).bind fun t36=>
   (ld1 t36 p33.2).bind fun p37=>
   (qal E0 66 p37.1 (.int .i64 i) false p37.2).bind fun p39=>
   (qa2 p39.1).bind fun t40=>
   (faP 0 true 4 t40).bind fun t41=>
   (faP 3 false 1 t41).bind fun t42=>
   (ld1 t42 p39.2).bind fun p43=>
   (qa6 E0 .add 3 false true p43.1 (.int .i64 1)).bind fun t44=>
   (qa2 p39.1).bind fun t45=>
   (faP 0 true 4 t45).bind fun t46=>
   (faP 3 false 1 t46).bind fun t47=>
   (stP 1 t47 t44 p43.2).bind fun p48=>
   some (.ret (.int .i64 0),p48.2)else some (.ret (.int .i64 (eLink T d a i)),U):=by
 obtain⟨S1,a1,a2,a3,a4,a5⟩:=qlw (m+3) h.on b d;have h1:=h.grewF a4;obtain⟨S2,b1,b2,b3,b4⟩:=qpa (m+3) h1.on a;have h2:=h1.grewF b3;obtain⟨S3,c1,c2,c3,c4,c5⟩:=file_run (m+3) h2.on b i;have h3:=h2.grewF c4;obtain⟨S4,d1,d2,d3,d4,d5,d6⟩:=free_run (m+3) h3.on b d a;have h4:=h3.grewF d5;have g23:=b3.trans c4;have g24:=g23.trans d5;have g34:=c4.trans d5
 have all:AsksAll S4 (m+3) [.fn (.func 27) [.ptr b 0] [],.fn (.func 57) [] [.ptr S.next 0,.ptr (S.next+1) 0],.fn (.func 58) [] [.ptr S1.next 0],.fn (.func 62) [] [.ptr S2.next 0,.ptr (S2.next+1) 0],.fn (.func 60) [] [.ptr S3.next 0,.ptr (S3.next+1) 0,.ptr (S3.next+2) 0]] (eLink T d a i):=
  qae (qcc (m+1) b) (qae (qeo h4 (m+1) (a2.grew g24) (a3.grew g24)) (qae (qk8 (m+1) h4.on (b2.grew g34) ha) (qae (qj6 h4 (m+1) (c2.grew d5) (c3.grew d5)) (qae (qm1 h4 m d2 d3 d4) qf7))))
 obtain⟨R,U,q1,q2,q3,q4⟩:=asked h4.on (m+3) _ (fun v hv=>by
  simp only[List.mem_cons,List.not_mem_nil,or_false]at hv
  rcases hv with rfl|rfl|rfl|rfl|rfl<;>exact oneF _ _ _) (by show 5<1000000; decide) all
 refine⟨U,((a4.trans b3).trans (c4.trans d5)).trans q3,?_⟩;rw[F9_eq,show(ev E0 KD (m+4)).f 28 [.ptr b 0,.int .i64 d] S=_ from a1 none,callP_ret];rw[show(ev E0 KD (m+4)).f 29 [sv a] (stt S1 (Option.map _ none))=_ from b1 none,callP_ret];rw[show(ev E0 KD (m+4)).f 33 [.ptr b 0,.int .i64 i] (stt S2 (Option.map _ none))=_ from c1 none,callP_ret];rw[show(ev E0 KD (m+4)).f 30 [.ptr b 0,.int .i64 d,sv a] (stt S3 (Option.map _ none))=_ from d1 none,callP_ret];rw[show bsP 72 1 5 (Ev.one .nilfn) [(0,(.fn (.func 27) [.ptr b 0] [])),(1,(.fn (.func 57) [] [.ptr S.next 0,.ptr (S.next+1) 0])),(2,(.fn (.func 58) [] [.ptr S1.next 0])),(3,.fn (.func 62) [] [.ptr S2.next 0,.ptr (S2.next+1) 0]),(4,.fn (.func 60) [] [.ptr S3.next 0,.ptr (S3.next+1) 0,.ptr (S3.next+2) 0])] (stt S4 (Option.map _ none))=_ from q1 none,oB];dsimp only;rw[show(ev E0 KD (m+4)).f 26 _ (stt R (Option.map _ none))=_ from q2,callP_ret,neq27,oB,ifK_bool];by_cases h0:eLink T d a i=0
 . rw[iP h0,h0]; rfl
 . rw[iN h0,beq_false_of_ne h0]; rfl
theorem link_err (h:TabAt S b r T) (m:Nat) (d i:Int) (a:List UInt8) (ha:a.length<9223372036854775808) (he:eLink T d a i≠0):∃U,(ev E0 KD (m+5)).f 9 [.ptr b 0,.int .i64 d,sv a,.int .i64 i] S=some (.ret (.int .i64 (eLink T d a i)),U)/\TabAt U b r T/\Grew (Own b r T) S U:=by
 obtain⟨U,h1,h2⟩:=link_asked h m d i a ha;rw[iN he]at h2;exact⟨U,rd9 h2,h.grewF h1,h1.mono fun _ _ h=>h.elim⟩
theorem link_ok (h:TabAt S b r T) (m:Nat) (d i:Int) (a:List UInt8) (ha:a.length<9223372036854775808) (he:eLink T d a i=0) {p q:Nod} (hp:T.get d=some p) {mp:Nat} (hm:p.ino.map=some mp) (hq:T.get i=some q) (hdi:d≠i) (hl:-qaj<q.ino.links/\q.ino.links<qaj) :
 ∃U,(ev E0 KD (m+5)).f 9 [.ptr b 0,.int .i64 d,sv a,.int .i64 i] S=some (.ret (.int .i64 0),U)/\TabAt U b r ((T.upd d (qbj (qb1 a i p.ino.ents))).upd i (addL 1))/\Grew (Own b r T) S U:=by
 obtain⟨U,h1,h2⟩:=link_asked h m d i a ha;rw[iP he]at h2;have hU:=h.grewF h1;obtain⟨U1,s1,s2,s3,s4⟩:=hU.setName hp hm a i;have hq':(T.upd d (qbj (qb1 a i p.ino.ents))).get i=some q:=by rw[qba (Ne.symm hdi)]; exact hq
 obtain⟨U2,t1,t2,t3,t4⟩:=s2.setLinks hq' 1;refine⟨U2,rd9 (h2.trans ?_),t2,?_⟩
 . rw[qc5,oB,qax,oB,Nat.zero_add,hU.ld (v:=.map r) rfl,oB]
   dsimp only;rw[qer hU d,oB,hp];unfold qjw;dsimp only;rw[qc5,oB,qax,oB,Nat.zero_add,hU.nd1 hp (v:=mapV p.ino.map) rfl,oB];dsimp only;rw[hm];unfold mapV;dsimp only;rw[show qam E0 63 (.map mp) (sv a) (.int .i64 i) U=_ from s1 none];show((some (V.tuple [],U1)).bind _)=_;simp only[qc5,qax,oB,Nat.zero_add];rw[s2.ld (v:=.map r) rfl,oB];dsimp only;rw[qer s2 i,oB,hq'];simp only[qjw,qc5,qax,oB,Nat.zero_add];rw[s2.nd1 hq' (v:=.int .i64 q.ino.links) rfl,oB];dsimp only;rw[qlt 3 false true _ _ hl (by unfold qaj; omega)];simp only[oB];rw[t1,oB]
 . have g1:Grew (Own b r T) S U:=h1.mono fun _ _ h=>h.elim
   exact(g1.trans (s3.mono fun x _ hx=>hx▸qpm hp hm)).trans (t3.mono fun x _ hx=>hx▸qpl hq)
end
def LowRd (N:Nat):List LE->Prop
 | []=>True
 | e::l=>(e.w=false/\e.b<N)/\LowRd N l
def High (N:Nat):List LE->Prop
 | []=>True
 | e::l=>N<=e.b/\High N l
theorem LowRd.mem {N:Nat}:∀{l:List LE},LowRd N l->∀e∈l,e.w=false/\e.b<N
 | [],_,e,he=>by cases he
 | x::l,h,e,he=>by
  rcases List.mem_cons.1 he with rfl|he
  . exact h.1
  . exact LowRd.mem h.2 e he
theorem High.mem {N:Nat}:∀{l:List LE},High N l->∀e∈l,N<=e.b
 | [],_,e,he=>by cases he
 | x::l,h,e,he=>by
  rcases List.mem_cons.1 he with rfl|he
  . exact h.1
  . exact High.mem h.2 e he
theorem meet_ne {e f:LE} (h:e.b≠f.b):meet e f=false:=by
 unfold meet;rw[beq_false.2 h]; rfl
theorem clash1_ne {e:LE}:∀{l:List LE},(∀f∈l,e.b≠f.b)->qem e l=false
 | [],_=>rfl
 | f::l,h=>by
  unfold qem;rw[meet_ne (h f (List.mem_cons_self ..))];exact clash1_ne fun g hg=>h g (mO _ hg)
theorem clash_ne:∀{a b:List LE},(∀e∈a,∀f∈b,e.b≠f.b)->qd5 a b=false
 | [],_,_=>rfl
 | e::a,b,h=>by
  unfold qd5;rw[clash1_ne (h e (List.mem_cons_self ..))];exact clash_ne fun g hg=>h g (mO _ hg)
def AllAt (P:List LE->Prop) (logs:List (List LE)):List Nat->Prop
 | []=>True
 | i::l=>P (qcr i logs)/\AllAt P logs l
theorem AllAt.mem {P:List LE->Prop} {logs:List (List LE)}:∀{l:List Nat},AllAt P logs l->∀i∈l,P (qcr i logs)
 | [],_,i,hi=>by cases hi
 | x::l,h,i,hi=>by
  rcases List.mem_cons.1 hi with rfl|hi
  . exact h.1
  . exact AllAt.mem h.2 i hi
def memb (i:Nat):List Nat->Bool
 | []=>false
 | x::l=>Nat.beq i x||memb i l
theorem qhs {i:Nat}:∀{l:List Nat},memb i l=true->i∈l
 | [],h=>by cases h
 | x::l,h=>by
  unfold memb at h;rw[Bool.or_eq_true]at h;rcases h with h|h
  . rw[Ev.beq_true]at h; subst h; exact List.mem_cons_self ..
  . exact mO _ (qhs h)
def askOk (lows highs:List Nat) (prs:List (Nat×List Nat)):Bool:=prs.all fun p=>p.2.all fun j=>(memb p.1 lows&&(memb j lows||memb j highs))||(memb p.1 highs&&memb j lows)
theorem pairs_of {logs:List (List LE)}:∀{prs:List (Nat×List Nat)},(∀p∈prs,∀j∈p.2,qd5 (qcr p.1 logs) (qcr j logs)=false)->qb0 logs prs=true
 | [],_=>rfl
 | (i,js)::l,h=>by
  have key:∀js:List Nat,(∀j∈js,qd5 (qcr i logs) (qcr j logs)=false)->qcg (qcr i logs) logs js=false:=fun js=>by
   induction js with
   | nil=>intro _; rfl
   | cons j js ih=>
    intro hj;unfold qcg;rw[hj j (List.mem_cons_self ..)];exact ih fun x hx=>hj x (mO _ hx)
  unfold qb0;rw[key js fun j hj=>h (i,js) (List.mem_cons_self ..) j hj];exact pairs_of fun p hp=>h p (mO _ hp)
theorem qfg {prs:List (Nat×List Nat)} {s0 s:St} {logs:List (List LE)} {k:St->Rs} (N:Nat) (lows highs:List Nat) (hp:askOk lows highs prs=true) (hl:AllAt (LowRd N) logs lows) (hh:AllAt (High N) logs highs):qgx prs s0 logs s k=k (qbe s0 s logs):=by
 refine qca (pairs_of fun p hpm j hj=>?_);have h:=List.all_eq_true.1 (List.all_eq_true.1 hp p hpm) j hj;rw[Bool.or_eq_true,bA,bA,Bool.or_eq_true]at h;rcases h with⟨h1,h2|h2⟩|⟨h1,h2⟩
 . exact clash_rd _ _ (fun f hf=>((hl.mem p.1 (qhs h1)).mem f hf).1) fun f hf=>((hl.mem j (qhs h2)).mem f hf).1
 . exact clash_ne fun e he f hf=>by have:=((hl.mem p.1 (qhs h1)).mem e he).2; have:=(hh.mem j (qhs h2)).mem f hf; omega
 . exact clash_ne fun e he f hf=>by have:=(hh.mem p.1 (qhs h1)).mem e he; have:=((hl.mem j (qhs h2)).mem f hf).2; omega
section
variable {S U:St} {b r:Nat} {T:Tab}
theorem qff (ho:S.on=false) (e e2 e3:Nat) {v v2 v3:V} (hv:OneV v) (hv2:OneV v2) (hv3:OneV v3):∃U1 U2 U,qdb e v S=some (.ptr S.next 0,U1)/\qdb e2 v2 U1=some (.ptr (S.next+1) 0,U2)/\qdb e3 v3 U2=some (.ptr (S.next+2) 0,U)/\Cap U S.next e v/\Cap U (S.next+1) e2 v2/\Cap U (S.next+2) e3 v3/\Grew (fun _=>False) S U/\U.next=S.next+3:=by
 obtain⟨U1,h1,h2,h3,h4⟩:=qi7 ho e hv;obtain⟨U2,k1,k2,k3,k4⟩:=qi7 (h3.on.trans ho) e2 hv2;obtain⟨U3,l1,l2,l3,l4⟩:=qi7 (k3.on.trans (h3.on.trans ho)) e3 hv3;have c1:Cap U1 S.next e v:=⟨h2,by omega⟩
 rw[h4]at k1 k2 k4;rw[k4]at l1 l2;have c2:Cap U2 (S.next+1) e2 v2:=⟨k2,by omega⟩
 exact⟨U1,U2,U3,h1,k1,l1,(c1.grew k3).grew l3,c2.grew l3,⟨l2,by omega⟩,(h3.trans k3).trans l3,by omega⟩
theorem TabAt.setT (h:TabAt S b r T) {T':Tab} (hn:T'.nodes=T.nodes) (i:Nat) (hi:i<6) {v:V} (hv:OneV v) (hs:(Tr.ofListFrom .nil (T.cells r) 0).set v i=Tr.ofListFrom .nil (T'.cells r) 0):∃U,stP 1 (.ptr b i) v S=some (.tuple [],U)/\TabAt U b r T'/\Grew (fun x=>x=b) S U/\U.next=S.next:=
 ⟨_,qoe h.on h.tb rfl (m:=T'.cells r) rfl hi hs hv.size hv.cells hv.tup,h.putT hn,qan _ _,rfl⟩
theorem ino_set2 (n:Ino) (d:List UInt8):(Tr.ofListFrom .nil n.cells 0).set (sv d) 2=Tr.ofListFrom .nil {n with data:=d}.cells 0:=set6_2 ..
theorem TabAt.setData (h:TabAt S b r T) {i:Int} {p:Nod} (hp:T.get i=some p) (data:List UInt8):∃U,stP 1 (.ptr p.box 2) (sv data) S=some (.tuple [],U)/\TabAt U b r (T.upd i fun n=>{n with data:=data})/\Grew (fun x=>x=p.box) S U/\U.next=S.next:=by
 have hb:=h.nd p (qar hp).1;exact⟨_,qoe h.on hb rfl (m:={p.ino with data:=data}.cells) rfl (i:=2) (by decide) (ino_set2 _ _) rfl rfl rfl,h.putN hp (fun n=>{n with data:=data}) rfl rfl,qan _ _,rfl⟩
def qgw (T:Tab) (i:Int) (data:List UInt8):Int:=match T.get i with
 | none=>5
 | some p=>qcf [0,qk1 T i,eRoom T 0 ((data.length:Int)-(p.ino.data.length:Int))]
theorem write_ok (h:TabAt S b r T) (hT:Fits T) (m:Nat) (i:Int) (data:List UInt8) {p:Nod} (hp:T.get i=some p) (hd:data.length<1000000) (hd2:p.ino.data.length<1000000) (hub:-4611686018426387904<T.ub/\T.ub<4611686018426387904) (he:qgw T i data=0) :
 ∃U,(ev E0 KD (m+5)).f 10 [.ptr b 0,.int .i64 i,sv data] S=some (.ret (.int .i64 0),U)/\TabAt U b r ({T with ub:=T.ub+((data.length:Int)-(p.ino.data.length:Int))}.upd i fun n=>{n with data:=data})/\Grew (Own b r T) S U:=by
 obtain⟨S1,S2,S3,s1,s2,s3,c1,c2,c3,g3,n3⟩:=qff h.on 23 3 9 (oneP b 0) (qb4 .i64 i) (qfx data);have h3:=h.grewF g3;obtain⟨S4,a1,a2,a3,a4,a5⟩:=file_run (m+3) h3.on b i;have h4:=h3.grewF a4
 have all:AsksAll S4 (m+3) [.fn (.func 27) [.ptr b 0] [],.fn (.func 62) [] [.ptr S3.next 0,.ptr (S3.next+1) 0],.fn (.func 34) [] [.ptr S.next 0,.ptr (S.next+2) 0,.ptr (S.next+1) 0]] (qgw T i data):=by
  unfold qgw;rw[hp];exact qae (qcc (m+1) b) (qae (qj6 h4 (m+1) a2 a3) (qae (qqk h4 hT m hp hd hd2 (c1.grew a4) (c3.grew a4) (c2.grew a4)) qf7))
 rw[he]at all
 obtain⟨R,U,q1,q2,q3,q4⟩:=asked h4.on (m+3) _ (fun v hv=>by
  simp only[List.mem_cons,List.not_mem_nil,or_false]at hv
  rcases hv with rfl|rfl|rfl<;>exact oneF _ _ _) (by show 3<1000000; decide) all
 obtain⟨l2,q2'⟩:=qe7 (m+3) q2;have gU:=a4.trans q3;have hU:=(h3.grewF gU).same (U:=atS U S3) rfl rfl rfl;have gA:=qdm gU h3.on;have d1:=c1.grew gA;have d2:=c2.grew gA;have d3:=c3.grew gA;have hgU:Grew (Own b r T) S (atS U S3):=(g3.trans gA).mono fun _ _ h=>h.elim;generalize hA:atS U S3=A at hU gA d1 d2 d3 hgU;obtain⟨B,t1,t2,t3,t4⟩:=hU.setT (T':={T with ub:=T.ub+((data.length:Int)-(p.ino.data.length:Int))}) rfl 3 (by decide) (qb4 .i64 (T.ub+((data.length:Int)-(p.ino.data.length:Int)))) (set6_3 ..);obtain⟨lB,t1'⟩:=stP_lg hU.on t1;have ht2:=t2.same (U:=atS B A) rfl rfl rfl;have gB:=qdm t3 hU.on
 have e3:Cap (atS B A) (S.next+2) 9 (sv data):=by
  have hb:=h.hb;exact⟨d3.bx.grew d3.lt (fun e=>by omega) gB,Nat.lt_of_lt_of_le d3.lt gB.next⟩
 have hp':({T with ub:=T.ub+((data.length:Int)-(p.ino.data.length:Int))}:Tab).get i=some p:=hp;obtain⟨D,u1,u2,u3,u4⟩:=ht2.setData hp' data;refine⟨D,rd10 ?_,u2,?_⟩
 . show F10 (ev E0 KD (m+4)) qa4 (.ptr b 0) (.int .i64 i) (sv data) S=_
   rw[F10_eq,s1,oB];dsimp only;rw[s2,oB];dsimp only;rw[s3,oB];dsimp only;rw[c1.ldL h3.on,oB];dsimp only;rw[qa1,c1.ldL h3.on,oB];dsimp only;rw[qa1,c2.ldL h3.on,oB];dsimp only;rw[qa1,show(ev E0 KD (m+4)).f 33 [.ptr b 0,.int .i64 i] (onS S3)=_ from a1 (some []),qa7];rw[show bsP 72 1 3 (Ev.one .nilfn) [(0,(.fn (.func 27) [.ptr b 0] [])),(1,.fn (.func 62) [] [.ptr S3.next 0,.ptr (S3.next+1) 0]),(2,.fn (.func 34) [] [.ptr S.next 0,.ptr (S.next+2) 0,.ptr (S.next+1) 0])] (onS (stt S4 (Option.map _ (some []))))=_ from q1 (some []),oB];dsimp only;rw[show(ev E0 KD (m+4)).f 26 _ (onS (stt R (Option.map _ (some []))))=_ from q2',qa7];rw[qfg (S.next+3) [0,2,3] [4]]
   rotate_left
   . rfl
   . exact⟨⟨⟨rfl,by show S.next<S.next+3; omega⟩,trivial⟩,⟨⟨rfl,by show S.next<S.next+3; omega⟩,trivial⟩,⟨⟨rfl,by show S.next+1<S.next+3; omega⟩,trivial⟩,trivial⟩
   . exact⟨⟨by show S.next+3<=S3.next+1; omega,by show S.next+3<=S3.next; omega,trivial⟩,trivial⟩
   rw[qa1,qbf h3.on,hA,neq27,oB,ifK_bool];simp only[beq_self_eq_true,Bool.not_true,cF];rw[d1.ldL hU.on,oB];dsimp only;rw[qc5,oB,qax,oB,qa1,Nat.zero_add,hU.ldL (v:=.map r) rfl,oB];dsimp only;rw[qa1,d2.ldL hU.on,oB];dsimp only;rw[qa1,qft hU,oB,hp];simp only[qjw];rw[qd6 (by rfl),qa1,qhc hU.on,d1.ldL hU.on,oB];dsimp only;simp only[qc5,qax,oB,Nat.zero_add,qa1];rw[hU.ldL (i:=2+1) (v:=.int .i64 T.ub) rfl,oB];dsimp only;rw[qa1,d3.ldL hU.on,oB];dsimp only;rw[lnStr_sv,oB];dsimp only;rw[qik,qa1,hU.ndL hp (i:=i) (k:=2) (v:=sv p.ino.data) rfl,oB];dsimp only;rw[lnStr_sv,oB];dsimp only;rw[subI 3 false false _ _ (by unfold qaj; omega) (by unfold qaj; omega),oB,qlt 3 false false _ _ (by unfold qaj; omega) (by unfold qaj; omega),oB,qik,qa1];rw[show stP 1 (.ptr b (2+1)) (.int .i64 (T.ub+((data.length:Int)-(p.ino.data.length:Int)))) (onS A)=_ from t1',oB];dsimp only;rw[qd6 (by rfl),qfb hU.on,e3.ld ht2.on,oB];dsimp only;rw[u1,oB]
 . exact(hgU.trans (gB.mono fun x _ hx=>.inl hx)).trans (u3.mono fun x _ hx=>hx▸qpl hp)
end
end Go.Proofs.Ytbihlgcdnhoknaa.W
