/-
  WHAT THE FUNCTIONS COME TO: each is read by the evaluator,printed,and told as a function of data,part 3 of 14 (no condition).
-/
import Derived.Test.YtbihlgcdnhoknaaW2
namespace Go.Proofs.Ytbihlgcdnhoknaa.W
open Go.Proofs.Ytbihlgcdnhoknaa.Ev
section
variable {s:St}
theorem nw_lg (ho:s.on=false) (l:List LE) (o:O):nw (s.lg l) o=(nw s o).lg ({b:=s.next,lo:=0,hi:=big,w:=true}::l):=by
 unfold nw;rw[qb3 ho,note_lg];rfl
theorem newCells_lg (ho:s.on=false) (l:List LE) (e z:Nat) (ts:List (Tr V)):qag (s.lg l) e z ts=(qag s e z ts).lg ({b:=s.next,lo:=0,hi:=big,w:=true}::l):=by
 unfold qag;exact nw_lg ho l _
theorem stP_lg (ho:s.on=false) {n b off:Nat} {v:V} {t:St} (h:stP n (.ptr b off) v s=some (.tuple [],t)):∃l,stP n (.ptr b off) v (s.lg [])=some (.tuple [],t.lg l):=by
 have h':vu (bif Nat.beq v.size n&&!qai v then stK s b off n v.cells else none)=some (.tuple [],t):=h;show ∃l,vu (bif Nat.beq v.size n&&!qai v then stK (s.lg []) b off n v.cells else none)=some (.tuple [],t.lg l);cases hc:(Nat.beq v.size n&&!qai v)with
 | false=>rw[hc]at h'; cases h'
 | true=>
  rw[hc]at h';simp only[cT]at h' ⊢;unfold vu at h' ⊢;simp only[oI,oS,pM,true_and]at h';obtain⟨u,hu,rfl⟩:=h';obtain⟨_,l,hl⟩:=stK_lg ho hu [];exact⟨l,by rw[hl]; rfl⟩
theorem qoe (ho:s.on=false) {b e i:Nat} {l m:List V} {v:V} (h:Bx s b e l) (hl:l.length=6) (hm:m.length=6) (hi:i<6) (hset:(Tr.ofListFrom .nil l 0).set v i=Tr.ofListFrom .nil m 0) (h1:v.size=1) (h2:v.cells=Ev.one v) (h3:qai v=false) :
 stP 1 (.ptr b i) v s=some (.tuple [],s.put b (bxO e m)):=by
 show vu (bif Nat.beq v.size 1&&!qai v then stK s b i 1 v.cells else none)=_;rw[h1,h2,h3]
 have hst:stK s b i 1 (Ev.one v)=some (s.put b (bxO e m)):=by
  unfold stK;rw[h,hl];simp only[ble_true.2 (show i+1<=6*1 by omega),blt_true.2 (show 6*1<big by unfold big; decide),Bool.and_self,nF,cT];unfold qep;rw[show Nat.beq 1 6=false from rfl];have hv0:(Ev.one v).get 0=some v:=rfl;simp only[Bool.false_and,cF,qhh,Tr.setC_eq,hv0,oB,Nat.add_zero,Nat.div_eq_of_lt hi,Nat.mod_eq_of_lt hi];rw[Tr.get_ofList];simp only[List.getElem?_cons_zero,oB,hset,set_one,qb3 ho];unfold bxO;rw[hm]
 rw[hst]; rfl
theorem set6_2 (a b c d e f v:V):(Tr.ofListFrom .nil [a,b,c,d,e,f] 0).set v 2=Tr.ofListFrom .nil [a,b,v,d,e,f] 0:=by kernel_rfl
theorem set6_3 (a b c d e f v:V):(Tr.ofListFrom .nil [a,b,c,d,e,f] 0).set v 3=Tr.ofListFrom .nil [a,b,c,v,e,f] 0:=by kernel_rfl
theorem set6_4 (a b c d e f v:V):(Tr.ofListFrom .nil [a,b,c,d,e,f] 0).set v 4=Tr.ofListFrom .nil [a,b,c,d,v,f] 0:=by kernel_rfl
theorem set6_5 (a b c d e f v:V):(Tr.ofListFrom .nil [a,b,c,d,e,f] 0).set v 5=Tr.ofListFrom .nil [a,b,c,d,e,v] 0:=by kernel_rfl
theorem qh4 (ho:s.on=false) {b i:Nat} {v:V} (h:ld1 (.ptr b i) s=some (v,s)) (l:List LE):ld1 (.ptr b i) (s.lg l)=some (v,s.lg (⟨b,i,i+1,false⟩::l)):=by
 have h':ld s b i=some (v,s):=h;show ld (s.lg l) b i=_;unfold ld at h' ⊢;rw[show(s.lg l).heap=s.heap from rfl];split at h'
 . rename_i e esz n ro c hb
   cases hc:(Nat.blt i (esz*n)&&Nat.blt (esz*n) big)with
   | false=>rw[hc]at h'; cases h'
   | true=>
    rw[hc]at h';simp only[cT,oI,oS,pM]at h' ⊢;obtain⟨t,h1,w,h2,rfl,_⟩:=h';exact⟨t,h1,w,h2,rfl,rfl⟩
 . cases h'
end
def stt (S:St):Option (List LE)->St
 | none=>S
 | some l=>S.lg l
section
variable {S:St}
theorem qlu (ho:S.on=false) (e:Nat) {v:V} (hv:OneV v):∃T,(∀m,qdb e v (stt S m)=some (.ptr S.next 0,stt T (m.map fun l=>⟨S.next,0,big,true⟩::l)))/\Bx T S.next e [v]/\Grew (fun _=>False) S T/\T.next=S.next+1:=by
 obtain⟨T,h1,h2,h3,h4⟩:=qi7 ho e hv;refine⟨T,fun m=>?_,h2,h3,h4⟩;cases m with
 | none=>exact h1
 | some l=>
  have hT:qag S e 1 [Ev.one v]=T:=by
   unfold qdb at h1;simp only[hv.size,hv.cells,hv.tup,cF,oS,pM]at h1;exact h1.2
  show qdb e v (S.lg l)=some (.ptr S.next 0,T.lg _);unfold qdb;simp only[hv.size,hv.cells,hv.tup,cF];rw[newCells_lg ho,hT];rfl
theorem qee {T:St} (ho:S.on=false) (hT:T.on=false) (hl:T.log=S.log) (l:List LE) (ls:List (List LE)):qbe S (T.lg l) ls=T:=by
 unfold qbe;rw[ho];cases T;simp only at hT hl;subst hT; subst hl;rfl
def kvI (kv:List (Int×V)):List (V×V):=kv.map fun p=>(.int .i64 p.1,p.2)
def kvS (kv:List (List UInt8×Int)):List (V×V):=kv.map fun p=>(sv p.1,.int .i64 p.2)
def qfp (es:List ME):List (V×V):=es.map fun e=>(e.k,e.v)
def MapOk (es:List ME) (c:Nat) (kv:List (V×V)):Prop:=qfp es=kv/\qbx 0 es=true/\qbc es 0<=c
def MapAt (S:St) (r:Nat) (kv:List (V×V)):Prop:=∃es clock,S.heap.get r=some (.map es clock)/\MapOk es clock kv
theorem qn1:∀(es:List ME) (m c:Nat) (k v:V),qbx m es=true->qbc es m<=c->qbx m (es++[{k:=k,v:=v,born:=c}])=true/\qbc (es++[{k:=k,v:=v,born:=c}]) m=c+1
 | [],m,c,k,v,_,h=>by
  unfold qbc at h;refine⟨?_,rfl⟩;show(Nat.ble m c&&true)=true;rw[ble_true.2 h]; rfl
 | e::es,m,c,k,v,h1,h2=>by
  unfold qbx at h1;unfold qbc at h2;simp only[bA]at h1;obtain⟨q1,q2⟩:=qn1 es (e.born+1) c k v h1.2 h2;rw[List.cons_append];unfold qbx qbc;exact⟨by rw[h1.1,q1]; rfl,q2⟩
theorem qq8 (k v:V):∀(i:Nat) (es:List ME) (m:Nat),qbx m (qg9 i k v es)=qbx m es/\qbc (qg9 i k v es) m=qbc es m
 | _,[],_=>⟨rfl,rfl⟩
 | 0,e::es,m=>⟨rfl,rfl⟩
 | i+1,e::es,m=>by
  obtain⟨h1,h2⟩:=qq8 k v i es (e.born+1);refine⟨?_,h2⟩;show(Nat.ble m e.born&&qbx (e.born+1) (qg9 i k v es))=_;rw[h1]; rfl
theorem stampsR_less:∀(es:List ME) (m m':Nat),m<=m'->qbx m' es=true->qbx m es=true/\qbc es m<=qbc es m'
 | [],m,m',h,_=>⟨rfl,h⟩
 | e::es,m,m',h,h2=>by
  unfold qbx at h2 ⊢;simp only[bA]at h2 ⊢;exact⟨⟨ble_true.2 (Nat.le_trans h (ble_true.1 h2.1)),h2.2⟩,lR _⟩
theorem qn0:∀(i:Nat) (es:List ME) (m:Nat),qbx m es=true->qbx m (qdw i es)=true/\qbc (qdw i es) m<=qbc es m
 | _,[],_,h=>⟨h,lR _⟩
 | 0,e::es,m,h=>by
  unfold qbx at h;simp only[bA]at h;exact stampsR_less es m (e.born+1) (Nat.le_succ_of_le (ble_true.1 h.1)) h.2
 | i+1,e::es,m,h=>by
  unfold qbx at h;simp only[bA]at h;obtain⟨h1,h2⟩:=qn0 i es (e.born+1) h.2;refine⟨?_,h2⟩;show(Nat.ble m e.born&&qbx (e.born+1) (qdw i es))=true;rw[h.1,h1]; rfl
theorem MapOk.push {es:List ME} {c:Nat} {kv kv':List (V×V)} (h:MapOk es c kv) (k v:V) (e:qfp (es++[{k:=k,v:=v,born:=c}])=kv'):MapOk (es++[{k:=k,v:=v,born:=c}]) (c+1) kv':=
 let ⟨q1,q2⟩:=qn1 es 0 c k v h.2.1 h.2.2
 ⟨e,q1,by rw[q2]; exact lR _⟩
theorem MapOk.set {es:List ME} {c:Nat} {kv kv':List (V×V)} (h:MapOk es c kv) (i:Nat) (k v:V) (e:qfp (qg9 i k v es)=kv'):MapOk (qg9 i k v es) c kv':=
 let ⟨q1,q2⟩:=qq8 k v i es 0
 ⟨e,q1.trans h.2.1,by rw[q2]; exact h.2.2⟩
theorem MapOk.drop {es:List ME} {c:Nat} {kv kv':List (V×V)} (h:MapOk es c kv) (i:Nat) (e:qfp (qdw i es)=kv'):MapOk (qdw i es) c kv':=
 let ⟨q1,q2⟩:=qn0 i es 0 h.2.1
 ⟨e,q1,Nat.le_trans q2 h.2.2⟩
theorem MapOk.new:MapOk [] 0 []:=⟨rfl,rfl,lR _⟩
theorem MapAt.grew {W:Nat->Prop} {T:St} {r:Nat} {kv:List (V×V)} (h:MapAt S r kv) (hr:r<S.next) (hw:¬W r) (g:Grew W S T):MapAt T r kv:=by
 obtain⟨es,c,h1,h2⟩:=h;exact⟨es,c,by rw[g.keep r hr hw]; exact h1,h2⟩
def lkI (a:Int):List (Int×V)->Option V
 | []=>none
 | p::l=>if a=p.1 then some p.2 else lkI a l
def lkS (a:List UInt8):List (List UInt8×Int)->Option Int
 | []=>none
 | p::l=>if a=p.1 then some p.2 else lkS a l
def ixI (a:Int):List (Int×V)->Nat
 | []=>0
 | p::l=>if a=p.1 then 0 else ixI a l+1
def ixS_ (a:List UInt8):List (List UInt8×Int)->Nat
 | []=>0
 | p::l=>if a=p.1 then 0 else ixS_ a l+1
theorem qlb (a:Int):∀(kv:List (Int×V)) (es:List ME) (i:Nat),qfp es=kvI kv->qg7 (.int .i64 a) es i=some ((lkI a kv).map fun v=>(i+ixI a kv,v))
 | [],es,i,h=>by
  cases es with
  | nil=>rfl
  | cons e es=>simp[qfp,kvI]at h
 | p::kv,[],i,h=>by simp[qfp,kvI]at h
 | p::kv,e::es,i,h=>by
  simp only[qfp,kvI,List.map_cons,List.cons.injEq,pM]at h;obtain⟨⟨h1,h2⟩,h3⟩:=h;rw[qg7,h1];simp only[qcy,cT,qga];unfold lkI ixI;by_cases hc:a=p.1
  . rw[iP hc,iP hc,show(a==p.1)=true by simp[hc],cT,h2]; rfl
  . rw[iN hc,iN hc,show(a==p.1)=false from beq_false_of_ne hc,cF,qlb a kv es (i+1) h3]
    cases lkI a kv with
    | none=>rfl
    | some v=>simp only[Option.map_some,show i+1+ixI a kv=i+(ixI a kv+1) by omega]
theorem qld (a:List UInt8):∀(kv:List (List UInt8×Int)) (es:List ME) (i:Nat),qfp es=kvS kv->qg7 (sv a) es i=some ((lkS a kv).map fun v=>(i+ixS_ a kv,.int .i64 v))
 | [],es,i,h=>by
  cases es with
  | nil=>rfl
  | cons e es=>simp[qfp,kvS]at h
 | p::kv,[],i,h=>by simp[qfp,kvS]at h
 | p::kv,e::es,i,h=>by
  simp only[qfp,kvS,List.map_cons,List.cons.injEq,pM]at h;obtain⟨⟨h1,h2⟩,h3⟩:=h
  have hm:qg7 (sv a) (e::es) i=bif a==p.1 then some (some (i,e.v))else qg7 (sv a) es (i+1):=by
   show(match e.k with|.str l' b=>bif sEq a.length (qaz a) l' b then some (some (i,e.v))else qg7 (sv a) es (i+1)|_=>none)=_;rw[h1];show(bif sEq a.length (qaz a) p.1.length (qaz p.1)then some (some (i,e.v))else qg7 (sv a) es (i+1))=_;rw[qq2]
  rw[hm];unfold lkS ixS_;by_cases hc:a=p.1
  . rw[iP hc,iP hc,show(a==p.1)=true by simp[hc],cT,h2]; rfl
  . rw[iN hc,iN hc,show(a==p.1)=false from beq_false_of_ne hc,cF,qld a kv es (i+1) h3]
    cases lkS a kv with
    | none=>rfl
    | some v=>simp only[Option.map_some,show i+1+ixS_ a kv=i+(ixS_ a kv+1) by omega]
theorem qj8 (ho:S.on=false) {r:Nat} {o:O} (h:S.heap.get r=some o) (m:Option (List LE)):qib (stt S m) r=some (o,stt S (m.map fun l=>⟨r,0,big,false⟩::l)):=by
 cases m with
 | none=>exact qni ho h
 | some l=>
  show qib (S.lg l) r=_;unfold qib;rw[show(S.lg l).heap.get r=some o from h];rfl
theorem qjg (ho:S.on=false) (r:Nat) (o:O) (m:Option (List LE)):setO (stt S m) r o=stt (S.put r o) (m.map fun l=>⟨r,0,big,true⟩::l):=by
 cases m with
 | none=>exact setO_off ho r o
 | some l=>rfl
theorem und66:und E0 66=some (.map 3 62):=by kernel_rfl
theorem und63:und E0 63=some (.map 9 3):=by kernel_rfl
theorem und70:und E0 70=some (.map 3 4):=by kernel_rfl
theorem und3:und E0 3=some (.int .i64):=by kernel_rfl
theorem und9':und E0 9=some .string:=by kernel_rfl
theorem zero62:qhf E0 62=some .nilptr:=by kernel_rfl
theorem zero3:qhf E0 3=some (.int .i64 0):=by kernel_rfl
theorem zero4:qhf E0 4=some (.bool false):=by kernel_rfl
theorem look_int (ho:S.on=false) {t et:TypeId} {z:V} (ht:und E0 t=some (.map 3 et)) (hz:qhf E0 et=some z) {r:Nat} {kv:List (Int×V)} (h:MapAt S r (kvI kv)) (a:Int) (m:Option (List LE)) :
 qal E0 t (.map r) (.int .i64 a) false (stt S m)=some ((lkI a kv).getD z,stt S (m.map fun l=>⟨r,0,big,false⟩::l)):=by
 obtain⟨es,c,h1,h2,_⟩:=h;unfold qal;rw[ht,oB];simp only;rw[und3,oB];simp only[qh2,cT];rw[qj8 ho h1 m,oB];simp only;rw[oB];dsimp only;rw[qlb a kv es 0 h2,oB];cases lkI a kv with
 | none=>simp only[Option.map_none]; rw[hz]; rfl
 | some v=>rfl
theorem look_str (ho:S.on=false) {r:Nat} {kv:List (List UInt8×Int)} (h:MapAt S r (kvS kv)) (a:List UInt8) (m:Option (List LE)) :
 qal E0 63 (.map r) (sv a) true (stt S m)=some (.tuple [.int .i64 ((lkS a kv).getD 0),.bool (lkS a kv).isSome],stt S (m.map fun l=>⟨r,0,big,false⟩::l)):=by
 obtain⟨es,c,h1,h2,_⟩:=h;unfold qal;rw[und63,oB];simp only;rw[und9',oB];simp only[sv,qh2,cT];rw[qj8 ho h1 m,oB];simp only;rw[oB];dsimp only;have hm:=qld a kv es 0 h2;unfold sv at hm;rw[hm,oB];cases lkS a kv with
 | none=>simp only[Option.map_none]; rw[zero3]; rfl
 | some v=>rfl
theorem look_nil (a:List UInt8) (s:St):qal E0 63 .nilmap (sv a) true s=some (.tuple [.int .i64 0,.bool false],s):=by
 unfold qal;rw[und63,oB];simp only;rw[und9',oB];simp only[sv,qh2,cT,oB,qg7];rw[zero3]; rfl
def setKI (a:Int) (v:V):List (Int×V)->List (Int×V)
 | []=>[(a,v)]
 | p::l=>if a=p.1 then(a,v)::l else p::setKI a v l
def qb1 (a:List UInt8) (v:Int):List (List UInt8×Int)->List (List UInt8×Int)
 | []=>[(a,v)]
 | p::l=>if a=p.1 then(a,v)::l else p::qb1 a v l
def qop (a:Int):List (Int×V)->List (Int×V)
 | []=>[]
 | p::l=>if a=p.1 then l else p::qop a l
def qa9 (a:List UInt8):List (List UInt8×Int)->List (List UInt8×Int)
 | []=>[]
 | p::l=>if a=p.1 then l else p::qa9 a l
theorem setME_int (a:Int) (v:V):∀(kv:List (Int×V)) (es:List ME),qfp es=kvI kv->∀w,lkI a kv=some w->qfp (qg9 (ixI a kv) (.int .i64 a) v es)=kvI (setKI a v kv)
 | [],es,h,w,hw=>by simp[lkI]at hw
 | p::kv,[],h,w,hw=>by simp[qfp,kvI]at h
 | p::kv,e::es,h,w,hw=>by
  simp only[qfp,kvI,List.map_cons,List.cons.injEq,pM]at h;obtain⟨⟨h1,h2⟩,h3⟩:=h;unfold ixI setKI;unfold lkI at hw;by_cases hc:a=p.1
  . rw[iP hc,iP hc]
    show(V.int .i64 a,v)::qfp es=_;rw[show qfp es=kvI kv from h3]; rfl
  . rw[iN hc,iN hc]
    rw[iN hc]at hw;unfold qg9;rw[show Nat.beq (ixI a kv+1) 0=false from rfl,cF,Nat.add_sub_cancel];show(e.k,e.v)::qfp _=(V.int .i64 p.1,p.2)::kvI _;rw[h1,h2,setME_int a v kv es h3 w hw]
theorem setME_str (a:List UInt8) (v:Int):∀(kv:List (List UInt8×Int)) (es:List ME),qfp es=kvS kv->∀w,lkS a kv=some w->qfp (qg9 (ixS_ a kv) (sv a) (.int .i64 v) es)=kvS (qb1 a v kv)
 | [],es,h,w,hw=>by simp[lkS]at hw
 | p::kv,[],h,w,hw=>by simp[qfp,kvS]at h
 | p::kv,e::es,h,w,hw=>by
  simp only[qfp,kvS,List.map_cons,List.cons.injEq,pM]at h;obtain⟨⟨h1,h2⟩,h3⟩:=h;unfold ixS_ qb1;unfold lkS at hw;by_cases hc:a=p.1
  . rw[iP hc,iP hc]
    show(sv a,V.int .i64 v)::qfp es=_;rw[show qfp es=kvS kv from h3]; rfl
  . rw[iN hc,iN hc]
    rw[iN hc]at hw;unfold qg9;rw[show Nat.beq (ixS_ a kv+1) 0=false from rfl,cF,Nat.add_sub_cancel];show(e.k,e.v)::qfp _=(sv p.1,V.int .i64 p.2)::kvS _;rw[h1,h2,setME_str a v kv es h3 w hw]
theorem qmd (a:Int) (v:V):∀kv,lkI a kv=none->setKI a v kv=kv++[(a,v)]
 | [],_=>rfl
 | p::kv,h=>by
  unfold lkI at h;unfold setKI;by_cases hc:a=p.1
  . rw[iP hc]at h; cases h
  . rw[iN hc]at h ⊢
    rw[qmd a v kv h]; rfl
theorem qhd (a:List UInt8) (v:Int):∀kv,lkS a kv=none->qb1 a v kv=kv++[(a,v)]
 | [],_=>rfl
 | p::kv,h=>by
  unfold lkS at h;unfold qb1;by_cases hc:a=p.1
  . rw[iP hc]at h; cases h
  . rw[iN hc]at h ⊢
    rw[qhd a v kv h]; rfl
theorem dropME_int (a:Int):∀(kv:List (Int×V)) (es:List ME),qfp es=kvI kv->∀w,lkI a kv=some w->qfp (qdw (ixI a kv) es)=kvI (qop a kv)
 | [],es,h,w,hw=>by simp[lkI]at hw
 | p::kv,[],h,w,hw=>by simp[qfp,kvI]at h
 | p::kv,e::es,h,w,hw=>by
  simp only[qfp,kvI,List.map_cons,List.cons.injEq,pM]at h;obtain⟨⟨h1,h2⟩,h3⟩:=h;unfold ixI qop;unfold lkI at hw;by_cases hc:a=p.1
  . rw[iP hc,iP hc]
    exact h3
  . rw[iN hc,iN hc]
    rw[iN hc]at hw;unfold qdw;rw[show Nat.beq (ixI a kv+1) 0=false from rfl,cF,Nat.add_sub_cancel];show(e.k,e.v)::qfp _=(V.int .i64 p.1,p.2)::kvI _;rw[h1,h2,dropME_int a kv es h3 w hw]
theorem dropME_str (a:List UInt8):∀(kv:List (List UInt8×Int)) (es:List ME),qfp es=kvS kv->∀w,lkS a kv=some w->qfp (qdw (ixS_ a kv) es)=kvS (qa9 a kv)
 | [],es,h,w,hw=>by simp[lkS]at hw
 | p::kv,[],h,w,hw=>by simp[qfp,kvS]at h
 | p::kv,e::es,h,w,hw=>by
  simp only[qfp,kvS,List.map_cons,List.cons.injEq,pM]at h;obtain⟨⟨h1,h2⟩,h3⟩:=h;unfold ixS_ qa9;unfold lkS at hw;by_cases hc:a=p.1
  . rw[iP hc,iP hc]
    exact h3
  . rw[iN hc,iN hc]
    rw[iN hc]at hw;unfold qdw;rw[show Nat.beq (ixS_ a kv+1) 0=false from rfl,cF,Nat.add_sub_cancel];show(e.k,e.v)::qfp _=(sv p.1,V.int .i64 p.2)::kvS _;rw[h1,h2,dropME_str a kv es h3 w hw]
theorem qfc (T:St) (m:Option (List LE)) (f g:List LE->List LE):stt T ((m.map f).map g)=stt T (m.map fun l=>g (f l)):=by cases m<;>rfl
theorem upd_int (ho:S.on=false) {t et:TypeId} (ht:und E0 t=some (.map 3 et)) {r:Nat} {kv:List (Int×V)} (h:MapAt S r (kvI kv)) (a:Int) (v:V):∃es c,MapOk es c (kvI (setKI a v kv))/\∀m,qam E0 t (.map r) (.int .i64 a) v (stt S m)=some (stt (S.put r (.map es c)) (m.map fun l=>⟨r,0,big,true⟩::⟨r,0,big,false⟩::l)):=by
 obtain⟨es,c,h1,hok⟩:=h;have h2:=hok.1
 have hu:∀m,qam E0 t (.map r) (.int .i64 a) v (stt S m)=(qg7 (.int .i64 a) es 0).bind fun
  | some (i,_)=>some (setO (stt S (m.map fun l=>⟨r,0,big,false⟩::l)) r (.map (qg9 i (.int .i64 a) v es) c))
  | none=>some (setO (stt S (m.map fun l=>⟨r,0,big,false⟩::l)) r (.map (es++[{k:=.int .i64 a,v:=v,born:=c}]) (c+1))):=fun m=>by
  unfold qam;rw[ht,oB];simp only;rw[und3,oB];simp only[qh2,cT];rw[qj8 ho h1 m,oB];rfl
 rw[qlb a kv es 0 h2]at hu;cases hl:lkI a kv with
 | none=>
  refine⟨es++[{k:=.int .i64 a,v:=v,born:=c}],c+1,hok.push _ _ ?_,fun m=>?_⟩
  . rw[qmd a v kv hl]
    unfold qfp kvI at h2 ⊢;rw[List.map_append,List.map_append,h2]; rfl
  . rw[hu m,hl]
    show some (setO _ _ _)=_;rw[qjg ho,qfc]
 | some w=>
  refine⟨qg9 (ixI a kv) (.int .i64 a) v es,c,hok.set _ _ _ (setME_int a v kv es h2 w hl),fun m=>?_⟩;rw[hu m,hl];show some (setO _ _ (.map (qg9 (0+ixI a kv) _ _ _) _))=_;rw[qjg ho,Nat.zero_add,qfc]
theorem upd_str (ho:S.on=false) {r:Nat} {kv:List (List UInt8×Int)} (h:MapAt S r (kvS kv)) (a:List UInt8) (v:Int):∃es c,MapOk es c (kvS (qb1 a v kv))/\∀m,qam E0 63 (.map r) (sv a) (.int .i64 v) (stt S m)=some (stt (S.put r (.map es c)) (m.map fun l=>⟨r,0,big,true⟩::⟨r,0,big,false⟩::l)):=by
 obtain⟨es,c,h1,hok⟩:=h;have h2:=hok.1
 have hu:∀m,qam E0 63 (.map r) (sv a) (.int .i64 v) (stt S m)=(qg7 (sv a) es 0).bind fun
  | some (i,_)=>some (setO (stt S (m.map fun l=>⟨r,0,big,false⟩::l)) r (.map (qg9 i (sv a) (.int .i64 v) es) c))
  | none=>some (setO (stt S (m.map fun l=>⟨r,0,big,false⟩::l)) r (.map (es++[{k:=sv a,v:=.int .i64 v,born:=c}]) (c+1))):=fun m=>by
  unfold qam;rw[und63,oB];simp only;rw[und9',oB];simp only[sv,qh2,cT];rw[qj8 ho h1 m,oB];rfl
 rw[qld a kv es 0 h2]at hu;cases hl:lkS a kv with
 | none=>
  refine⟨es++[{k:=sv a,v:=.int .i64 v,born:=c}],c+1,hok.push _ _ ?_,fun m=>?_⟩
  . rw[qhd a v kv hl]
    unfold qfp kvS at h2 ⊢;rw[List.map_append,List.map_append,h2]; rfl
  . rw[hu m,hl]
    show some (setO _ _ _)=_;rw[qjg ho,qfc]
 | some w=>
  refine⟨qg9 (ixS_ a kv) (sv a) (.int .i64 v) es,c,hok.set _ _ _ (setME_str a v kv es h2 w hl),fun m=>?_⟩;rw[hu m,hl];show some (setO _ _ (.map (qg9 (0+ixS_ a kv) _ _ _) _))=_;rw[qjg ho,Nat.zero_add,qfc]
theorem del_str (ho:S.on=false) {r:Nat} {kv:List (List UInt8×Int)} (h:MapAt S r (kvS kv)) (a:List UInt8) {w:Int} (hl:lkS a kv=some w):∃es c,MapOk es c (kvS (qa9 a kv))/\∀m,qbt E0 63 (.map r) (sv a) (stt S m)=some (stt (S.put r (.map es c)) (m.map fun l=>⟨r,0,big,true⟩::⟨r,0,big,false⟩::l)):=by
 obtain⟨es,c,h1,hok⟩:=h;have h2:=hok.1;refine⟨qdw (ixS_ a kv) es,c,hok.drop _ (dropME_str a kv es h2 w hl),fun m=>?_⟩;unfold qbt;rw[und63,oB];simp only;rw[und9',oB];simp only[sv,qh2,cT];rw[qj8 ho h1 m,oB];simp only;have hm:=qld a kv es 0 h2;unfold sv at hm;rw[hm,hl];show some (setO _ _ (.map (qdw (0+ixS_ a kv) _) _))=_;rw[qjg ho,Nat.zero_add,qfc]
theorem del_int (ho:S.on=false) {t et:TypeId} (ht:und E0 t=some (.map 3 et)) {r:Nat} {kv:List (Int×V)} (h:MapAt S r (kvI kv)) (a:Int) {w:V} (hl:lkI a kv=some w):∃es c,MapOk es c (kvI (qop a kv))/\∀m,qbt E0 t (.map r) (.int .i64 a) (stt S m)=some (stt (S.put r (.map es c)) (m.map fun l=>⟨r,0,big,true⟩::⟨r,0,big,false⟩::l)):=by
 obtain⟨es,c,h1,hok⟩:=h;have h2:=hok.1;refine⟨qdw (ixI a kv) es,c,hok.drop _ (dropME_int a kv es h2 w hl),fun m=>?_⟩;unfold qbt;rw[ht,oB];simp only;rw[und3,oB];simp only[qh2,cT];rw[qj8 ho h1 m,oB];simp only;rw[qlb a kv es 0 h2,hl];show some (setO _ _ (.map (qdw (0+ixI a kv) _) _))=_;rw[qjg ho,Nat.zero_add,qfc]
theorem qh5 (r:Nat) {es:List ME} {c:Nat} {kv:List (V×V)} (h:MapOk es c kv):MapAt (S.put r (.map es c)) r kv:=⟨es,c,by rw[qc4,iP rfl],h⟩
theorem lnMap_of (ho:S.on=false) {r:Nat} {kv:List (V×V)} (h:MapAt S r kv):lnMap (.map r) S=some (.int .i64 (kv.length:Int),S):=by
 obtain⟨es,c,h1,hok⟩:=h;have h2:=hok.1;have hl:es.length=kv.length:=by rw[<- h2]; exact(lM ..).symm
 unfold lnMap;simp only;rw[qni ho h1];simp only[oB,hl];rfl
end
structure Ino where
 kind:Int
 mode:Int
 data:List UInt8
 links:Int
 up:Int
 map:Option Nat
 ents:List (List UInt8×Int)
def qbj (kv:List (List UInt8×Int)) (n:Ino):Ino:={n with ents:=kv}
structure Nod where
 no:Int
 box:Nat
 ino:Ino
structure Tab where
 qi:Int
 qb:Int
 ui:Int
 ub:Int
 last:Int
 nodes:List Nod
def mapV:Option Nat->V
 | none=>.nilmap
 | some m=>.map m
def Ino.cells (i:Ino):List V:=[.int .i64 i.kind,.int .i64 i.mode,sv i.data,.int .i64 i.links,.int .i64 i.up,mapV i.map]
def Tab.cells (T:Tab) (r:Nat):List V:=[.int .i64 T.qi,.int .i64 T.qb,.int .i64 T.ui,.int .i64 T.ub,.map r,.int .i64 T.last]
def kvN (l:List Nod):List (Int×V):=l.map fun p=>(p.no,V.ptr p.box 0)
def qhm (i:Int):List Nod->Option Nod
 | []=>none
 | p::l=>if i=p.no then some p else qhm i l
def Tab.get (T:Tab) (i:Int):Option Nod:=qhm i T.nodes
theorem lkI_kvN (i:Int):∀l,lkI i (kvN l)=(qhm i l).map fun p=>V.ptr p.box 0
 | []=>rfl
 | p::l=>by
  show(if i=p.no then some (V.ptr p.box 0)else lkI i (kvN l))=_;unfold qhm;by_cases h:i=p.no
  . rw[iP h,iP h]; rfl
  . rw[iN h,iN h,lkI_kvN i l]
theorem qar {i:Int}:∀{l:List Nod} {p:Nod},qhm i l=some p->p∈l/\p.no=i
 | [],p,h=>by cases h
 | q::l,p,h=>by
  unfold qhm at h;by_cases hc:i=q.no
  . rw[iP hc]at h
    simp only[oS]at h;subst h;exact⟨List.mem_cons_self ..,hc.symm⟩
  . rw[iN hc]at h
    obtain⟨h1,h2⟩:=qar h;exact⟨mO _ h1,h2⟩
theorem qp4 {i:Int}:∀{l:List Nod},qhm i l=none->∀p∈l,p.no≠i
 | [],_,p,hp=>by cases hp
 | q::l,h,p,hp=>by
  unfold qhm at h;by_cases hc:i=q.no
  . rw[iP hc]at h; cases h
  . rw[iN hc]at h
    rcases List.mem_cons.1 hp with rfl|hp
    . exact fun e=>hc e.symm
    . exact qp4 h p hp
theorem qhn (i:Int) (p:Nod):∀l:List Nod,qhm i (l++[p])=match qhm i l with|some q=>some q|none=>if i=p.no then some p else none
 | []=>rfl
 | q::l=>by
  rw[List.cons_append];unfold qhm;by_cases hc:i=q.no
  . rw[iP hc,iP hc]
  . rw[iN hc,iN hc,qhn i p l]
structure TabAt (S:St) (b r:Nat) (T:Tab):Prop where
 on:S.on=false
 tb:Bx S b 68 (T.cells r)
 nm:MapAt S r (kvI (kvN T.nodes))
 nd:∀p∈T.nodes,Bx S p.box 65 p.ino.cells
 em:∀p∈T.nodes,∀m,p.ino.map=some m->MapAt S m (kvS p.ino.ents)
 no:∀p∈T.nodes,p.ino.map=none->p.ino.ents=[]
 br:b≠r
 nb:∀p∈T.nodes,p.box≠b/\p.box≠r
 mb:∀p∈T.nodes,∀m,p.ino.map=some m->m≠b/\m≠r/\∀q∈T.nodes,m≠q.box
 bb:∀p∈T.nodes,∀q∈T.nodes,p.box=q.box->p.no=q.no
 mm:∀p∈T.nodes,∀q∈T.nodes,∀m,p.ino.map=some m->q.ino.map=some m->p.no=q.no
 key:(T.nodes.map (·.no)).Nodup
 hb:b<S.next
 hr:r<S.next
 hn:∀p∈T.nodes,p.box<S.next
 hm:∀p∈T.nodes,∀m,p.ino.map=some m->m<S.next
theorem key_eq {l:List Nod} (h:(l.map (·.no)).Nodup) {p q:Nod} (hp:p∈l) (hq:q∈l) (e:p.no=q.no):p=q:=by
 induction l with
 | nil=>cases hp
 | cons x l ih=>
  rw[List.map_cons,List.nodup_cons]at h;rcases List.mem_cons.1 hp with rfl|hp'
  . rcases List.mem_cons.1 hq with rfl|hq'
    . rfl
    . exact absurd (List.mem_map.2 ⟨q,hq',e.symm⟩) h.1
  . rcases List.mem_cons.1 hq with rfl|hq'
    . exact absurd (List.mem_map.2 ⟨p,hp',e⟩) h.1
    . exact ih h.2 hp' hq'
theorem getN_of {l:List Nod} (h:(l.map (·.no)).Nodup) {p:Nod} (hp:p∈l):qhm p.no l=some p:=by
 cases hg:qhm p.no l with
 | none=>exact absurd rfl (qp4 hg p hp)
 | some q=>
  obtain⟨h1,h2⟩:=qar hg;rw[key_eq h h1 hp h2]
section
variable {S U:St} {b r:Nat} {T:Tab}
theorem bx_same {e:Nat} {l:List V} {x:Nat} (h:Bx S x e l) (hh:U.heap=S.heap):Bx U x e l:=by unfold Bx at h ⊢; rw[hh]; exact h
theorem MapAt.same {kv:List (V×V)} {x:Nat} (h:MapAt S x kv) (hh:U.heap=S.heap):MapAt U x kv:=by
 obtain⟨es,c,h1,h2⟩:=h;exact⟨es,c,by rw[hh]; exact h1,h2⟩
theorem TabAt.same (h:TabAt S b r T) (ho:U.on=false) (hh:U.heap=S.heap) (hn:U.next=S.next):TabAt U b r T:=
 ⟨ho,bx_same h.tb hh,h.nm.same hh,fun p hp=>bx_same (h.nd p hp) hh,fun p hp m hm=>(h.em p hp m hm).same hh,h.no,h.br,h.nb,h.mb,h.bb,h.mm,h.key,hn▸h.hb,hn▸h.hr,fun p hp=>hn▸h.hn p hp,fun p hp m hm=>hn▸h.hm p hp m hm⟩
theorem TabAt.grew {W:Nat->Prop} (h:TabAt S b r T) (g:Grew W S U) (hw:∀x,W x->x≠b/\x≠r/\∀p∈T.nodes,x≠p.box/\p.ino.map≠some x):TabAt U b r T:=
 ⟨g.on.trans h.on,h.tb.grew h.hb (fun w=>(hw b w).1 rfl) g,h.nm.grew h.hr (fun w=>(hw r w).2.1 rfl) g,
  fun p hp=>(h.nd p hp).grew (h.hn p hp) (fun w=>((hw _ w).2.2 p hp).1 rfl) g,fun p hp m hm=>(h.em p hp m hm).grew (h.hm p hp m hm) (fun w=>((hw _ w).2.2 p hp).2 hm) g,
  h.no,h.br,h.nb,h.mb,h.bb,h.mm,h.key,Nat.lt_of_lt_of_le h.hb g.next,Nat.lt_of_lt_of_le h.hr g.next,fun p hp=>Nat.lt_of_lt_of_le (h.hn p hp) g.next,fun p hp m hm=>Nat.lt_of_lt_of_le (h.hm p hp m hm) g.next⟩
theorem TabAt.grewF (h:TabAt S b r T) (g:Grew (fun _=>False) S U):TabAt U b r T:=h.grew g fun _ w=>w.elim
theorem qdd {x y e:Nat} {l:List V} {o:O} (h:Bx S x e l) (hne:x≠y):Bx (S.put y o) x e l:=by
 unfold Bx at h ⊢;rw[qc4,iN hne]; exact h
theorem qda {x y:Nat} {kv:List (V×V)} {o:O} (h:MapAt S x kv) (hne:x≠y):MapAt (S.put y o) x kv:=by
 obtain⟨es,c,h1,h2⟩:=h;exact⟨es,c,by rw[qc4,iN hne]; exact h1,h2⟩
theorem TabAt.putT (h:TabAt S b r T) {T':Tab} (hn:T'.nodes=T.nodes):TabAt (S.put b (bxO 68 (T'.cells r))) b r T':=by
 refine⟨h.on,qi8 _ _ _,?_,?_,?_,?_,h.br,?_,?_,?_,?_,?_,h.hb,h.hr,?_,?_⟩
 all_goals rw[hn]
 . exact qda h.nm (fun e=>h.br e.symm)
 . exact fun p hp=>qdd (h.nd p hp) (h.nb p hp).1
 . exact fun p hp m hm=>qda (h.em p hp m hm) (h.mb p hp m hm).1
 . exact h.no
 . exact h.nb
 . exact h.mb
 . exact h.bb
 . exact h.mm
 . exact h.key
 . exact h.hn
 . exact h.hm
end
def qfl (i:Int) (f:Ino->Ino) (l:List Nod):List Nod:=l.map fun p=>if p.no=i then{p with ino:=f p.ino}else p
def Tab.upd (T:Tab) (i:Int) (f:Ino->Ino):Tab:={T with nodes:=qfl i f T.nodes}
theorem updN_mem {i:Int} {f:Ino->Ino} {l:List Nod} {q:Nod}:q∈qfl i f l↔∃p∈l,q=if p.no=i then{p with ino:=f p.ino}else p:=by
 unfold qfl;rw[List.mem_map];exact⟨fun⟨p,h1,h2⟩=>⟨p,h1,h2.symm⟩,fun⟨p,h1,h2⟩=>⟨p,h1,h2.symm⟩⟩
theorem qcs (i:Int) (f:Ino->Ino) (l:List Nod):(qfl i f l).map (·.no)=l.map (·.no):=by
 unfold qfl;rw[List.map_map];refine List.map_congr_left fun p _=>?_;show(if p.no=i then({p with ino:=f p.ino}:Nod)else p).no=p.no;split<;>rfl
theorem updN_kv (i:Int) (f:Ino->Ino) (l:List Nod):kvN (qfl i f l)=kvN l:=by
 unfold qfl kvN;rw[List.map_map];refine List.map_congr_left fun p _=>?_;show((if p.no=i then({p with ino:=f p.ino}:Nod)else p).no,V.ptr (if p.no=i then({p with ino:=f p.ino}:Nod)else p).box 0)=_;split<;>rfl
theorem ql3 (i j:Int) (f:Ino->Ino):∀l:List Nod,qhm j (qfl i f l)=(qhm j l).map fun p=>if p.no=i then{p with ino:=f p.ino}else p
 | []=>rfl
 | p::l=>by
  show qhm j ((if p.no=i then({p with ino:=f p.ino}:Nod)else p)::qfl i f l)=_;unfold qhm;have hno:(if p.no=i then({p with ino:=f p.ino}:Nod)else p).no=p.no:=by split<;>rfl
  rw[hno];by_cases hc:j=p.no
  . rw[iP hc,iP hc]; rfl
  . rw[iN hc,iN hc,ql3 i j f l]
theorem qcd {T:Tab} {i:Int} {f:Ino->Ino} {p:Nod} (h:T.get i=some p):(T.upd i f).get i=some {p with ino:=f p.ino}:=by
 show qhm i (qfl i f T.nodes)=_;rw[ql3,show qhm i T.nodes=some p from h,Option.map_some,iP (qar h).2]
theorem qba {T:Tab} {i j:Int} {f:Ino->Ino} (h:j≠i):(T.upd i f).get j=T.get j:=by
 show qhm j (qfl i f T.nodes)=_;rw[ql3];show(T.get j).map _=_;cases hg:T.get j with
 | none=>rfl
 | some p=>rw[Option.map_some,iN (by rw[(qar hg).2]; exact h)]
section
variable {S U:St} {b r:Nat} {T:Tab}
theorem TabAt.putN (h:TabAt S b r T) {i:Int} {p:Nod} (hp:T.get i=some p) (f:Ino->Ino) (hf:(f p.ino).map=p.ino.map) (hf2:(f p.ino).ents=p.ino.ents):TabAt (S.put p.box (bxO 65 (f p.ino).cells)) b r (T.upd i f):=by
 obtain⟨hp1,hp2⟩:=qar hp
 have cases_:∀q∈(T.upd i f).nodes,∃q0∈T.nodes,q.no=q0.no/\q.box=q0.box/\q.ino.map=q0.ino.map/\q.ino.ents=q0.ino.ents/\((q0=p/\q.ino=f p.ino)\/(q0.box≠p.box/\q.ino=q0.ino)):=fun q hq=>by
  obtain⟨q0,h1,rfl⟩:=updN_mem.1 hq;refine⟨q0,h1,?_⟩;by_cases e:q0.no=i
  . have:q0=p:=key_eq h.key h1 hp1 (e.trans hp2.symm)
    subst this;rw[iP e];exact⟨rfl,rfl,hf,hf2,.inl ⟨rfl,rfl⟩⟩
  . rw[iN e]
    exact⟨rfl,rfl,rfl,rfl,.inr ⟨fun e2=>e ((h.bb q0 h1 p hp1 e2).trans hp2),rfl⟩⟩
 refine⟨h.on,qdd h.tb (Ne.symm (h.nb p hp1).1),?_,fun q hq=>?_,fun q hq m hm=>?_,fun q hq hm=>?_,h.br,fun q hq=>?_,fun q hq m hm=>?_,fun q hq q' hq' e=>?_,fun q hq q' hq' m e e'=>?_,?_,h.hb,h.hr,fun q hq=>?_,fun q hq m hm=>?_⟩
 . show MapAt _ r (kvI (kvN (qfl i f T.nodes)))
   rw[updN_kv];exact qda h.nm (Ne.symm (h.nb p hp1).2)
 . obtain⟨q0,h1,e1,e2,e3,e4,h2|h2⟩:=cases_ q hq
   . rw[e2,h2.2,h2.1]; exact qi8 _ _ _
   . rw[e2,h2.2]; exact qdd (h.nd q0 h1) h2.1
 . obtain⟨q0,h1,e1,e2,e3,e4,_⟩:=cases_ q hq
   rw[e4];rw[e3]at hm;exact qda (h.em q0 h1 m hm) ((h.mb q0 h1 m hm).2.2 p hp1)
 . obtain⟨q0,h1,e1,e2,e3,e4,_⟩:=cases_ q hq
   rw[e4]; exact h.no q0 h1 (e3▸hm)
 . obtain⟨q0,h1,e1,e2,_⟩:=cases_ q hq
   rw[e2]; exact h.nb q0 h1
 . obtain⟨q0,h1,e1,e2,e3,e4,_⟩:=cases_ q hq
   obtain⟨k1,k2,k3⟩:=h.mb q0 h1 m (e3▸hm);refine⟨k1,k2,fun x hx=>?_⟩;obtain⟨x0,g1,_,g2,_⟩:=cases_ x hx;rw[g2]; exact k3 x0 g1
 . obtain⟨q0,h1,e1,e2,_⟩:=cases_ q hq
   obtain⟨x0,g1,g3,g2,_⟩:=cases_ q' hq';rw[e1,g3]; exact h.bb q0 h1 x0 g1 (by rw[<- e2,<- g2]; exact e)
 . obtain⟨q0,h1,e1,e2,e3,_⟩:=cases_ q hq
   obtain⟨x0,g1,g3,g2,g4,_⟩:=cases_ q' hq';rw[e1,g3]; exact h.mm q0 h1 x0 g1 m (e3▸e) (g4▸e')
 . show((qfl i f T.nodes).map (·.no)).Nodup
   rw[qcs]; exact h.key
 . obtain⟨q0,h1,e1,e2,_⟩:=cases_ q hq
   rw[e2]; exact h.hn q0 h1
 . obtain⟨q0,h1,e1,e2,e3,_⟩:=cases_ q hq
   exact h.hm q0 h1 m (e3▸hm)
theorem TabAt.putE (h:TabAt S b r T) {i:Int} {p:Nod} (hp:T.get i=some p) {m0:Nat} (hm0:p.ino.map=some m0) {es:List ME} {c:Nat} {kv:List (List UInt8×Int)} (he:MapOk es c (kvS kv)):TabAt (S.put m0 (.map es c)) b r (T.upd i (qbj kv)):=by
 obtain⟨hp1,hp2⟩:=qar hp
 have cases_:∀q∈(T.upd i (qbj kv)).nodes,∃q0∈T.nodes,q.no=q0.no/\q.box=q0.box/\q.ino.map=q0.ino.map/\q.ino.cells=q0.ino.cells/\((q0=p/\q.ino.ents=kv)\/(q0.ino.map≠some m0/\q.ino.ents=q0.ino.ents)):=fun q hq=>by
  obtain⟨q0,h1,rfl⟩:=updN_mem.1 hq;refine⟨q0,h1,?_⟩;by_cases e:q0.no=i
  . have:q0=p:=key_eq h.key h1 hp1 (e.trans hp2.symm)
    subst this;rw[iP e];exact⟨rfl,rfl,rfl,rfl,.inl ⟨rfl,rfl⟩⟩
  . rw[iN e]
    exact⟨rfl,rfl,rfl,rfl,.inr ⟨fun e2=>e ((h.mm q0 h1 p hp1 m0 e2 hm0).trans hp2),rfl⟩⟩
 obtain⟨m1,m2,m3⟩:=h.mb p hp1 m0 hm0;refine⟨h.on,qdd h.tb (Ne.symm m1),?_,fun q hq=>?_,fun q hq m hm=>?_,fun q hq hm=>?_,h.br,fun q hq=>?_,fun q hq m hm=>?_,fun q hq q' hq' e=>?_,fun q hq q' hq' m e e'=>?_,?_,h.hb,h.hr,fun q hq=>?_,fun q hq m hm=>?_⟩
 . show MapAt _ r (kvI (kvN (qfl i _ T.nodes)))
   rw[updN_kv];exact qda h.nm (Ne.symm m2)
 . obtain⟨q0,h1,e1,e2,e3,e4,_⟩:=cases_ q hq
   rw[e2,e4]; exact qdd (h.nd q0 h1) (Ne.symm (m3 q0 h1))
 . obtain⟨q0,h1,e1,e2,e3,e4,h2|h2⟩:=cases_ q hq
   . rw[h2.2]
     rw[e3,h2.1,hm0]at hm;simp only[oS]at hm;subst hm;exact qh5 _ he
   . rw[h2.2]
     rw[e3]at hm;exact qda (h.em q0 h1 m hm) fun e=>h2.1 (e▸hm)
 . obtain⟨q0,h1,e1,e2,e3,e4,h2|h2⟩:=cases_ q hq
   . rw[e3,h2.1,hm0]at hm; cases hm
   . rw[h2.2]; exact h.no q0 h1 (e3▸hm)
 . obtain⟨q0,h1,e1,e2,_⟩:=cases_ q hq
   rw[e2]; exact h.nb q0 h1
 . obtain⟨q0,h1,e1,e2,e3,e4,_⟩:=cases_ q hq
   obtain⟨k1,k2,k3⟩:=h.mb q0 h1 m (e3▸hm);refine⟨k1,k2,fun x hx=>?_⟩;obtain⟨x0,g1,_,g2,_⟩:=cases_ x hx;rw[g2]; exact k3 x0 g1
 . obtain⟨q0,h1,e1,e2,_⟩:=cases_ q hq
   obtain⟨x0,g1,g3,g2,_⟩:=cases_ q' hq';rw[e1,g3]; exact h.bb q0 h1 x0 g1 (by rw[<- e2,<- g2]; exact e)
 . obtain⟨q0,h1,e1,e2,e3,_⟩:=cases_ q hq
   obtain⟨x0,g1,g3,g2,g4,_⟩:=cases_ q' hq';rw[e1,g3]; exact h.mm q0 h1 x0 g1 m (e3▸e) (g4▸e')
 . show((qfl i _ T.nodes).map (·.no)).Nodup
   rw[qcs]; exact h.key
 . obtain⟨q0,h1,e1,e2,_⟩:=cases_ q hq
   rw[e2]; exact h.hn q0 h1
 . obtain⟨q0,h1,e1,e2,e3,_⟩:=cases_ q hq
   exact h.hm q0 h1 m (e3▸hm)
end
def delN (i:Int):List Nod->List Nod
 | []=>[]
 | p::l=>if i=p.no then l else p::delN i l
def Tab.del (T:Tab) (i:Int):Tab:={T with nodes:=delN i T.nodes}
theorem delN_kv (i:Int):∀l,qop i (kvN l)=kvN (delN i l)
 | []=>rfl
 | p::l=>by
  show(if i=p.no then kvN l else(p.no,V.ptr p.box 0)::qop i (kvN l))=_;unfold delN;by_cases h:i=p.no
  . rw[iP h,iP h]
  . rw[iN h,iN h,delN_kv i l]; rfl
theorem qku (i:Int):∀l:List Nod,(delN i l).Sublist l
 | []=>List.Sublist.refl _
 | p::l=>by
  unfold delN;by_cases h:i=p.no
  . rw[iP h]; exact List.sublist_cons_self ..
  . rw[iN h]; exact(qku i l).cons_cons _
theorem qho {i:Int}:∀{l:List Nod},(l.map (·.no)).Nodup->qhm i (delN i l)=none
 | [],_=>rfl
 | p::l,h=>by
  rw[List.map_cons,List.nodup_cons]at h;unfold delN;by_cases hc:i=p.no
  . rw[iP hc]
    cases hg:qhm i l with
    | none=>rfl
    | some q=>
     obtain⟨h1,h2⟩:=qar hg;exact absurd (List.mem_map.2 ⟨q,h1,h2.trans hc⟩) h.1
  . rw[iN hc]
    unfold qhm;rw[iN hc]; exact qho h.2
theorem qgm {i j:Int} (hij:j≠i):∀l:List Nod,qhm j (delN i l)=qhm j l
 | []=>rfl
 | p::l=>by
  unfold delN;by_cases hc:i=p.no
  . rw[iP hc]
    show _=(if j=p.no then some p else qhm j l)
    rw[iN (by rw[<- hc]; exact hij)]
  . rw[iN hc]
    show(if j=p.no then some p else qhm j (delN i l))=(if j=p.no then some p else qhm j l)
    rw[qgm hij l]
section
variable {S U:St} {b r:Nat} {T:Tab}
theorem TabAt.putD (h:TabAt S b r T) (i:Int) {es:List ME} {c:Nat} (he:MapOk es c (kvI (qop i (kvN T.nodes)))):TabAt (S.put r (.map es c)) b r (T.del i):=by
 have hs:∀p∈(T.del i).nodes,p∈T.nodes:=fun p hp=>(qku i T.nodes).subset hp;refine⟨h.on,qdd h.tb h.br,?_,fun q hq=>qdd (h.nd q (hs q hq)) (h.nb q (hs q hq)).2,fun q hq m hm=>qda (h.em q (hs q hq) m hm) (h.mb q (hs q hq) m hm).2.1,fun q hq=>h.no q (hs q hq),h.br,fun q hq=>h.nb q (hs q hq),fun q hq m hm=>⟨(h.mb q (hs q hq) m hm).1,(h.mb q (hs q hq) m hm).2.1,fun x hx=>(h.mb q (hs q hq) m hm).2.2 x (hs x hx)⟩,fun q hq q' hq'=>h.bb q (hs q hq) q' (hs q' hq'),fun q hq q' hq'=>h.mm q (hs q hq) q' (hs q' hq'),?_,h.hb,h.hr,fun q hq=>h.hn q (hs q hq),fun q hq=>h.hm q (hs q hq)⟩
 . refine qh5 _ ?_
   rw[delN_kv]at he;exact he
 . exact h.key.sublist ((qku i T.nodes).map _)
theorem TabAt.putA (h:TabAt S b r T) (p:Nod) (hk:∀q∈T.nodes,q.no≠p.no) (hbx:Bx S p.box 65 p.ino.cells) (hmp:∀m,p.ino.map=some m->MapAt S m (kvS p.ino.ents)) (hno:p.ino.map=none->p.ino.ents=[])
 (N:Nat) (hN:b<N/\r<N/\∀q∈T.nodes,q.box<N/\∀m,q.ino.map=some m->m<N) (hp1:N<=p.box/\p.box<S.next) (hp2:∀m,p.ino.map=some m->N<=m/\m<S.next/\m≠p.box)
 {es:List ME} {c:Nat} (he:MapOk es c (kvI (kvN T.nodes++[(p.no,V.ptr p.box 0)]))):TabAt (S.put r (.map es c)) b r {T with nodes:=T.nodes++[p]}:=by
 obtain⟨N1,N2,N3⟩:=hN;have cs:∀q∈T.nodes++[p],q∈T.nodes\/q=p:=fun q hq=>by simpa using hq
 refine⟨h.on,qdd h.tb h.br,?_,fun q hq=>?_,fun q hq m hm=>?_,fun q hq hm=>?_,h.br,fun q hq=>?_,fun q hq m hm=>?_,fun q hq q' hq' e=>?_,fun q hq q' hq' m e e'=>?_,?_,h.hb,h.hr,fun q hq=>?_,fun q hq m hm=>?_⟩
 . refine qh5 _ ?_
   show MapOk es c (kvI (kvN (T.nodes++[p])));unfold kvN at he ⊢;rw[List.map_append]; exact he
 . rcases cs q hq with hq|rfl
   . exact qdd (h.nd q hq) (h.nb q hq).2
   . exact qdd hbx (by omega)
 . rcases cs q hq with hq|rfl
   . exact qda (h.em q hq m hm) (h.mb q hq m hm).2.1
   . exact qda (hmp m hm) (by have:=hp2 m hm; omega)
 . rcases cs q hq with hq|rfl
   . exact h.no q hq hm
   . exact hno hm
 . rcases cs q hq with hq|rfl
   . exact h.nb q hq
   . exact⟨by omega,by omega⟩
 . rcases cs q hq with hq0|rfl
   . obtain⟨k1,k2,k3⟩:=h.mb q hq0 m hm
     refine⟨k1,k2,fun x hx=>?_⟩;rcases cs x hx with hx|rfl
     . exact k3 x hx
     . have:=(N3 q hq0).2 m hm; omega
   . have h2:=hp2 m hm
     refine⟨by omega,by omega,fun x hx=>?_⟩;rcases cs x hx with hx|rfl
     . have:=(N3 x hx).1; omega
     . exact h2.2.2
 . rcases cs q hq with k1|rfl<;>rcases cs q' hq' with k2|rfl
   . exact h.bb q k1 q' k2 e
   . have:=(N3 q k1).1; omega
   . have:=(N3 q' k2).1; omega
   . rfl
 . rcases cs q hq with k1|rfl<;>rcases cs q' hq' with k2|rfl
   . exact h.mm q k1 q' k2 m e e'
   . have:=(N3 q k1).2 m e; have:=hp2 m e'; omega
   . have:=(N3 q' k2).2 m e'; have:=hp2 m e; omega
   . rfl
 . show((T.nodes++[p]).map (·.no)).Nodup
   rw[List.map_append,List.nodup_append];refine⟨h.key,by simp,fun a ha c hc=>?_⟩;obtain⟨q,hq,rfl⟩:=List.mem_map.1 ha;simp only[List.map_cons,List.map_nil,List.mem_singleton]at hc;rw[hc]; exact hk q hq
 . rcases cs q hq with hq|rfl
   . exact h.hn q hq
   . exact hp1.2
 . rcases cs q hq with hq|rfl
   . exact h.hm q hq m hm
   . exact(hp2 m hm).2.1
end
theorem rd25 {n:Nat} {args:List V} {s:St} {r:En×St} (e:qb6 E0 (ev E0 KD n) qa4 Try.f25 B25 args s=some r):(ev E0 KD (n+1)).f 25 args s=some r:=qaa (c:=C25) (d:=B25) (by kernel_rfl) (by kernel_rfl) (qa5 C25 _ (by kernel_rfl)) rfl e
theorem rd27 {n:Nat} {args:List V} {s:St} {r:En×St} (e:qb6 E0 (ev E0 KD n) qa4 Try.f27 B27 args s=some r):(ev E0 KD (n+1)).f 27 args s=some r:=qaa (c:=C27) (d:=B27) (by kernel_rfl) (by kernel_rfl) (qa5 C27 _ (by kernel_rfl)) rfl e
theorem rd28 {n:Nat} {args:List V} {s:St} {r:En×St} (e:qb6 E0 (ev E0 KD n) qa4 Try.f28 B28 args s=some r):(ev E0 KD (n+1)).f 28 args s=some r:=qaa (c:=C28) (d:=B28) (by kernel_rfl) (by kernel_rfl) (qa5 C28 _ (by kernel_rfl)) rfl e
theorem rd29 {n:Nat} {args:List V} {s:St} {r:En×St} (e:qb6 E0 (ev E0 KD n) qa4 Try.f29 B29 args s=some r):(ev E0 KD (n+1)).f 29 args s=some r:=qaa (c:=C29) (d:=B29) (by kernel_rfl) (by kernel_rfl) (qa5 C29 _ (by kernel_rfl)) rfl e
theorem rd30 {n:Nat} {args:List V} {s:St} {r:En×St} (e:qb6 E0 (ev E0 KD n) qa4 Try.f30 B30 args s=some r):(ev E0 KD (n+1)).f 30 args s=some r:=qaa (c:=C30) (d:=B30) (by kernel_rfl) (by kernel_rfl) (qa5 C30 _ (by kernel_rfl)) rfl e
theorem rd32 {n:Nat} {args:List V} {s:St} {r:En×St} (e:qb6 E0 (ev E0 KD n) qa4 Try.f32 B32 args s=some r):(ev E0 KD (n+1)).f 32 args s=some r:=qaa (c:=C32) (d:=B32) (by kernel_rfl) (by kernel_rfl) (qa5 C32 _ (by kernel_rfl)) rfl e
theorem rd33 {n:Nat} {args:List V} {s:St} {r:En×St} (e:qb6 E0 (ev E0 KD n) qa4 Try.f33 B33 args s=some r):(ev E0 KD (n+1)).f 33 args s=some r:=qaa (c:=C33) (d:=B33) (by kernel_rfl) (by kernel_rfl) (qa5 C33 _ (by kernel_rfl)) rfl e
theorem rd37 {n:Nat} {args:List V} {s:St} {r:En×St} (e:qb6 E0 (ev E0 KD n) qa4 Try.f37 B37 args s=some r):(ev E0 KD (n+1)).f 37 args s=some r:=qaa (c:=C37) (d:=B37) (by kernel_rfl) (by kernel_rfl) (qa5 C37 _ (by kernel_rfl)) rfl e
theorem rd26 {n:Nat} {args:List V} {s:St} {r:En×St} (e:qb6 E0 (ev E0 KD n) qa4 Try.f26 B26 args s=some r):(ev E0 KD (n+1)).f 26 args s=some r:=qaa (c:=C26) (d:=B26) (by kernel_rfl) (by kernel_rfl) (qa5 C26 _ (by kernel_rfl)) rfl e
theorem rd35 {n:Nat} {args:List V} {s:St} {r:En×St} (e:qb6 E0 (ev E0 KD n) qa4 Try.f35 B35 args s=some r):(ev E0 KD (n+1)).f 35 args s=some r:=qaa (c:=C35) (d:=B35) (by kernel_rfl) (by kernel_rfl) (qa5 C35 _ (by kernel_rfl)) rfl e
theorem rd17 {n:Nat} {args:List V} {s:St} {r:En×St} (e:qb6 E0 (ev E0 KD n) qa4 Try.f17 B17 args s=some r):(ev E0 KD (n+1)).f 17 args s=some r:=qaa (c:=C17) (d:=B17) (by kernel_rfl) (by kernel_rfl) (qa5 C17 _ (by kernel_rfl)) rfl e
theorem rd57 {n:Nat} {args:List V} {s:St} {r:En×St} (e:qb6 E0 (ev E0 KD n) qa4 Try.f57 B57 args s=some r):(ev E0 KD (n+1)).f 57 args s=some r:=qaa (c:=C57) (d:=B57) (by kernel_rfl) (by kernel_rfl) (qa5 C57 _ (by kernel_rfl)) rfl e
theorem rd58 {n:Nat} {args:List V} {s:St} {r:En×St} (e:qb6 E0 (ev E0 KD n) qa4 Try.f58 B58 args s=some r):(ev E0 KD (n+1)).f 58 args s=some r:=qaa (c:=C58) (d:=B58) (by kernel_rfl) (by kernel_rfl) (qa5 C58 _ (by kernel_rfl)) rfl e
theorem rd60 {n:Nat} {args:List V} {s:St} {r:En×St} (e:qb6 E0 (ev E0 KD n) qa4 Try.f60 B60 args s=some r):(ev E0 KD (n+1)).f 60 args s=some r:=qaa (c:=C60) (d:=B60) (by kernel_rfl) (by kernel_rfl) (qa5 C60 _ (by kernel_rfl)) rfl e
theorem rd61 {n:Nat} {args:List V} {s:St} {r:En×St} (e:qb6 E0 (ev E0 KD n) qa4 Try.f61 B61 args s=some r):(ev E0 KD (n+1)).f 61 args s=some r:=qaa (c:=C61) (d:=B61) (by kernel_rfl) (by kernel_rfl) (qa5 C61 _ (by kernel_rfl)) rfl e
theorem rd62 {n:Nat} {args:List V} {s:St} {r:En×St} (e:qb6 E0 (ev E0 KD n) qa4 Try.f62 B62 args s=some r):(ev E0 KD (n+1)).f 62 args s=some r:=qaa (c:=C62) (d:=B62) (by kernel_rfl) (by kernel_rfl) (qa5 C62 _ (by kernel_rfl)) rfl e
theorem rd63 {n:Nat} {args:List V} {s:St} {r:En×St} (e:qb6 E0 (ev E0 KD n) qa4 Try.f63 B63 args s=some r):(ev E0 KD (n+1)).f 63 args s=some r:=qaa (c:=C63) (d:=B63) (by kernel_rfl) (by kernel_rfl) (qa5 C63 _ (by kernel_rfl)) rfl e
theorem rd34 {n:Nat} {args:List V} {s:St} {r:En×St} (e:qb6 E0 (ev E0 KD n) qa4 Try.f34 B34 args s=some r):(ev E0 KD (n+1)).f 34 args s=some r:=qaa (c:=C34) (d:=B34) (by kernel_rfl) (by kernel_rfl) (qa5 C34 _ (by kernel_rfl)) rfl e
theorem rd31 {n:Nat} {args:List V} {s:St} {r:En×St} (e:qb6 E0 (ev E0 KD n) qa4 Try.f31 B31 args s=some r):(ev E0 KD (n+1)).f 31 args s=some r:=qaa (c:=C31) (d:=B31) (by kernel_rfl) (by kernel_rfl) (qa5 C31 _ (by kernel_rfl)) rfl e
theorem rd36 {n:Nat} {args:List V} {s:St} {r:En×St} (e:qb6 E0 (ev E0 KD n) qa4 Try.f36 B36 args s=some r):(ev E0 KD (n+1)).f 36 args s=some r:=qaa (c:=C36) (d:=B36) (by kernel_rfl) (by kernel_rfl) (qa5 C36 _ (by kernel_rfl)) rfl e
theorem rd23 {n:Nat} {args:List V} {s:St} {r:En×St} (e:qb6 E0 (ev E0 KD n) qa4 Try.f23 B23 args s=some r):(ev E0 KD (n+1)).f 23 args s=some r:=qaa (c:=C23) (d:=B23) (by kernel_rfl) (by kernel_rfl) (qa5 C23 _ (by kernel_rfl)) rfl e
theorem rd7 {n:Nat} {args:List V} {s:St} {r:En×St} (e:qb6 E0 (ev E0 KD n) qa4 Try.f7 B7 args s=some r):(ev E0 KD (n+1)).f 7 args s=some r:=qaa (c:=C7) (d:=B7) (by kernel_rfl) (by kernel_rfl) (qa5 C7 _ (by kernel_rfl)) rfl e
theorem rd11 {n:Nat} {args:List V} {s:St} {r:En×St} (e:qb6 E0 (ev E0 KD n) qa4 Try.f11 B11 args s=some r):(ev E0 KD (n+1)).f 11 args s=some r:=qaa (c:=C11) (d:=B11) (by kernel_rfl) (by kernel_rfl) (qa5 C11 _ (by kernel_rfl)) rfl e
theorem rd12 {n:Nat} {args:List V} {s:St} {r:En×St} (e:qb6 E0 (ev E0 KD n) qa4 Try.f12 B12 args s=some r):(ev E0 KD (n+1)).f 12 args s=some r:=qaa (c:=C12) (d:=B12) (by kernel_rfl) (by kernel_rfl) (qa5 C12 _ (by kernel_rfl)) rfl e
theorem rd13 {n:Nat} {args:List V} {s:St} {r:En×St} (e:qb6 E0 (ev E0 KD n) qa4 Try.f13 B13 args s=some r):(ev E0 KD (n+1)).f 13 args s=some r:=qaa (c:=C13) (d:=B13) (by kernel_rfl) (by kernel_rfl) (qa5 C13 _ (by kernel_rfl)) rfl e
theorem rd8 {n:Nat} {args:List V} {s:St} {r:En×St} (e:qb6 E0 (ev E0 KD n) qa4 Try.f8 B8 args s=some r):(ev E0 KD (n+1)).f 8 args s=some r:=qaa (c:=C8) (d:=B8) (by kernel_rfl) (by kernel_rfl) (qa5 C8 _ (by kernel_rfl)) rfl e
theorem rd9 {n:Nat} {args:List V} {s:St} {r:En×St} (e:qb6 E0 (ev E0 KD n) qa4 Try.f9 B9 args s=some r):(ev E0 KD (n+1)).f 9 args s=some r:=qaa (c:=C9) (d:=B9) (by kernel_rfl) (by kernel_rfl) (qa5 C9 _ (by kernel_rfl)) rfl e
theorem rd10 {n:Nat} {args:List V} {s:St} {r:En×St} (e:qb6 E0 (ev E0 KD n) qa4 Try.f10 B10 args s=some r):(ev E0 KD (n+1)).f 10 args s=some r:=qaa (c:=C10) (d:=B10) (by kernel_rfl) (by kernel_rfl) (qa5 C10 _ (by kernel_rfl)) rfl e
theorem rd14 {n:Nat} {args:List V} {s:St} {r:En×St} (e:qb6 E0 (ev E0 KD n) qa4 Try.f14 B14 args s=some r):(ev E0 KD (n+1)).f 14 args s=some r:=qaa (c:=C14) (d:=B14) (by kernel_rfl) (by kernel_rfl) (qa5 C14 _ (by kernel_rfl)) rfl e
theorem qc5 (b:Nat):qa2 (.ptr b 0)=some (.ptr b 0):=rfl
theorem qax (off k o:Nat) (g:Bool) (b:Nat):faP off g (k+1) (.ptr b o)=some (.ptr b (o+off)):=faP_ptr off g k b o
theorem eq62p (b:Nat):qa6 E0 .eql 62 false true (.ptr b 0) .nilptr=some (.bool false):=by kernel_rfl
theorem eq62n:qa6 E0 .eql 62 false true .nilptr .nilptr=some (.bool true):=by kernel_rfl
theorem eq23p (b:Nat):qa6 E0 .eql 23 false true (.ptr b 0) .nilptr=some (.bool false):=by kernel_rfl
theorem ne23p (b:Nat):qa6 E0 .neq 23 false true (.ptr b 0) .nilptr=some (.bool true):=by kernel_rfl
theorem qci {f:FuncId} (h:f≠77):E0.ext.get f=none:=by
 cases hx:E0.ext.get f with
 | none=>rfl
 | some k=>
  have:(f,k)∈[(77,1)]:=ql7 (l:=[(77,1)]) hx;simp at this;exact absurd this.1 h
theorem qby (m:Nat) (is:Bool) (e:Int) (S:St):(ev E0 KD (m+1)).f 25 [.bool is,.int .i64 e] S=some (.ret (.int .i64 (if is then 0 else e)),S):=
 rd25 (by
  show F25 (ev E0 KD m) qa4 (.bool is) (.int .i64 e) S=_;rw[F25_eq]
  cases is<;>rfl)
section
variable {S:St} {b r:Nat} {T:Tab}
theorem big6:6<big:=by unfold big; decide
theorem Bx6.ld (ho:S.on=false) {x e:Nat} {l:List V} (h:Bx S x e l) (hl:l.length<big) {i:Nat} {v:V} (hv:l[i]?=some v):ld1 (.ptr x i) S=some (v,S):=by
 obtain⟨hi,he⟩:=List.getElem?_eq_some_iff.1 hv;rw[h.ld1 ho i hi hl,he]
theorem TabAt.ld (h:TabAt S b r T) {i:Nat} {v:V} (hv:(T.cells r)[i]?=some v):ld1 (.ptr b i) S=some (v,S):=Bx6.ld h.on h.tb big6 hv
theorem there_run (m:Nat) (S:St) (b:Nat):(ev E0 KD (m+2)).f 27 [.ptr b 0] S=some (.ret (.int .i64 0),S):=
 rd27 (by
  show F27 (ev E0 KD (m+1)) qa4 (.ptr b 0) S=_
  rw[F27_eq,ne23p,oB,qby,callP_ret]; rfl)
def qjw:Option Nod->V
 | some p=>.ptr p.box 0
 | none=>.nilptr
theorem look_tab (h:TabAt S b r T) (i:Int) (m:Option (List LE)):qal E0 66 (.map r) (.int .i64 i) false (stt S m)=some (qjw (T.get i),stt S (m.map fun l=>⟨r,0,big,false⟩::l)):=by
 rw[look_int h.on und66 zero62 h.nm i m,lkI_kvN];show some (((T.get i).map fun p=>V.ptr p.box 0).getD V.nilptr,_)=_;cases T.get i<;>rfl
theorem qer (h:TabAt S b r T) (i:Int):qal E0 66 (.map r) (.int .i64 i) false S=some (qjw (T.get i),S):=look_tab h i none
theorem qhp (h:TabAt S b r T) (m:Nat) (i:Int):(ev E0 KD (m+1)).f 35 [.ptr b 0,.int .i64 i] S=some (.ret (qjw (T.get i)),S):=
 rd35 (by
  show F35 (ev E0 KD m) qa4 (.ptr b 0) (.int .i64 i) S=_;rw[F35_eq,eq23p,oB,ifK_bool,cF,qc5,oB,qax,oB,Nat.zero_add,h.ld (v:=.map r) rfl,oB];dsimp only
  rw[qer h i,oB])
theorem TabAt.nd1 (h:TabAt S b r T) {i:Int} {p:Nod} (hp:T.get i=some p) {k:Nat} {v:V} (hv:p.ino.cells[k]?=some v):ld1 (.ptr p.box k) S=some (v,S):=Bx6.ld h.on (h.nd p (qar hp).1) big6 hv
theorem TabAt.ents (h:TabAt S b r T) {i:Int} {p:Nod} (hp:T.get i=some p) (a:List UInt8):qal E0 63 (mapV p.ino.map) (sv a) true S=some (.tuple [.int .i64 ((lkS a p.ino.ents).getD 0),.bool (lkS a p.ino.ents).isSome],S):=by
 cases hm:p.ino.map with
 | none=>
  rw[h.no p (qar hp).1 hm];exact look_nil a S
 | some m=>exact look_str h.on (h.em p (qar hp).1 m hm) a none
def Tab.find (T:Tab) (d:Int) (a:List UInt8):Option Int:=(T.get d).bind fun p=>lkS a p.ino.ents
theorem qj7 (h:TabAt S b r T) (m:Nat) (d:Int) (a:List UInt8):(ev E0 KD (m+2)).f 13 [.ptr b 0,.int .i64 d,sv a] S=some (.ret (.tuple [.int .i64 ((T.find d a).getD 0),.bool (T.find d a).isSome]),S):=
 rd13 (by
  show F13 (ev E0 KD (m+1)) qa4 (.ptr b 0) (.int .i64 d) (sv a) S=_;rw[F13_eq,qhp h m d,callP_ret];unfold Tab.find;cases hg:T.get d with
  | none=>
   unfold qjw;rw[eq62n,oB,ifK_bool,cT]; rfl
  | some p=>
   unfold qjw;dsimp only;rw[eq62p,oB,ifK_bool,cF,qc5,oB,qax,oB,Nat.zero_add,h.nd1 hg (v:=mapV p.ino.map) rfl,oB];dsimp only;rw[h.ents hg,oB]
   rfl)
theorem build_35 (a c:Int) (d:List UInt8) (l:Int):qb9 E0 35 [(0,.int .i64 a),(1,.int .i64 c),(2,sv d),(3,.int .i64 l)]=some (qbz [.int .i64 a,.int .i64 c,sv d,.int .i64 l]):=by kernel_rfl
theorem cells_4 (a b c d e f:V):qfo (Tr.ofListFrom .nil [Tr.ofListFrom .nil [a,b,c,d,e,f] 0] 0) 6 0 4 0 .nil=Tr.ofListFrom .nil [a,b,c,d] 0:=by kernel_rfl
theorem cells_22 (a b c d e f:V):qfo (Tr.ofListFrom .nil [Tr.ofListFrom .nil [a,b,c,d,e,f] 0] 0) 6 2 2 0 .nil=Tr.ofListFrom .nil [c,d] 0:=by kernel_rfl
theorem TabAt.node4 (h:TabAt S b r T) {i:Int} {p:Nod} (hp:T.get i=some p):Ev.ldA 4 (.ptr p.box 0) S=some (qbz [.int .i64 p.ino.kind,.int .i64 p.ino.mode,sv p.ino.data,.int .i64 p.ino.links],S):=by
 have hb:=h.nd p (qar hp).1;unfold Bx at hb;have hl:p.ino.cells.length=6:=rfl;rw[hl]at hb;show((ldK S p.box 0 4).bind fun q=>some (V.agg 4 q.1,q.2))=_;unfold ldK;rw[hb];simp only[show Nat.ble (0+4) (6*1)=true from rfl,show Nat.blt (6*1) big=true from by unfold big; decide,Bool.and_self,cT];unfold qf3;rw[show Nat.beq 4 6=false from rfl];simp only[Bool.false_and,cF,oB,qb3 h.on];unfold Ino.cells;rw[cells_4]; rfl
theorem TabAt.used2 (h:TabAt S b r T):Ev.ldA 2 (.ptr b 2) S=some (qbz [.int .i64 T.ui,.int .i64 T.ub],S):=by
 have hb:=h.tb;unfold Bx at hb;have hl:(T.cells r).length=6:=rfl;rw[hl]at hb;show((ldK S b 2 2).bind fun q=>some (V.agg 2 q.1,q.2))=_;unfold ldK;rw[hb];simp only[show Nat.ble (2+2) (6*1)=true from rfl,show Nat.blt (6*1) big=true from by unfold big; decide,Bool.and_self,cT];unfold qf3;rw[show Nat.beq 2 6=false from rfl];simp only[Bool.false_and,cF,oB,qb3 h.on];unfold Tab.cells;rw[cells_22]; rfl
theorem big2:2<big:=by unfold big; decide
theorem big4:4<big:=by unfold big; decide
theorem used_run (h:TabAt S b r T) (m:Nat):∃U,(ev E0 KD (m+1)).f 11 [.ptr b 0] S=some (.ret (qbz [.int .i64 T.ui,.int .i64 T.ub]),U)/\TabAt U b r T/\Grew (fun _=>False) S U:=by
 have h1:=h.grewF (ag_new h.on 26 2 (Tr.ofListFrom .nil [(.int .i64 0),(.int .i64 0)] 0)).2.1;obtain⟨U,s1,s2,s3,s4⟩:=qf2 h.on 26 2 (Tr.ofListFrom .nil [(.int .i64 0),(.int .i64 0)] 0) [.int .i64 T.ui,.int .i64 T.ub] rfl (by decide) big2;have h2:=h.grewF s3;refine⟨U,rd11 ?_,h2,s3⟩;show F11 (ev E0 KD m) qa4 (.ptr b 0) S=_;rw[F11_eq,oB,eq23p,oB,ifK_bool,cF,qc5,oB,qax,oB,Nat.zero_add,h1.used2,oB];dsimp only;rw[qdz,s1,oB];dsimp only;rw[show Ev.ldrA 2 (.ptr S.next 0) U=some (qbz [.int .i64 T.ui,.int .i64 T.ub],U)from s2.ldA h2.on rfl big2,oB]
theorem node_run (h:TabAt S b r T) (m:Nat) (i:Int) {p:Nod} (hp:T.get i=some p):∃U,(ev E0 KD (m+2)).f 12 [.ptr b 0,.int .i64 i] S=some (.ret (.tuple [qbz [.int .i64 p.ino.kind,.int .i64 p.ino.mode,sv p.ino.data,.int .i64 p.ino.links],.bool true]),U)/\TabAt U b r T/\Grew (fun _=>False) S U:=by
 have h1:=h.grewF (ag_new h.on 35 4 (Tr.ofListFrom .nil [(.int .i64 0),(.int .i64 0),(sv []),(.int .i64 0)] 0)).2.1;obtain⟨U,s1,s2,s3,s4⟩:=qf2 h.on 35 4 (Tr.ofListFrom .nil [(.int .i64 0),(.int .i64 0),(sv []),(.int .i64 0)] 0) [.int .i64 p.ino.kind,.int .i64 p.ino.mode,sv p.ino.data,.int .i64 p.ino.links] rfl (by decide) big4;have h2:=h.grewF s3;refine⟨U,rd12 ?_,h2,s3⟩;show F12 (ev E0 KD (m+1)) qa4 (.ptr b 0) (.int .i64 i) S=_;rw[F12_eq,oB,qhp h1 m i,callP_ret,hp];unfold qjw;dsimp only;rw[eq62p,oB,ifK_bool,cF,qc5,oB,qax,oB,Nat.zero_add,h1.node4 hp,oB];dsimp only;rw[qdz,s1,oB];dsimp only;rw[show Ev.ldrA 4 (.ptr S.next 0) U=some (qbz [.int .i64 p.ino.kind,.int .i64 p.ino.mode,sv p.ino.data,.int .i64 p.ino.links],U)from s2.ldA h2.on rfl big4,oB]
theorem build35:qb9 E0 35 []=some (qbz [.int .i64 0,.int .i64 0,sv [],.int .i64 0]):=by kernel_rfl
theorem node_none (h:TabAt S b r T) (m:Nat) (i:Int) (hp:T.get i=none):∃U,(ev E0 KD (m+2)).f 12 [.ptr b 0,.int .i64 i] S=some (.ret (.tuple [qbz [.int .i64 0,.int .i64 0,sv [],.int .i64 0],.bool false]),U)/\TabAt U b r T/\Grew (fun _=>False) S U:=by
 have h1:=h.grewF (ag_new h.on 35 4 (Tr.ofListFrom .nil [(.int .i64 0),(.int .i64 0),(sv []),(.int .i64 0)] 0)).2.1;obtain⟨U,s1,s2,s3,s4⟩:=qf2 h.on 35 4 (Tr.ofListFrom .nil [(.int .i64 0),(.int .i64 0),(sv []),(.int .i64 0)] 0) [.int .i64 0,.int .i64 0,sv [],.int .i64 0] rfl (by decide) big4;have h2:=h.grewF s3;refine⟨U,rd12 ?_,h2,s3⟩;show F12 (ev E0 KD (m+1)) qa4 (.ptr b 0) (.int .i64 i) S=_;rw[F12_eq,oB,qhp h1 m i,callP_ret,hp];unfold qjw;dsimp only;rw[eq62n,oB,ifK_bool,cT,build35,oB,qdz,s1,oB];dsimp only;rw[show Ev.ldrA 4 (.ptr S.next 0) U=some (qbz [.int .i64 0,.int .i64 0,sv [],.int .i64 0],U)from s2.ldA h2.on rfl big4,oB]
theorem up_run (h:TabAt S b r T) (m:Nat) (i:Int):(ev E0 KD (m+2)).f 17 [.ptr b 0,.int .i64 i] S=some (.ret (.int .i64 (match T.get i with|some p=>p.ino.up|none=>0)),S):=
 rd17 (by
  show F17 (ev E0 KD (m+1)) qa4 (.ptr b 0) (.int .i64 i) S=_;rw[F17_eq,qhp h m i,callP_ret];cases hg:T.get i with
  | none=>
   unfold qjw;rw[eq62n,oB,ifK_bool,cT]
  | some p=>
   unfold qjw;dsimp only
   rw[eq62p,oB,ifK_bool,cF,qc5,oB,qax,oB,Nat.zero_add,h.nd1 hg (v:=.int .i64 p.ino.up) rfl,oB])
end
end Go.Proofs.Ytbihlgcdnhoknaa.W
