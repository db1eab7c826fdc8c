/-
  WHAT THE FUNCTIONS COME TO: each is read by the evaluator,printed,and told as a function of data,part 6 of 15 (no condition).
-/
import Derived.Test.YtpgegoeghaplkaaGreatDoorW5
noncomputable section
namespace Go.Proofs.YtpgegoeghaplkaaGreatDoor.W
open Go.Proofs.YtpgegoeghaplkaaGreatDoor.Ev Go.RowKit
def w32 (x:UInt32):V:=.int .u32 (x.toNat:Int)
theorem qin (x:UInt32):qcc .u32 (x.toNat:Int)=x.toNat:=by
 have:=x.toNat_lt;show x.toNat%qbo .u32=_;rw[show qbo .u32=4294967296 from rfl]; omega
theorem u32_of {n:Nat} (h:n<4294967296):qdu .u32 n=(n:Int):=by
 unfold qdu;rw[show Nat.blt n (qdb .u32)=true from blt_true.2 h]; rfl
theorem qjw (n:Nat):IntKind.u32.wrap (n:Int)=((n%4294967296:Nat):Int):=by
 unfold IntKind.wrap;have e1:IntKind.u32.bits=32:=rfl;have e2:IntKind.u32.signed=false:=rfl;simp only[e1,e2,Bool.false_and,Bool.false_eq_true,if_false];omega
theorem u8_wrap (n:Nat):IntKind.u8.wrap (n:Int)=((n%256:Nat):Int):=by
 unfold IntKind.wrap;have e1:IntKind.u8.bits=8:=rfl;have e2:IntKind.u8.signed=false:=rfl;simp only[e1,e2,Bool.false_and,Bool.false_eq_true,if_false];omega
def sr (x:UInt32) (n:Nat):UInt32:=UInt32.ofNat (x.toNat/2^n)
def sl (x:UInt32) (n:Nat):UInt32:=UInt32.ofNat (x.toNat*2^n)
theorem sr_nat (x:UInt32) (n:Nat):(sr x n).toNat=x.toNat/2^n:=by
 unfold sr;rw[UInt32.toNat_ofNat',Nat.mod_eq_of_lt (Nat.lt_of_le_of_lt (Nat.div_le_self _ _) x.toNat_lt)]
theorem sl_nat (x:UInt32) (n:Nat):(sl x n).toNat=x.toNat*2^n%4294967296:=by
 unfold sl;rw[UInt32.toNat_ofNat']
theorem qez (c d:Bool) (x y:UInt32):qa4 E0 .add 86 c d (w32 x) (w32 y)=some (w32 (x+y)):=by
 unfold w32;rw[binV_ii,intsV_add,show((x.toNat:Int)+(y.toNat:Int))=((x.toNat+y.toNat:Nat):Int) by omega,qjw,UInt32.toNat_add]
theorem and32 (c d:Bool) (x y:UInt32):qa4 E0 .and 86 c d (w32 x) (w32 y)=some (w32 (x &&& y)):=by
 show some (V.int .u32 (qdu .u32 (Nat.land (qcc .u32 (x.toNat:Int)) (qcc .u32 (y.toNat:Int)))))=_;rw[qin,qin,show Nat.land x.toNat y.toNat=(x &&& y).toNat from rfl,u32_of (UInt32.toNat_lt _)]; rfl
theorem or32 (c d:Bool) (x y:UInt32):qa4 E0 .or 86 c d (w32 x) (w32 y)=some (w32 (x ||| y)):=by
 show some (V.int .u32 (qdu .u32 (Nat.lor (qcc .u32 (x.toNat:Int)) (qcc .u32 (y.toNat:Int)))))=_;rw[qin,qin,show Nat.lor x.toNat y.toNat=(x ||| y).toNat from(UInt32.toNat_or ..).symm,u32_of (UInt32.toNat_lt _)]; rfl
theorem qhd (c d:Bool) (x y:UInt32):qa4 E0 .xor 86 c d (w32 x) (w32 y)=some (w32 (x ^^^ y)):=by
 show some (V.int .u32 (qdu .u32 (Nat.xor (qcc .u32 (x.toNat:Int)) (qcc .u32 (y.toNat:Int)))))=_;rw[qin,qin,show Nat.xor x.toNat y.toNat=(x ^^^ y).toNat from(UInt32.toNat_xor ..).symm,u32_of (UInt32.toNat_lt _)]; rfl
def nt (x:UInt32):UInt32:=UInt32.ofNat (4294967295-x.toNat)
theorem not32 (x:UInt32):unV .xor (w32 x)=some (w32 (nt x)):=by
 have:=x.toNat_lt;show some (V.int .u32 (qdu .u32 (qbo .u32-1-qcc .u32 (x.toNat:Int))))=_;rw[qin,show qbo .u32=4294967296 from rfl,u32_of (by omega)];unfold nt w32;rw[UInt32.toNat_ofNat',Nat.mod_eq_of_lt (by omega)]
theorem qlb (c d:Bool) (k:IntKind) (x:UInt32) {n:Nat} (hn:n<=32):qa4 E0 .shr 86 c d (w32 x) (.int k (n:Int))=some (w32 (sr x n)):=by
 show some (V.int .u32 ((x.toNat:Int).fdiv (.ofNat (2^min n 32))))=_;rw[Nat.min_eq_left hn];unfold w32;rw[sr_nat,show(x.toNat:Int).fdiv (Int.ofNat (2^n))=(x.toNat:Int)/((2^n:Nat):Int)from Int.fdiv_eq_ediv_of_nonneg _ (Int.natCast_nonneg _)];rfl
theorem shl32 (c d:Bool) (k:IntKind) (x:UInt32) {n:Nat} (hn:n<=32):qa4 E0 .shl 86 c d (w32 x) (.int k (n:Int))=some (w32 (sl x n)):=by
 show some (V.int .u32 (qgh .u32 ((x.toNat:Int)*.ofNat (2^min n 32))))=_;rw[Nat.min_eq_left hn,qbf,show(x.toNat:Int)*Int.ofNat (2^n)=((x.toNat*2^n:Nat):Int)from(Int.natCast_mul ..).symm,qjw];unfold w32;rw[sl_nat]
theorem cv32 (c:UInt8) (S:St):cvI .u32 (.int .u8 (c.toNat:Int)) S=some (w32 c.toUInt32,S):=by
 rw[cvI_int,qjw];have:=c.toNat_lt;unfold w32;rw[UInt8.toNat_toUInt32,Nat.mod_eq_of_lt (by omega)]
def b8 (x:UInt32):UInt8:=UInt8.ofNat x.toNat
theorem cv8w (x:UInt32) (S:St):cvI .u8 (w32 x) S=some (.int .u8 ((b8 x).toNat:Int),S):=by
 unfold w32 b8;rw[cvI_int,u8_wrap,UInt8.toNat_ofNat']
def rot (x:UInt32) (j:Nat):UInt32:=sl x j ||| sr x (32-j)
def qny (x:UInt32) (l:List Nat):UInt32:=l.foldl (fun y n=>y ^^^ rot x (32-n)) 0
theorem neg31 {n:Nat} (h:1<=n/\n<=31):qa4 E0 .and 68 false true (.int .u64 (IntKind.u64.wrap (IntKind.i64.wrap (0-(n:Int))))) (.int .u64 31)=some (.int .u64 ((32-n:Nat):Int)):=by
 have hall:((List.range 32).all fun n=>Nat.beq n 0||isInt .u64 (32-n) (qdg .and .u64 (qgh .u64 (qgh .i64 (0-(.ofNat n)))) .u64 31))=true:=by decide +kernel
 have:=List.all_eq_true.1 hall n (List.mem_range.2 (by omega));rw[Bool.or_eq_true]at this;rcases this with h0|h0
 . have:=beq_true.1 h0; omega
 . have:=qj9 h0
   rw[qbf,qbf]at this;rw[binV_ii];exact this
theorem neg_n (n:Nat):unV .neg (.int .i64 (n:Int))=some (.int .i64 (IntKind.i64.wrap (0-(n:Int)))):=by
 show some (V.int .i64 (qgh .i64 (0-(n:Int))))=_;rw[qbf]
theorem sub32 (c d:Bool) {n:Nat} (h:n<=31):qa4 E0 .sub 68 c d (.int .u64 32) (.int .u64 (n:Int))=some (.int .u64 ((32-n:Nat):Int)):=by
 rw[binV_ii,intsV_sub];have:((32:Int)-(n:Int))=((32-n:Nat):Int):=by omega
 rw[this,wrap_u64 (by omega) (by omega)]
section
variable {S T U:St} {K:FuncId->Option KF}
theorem f101_run (k101:K 101=none) (m:Nat) (x:UInt32) {n:Nat} (h:1<=n/\n<=31) (S:St):(ev E0 K (m+1)).f 101 [w32 x,.int .i64 (IntKind.i64.wrap (0-(n:Int)))] S=some (.ret (w32 (rot x (32-n))),S):=by
 refine qa6 (fn:=Tryz.f101) (c:=C101) (d:=B101) (by kernel_rfl) (by kernel_rfl) (qa3 C101 _ (by kernel_rfl)) k101 ?_;show F101 (ev E0 K m) qa1 _ _ S=_;rw[F101_eq,cvI_int,oB];dsimp only;rw[neg31 h,oB,shl32 _ _ _ _ (by omega),oB,sub32 _ _ (by omega),oB,qlb _ _ _ _ (by omega),oB,or32,oB];rfl
abbrev Turn (n:Nat):Prop:=1<=n/\n<=31
theorem L100_spec (k101:K 101=none) {m N:Nat} (nk:Ac->St->Rs) (ek:Nat->Ac->St->Rs) (ho:S.on=false) (x:UInt32) {r c:Nat} {l:List Nat} (hr:RowAt S r 3 1 (l.map fun n:Nat=>Ev.one (.int .i64 (n:Int)))) (hl:l.length<1000) (hT:∀n∈l,Turn n) :
 ∀(rest:List Nat) (i q:Nat) (y:UInt32) (L:List LE),l.drop i=rest->rest.length<q->(∀e∈L,e.w=false/\e.b=r)->
 ∃L',L100_7 (ev E0 K (m+1)) N nk ek q (w32 x) (w32 y) (.slice r 0 l.length c) (.int .i64 (l.length:Int)) (.int .i64 (i:Int)) (S.lg L)=ek 0 (fr 21 [(4,w32 (rest.foldl (fun y n=>y ^^^ rot x (32-n)) y))]) (S.lg L')/\∀e∈L',e.w=false/\e.b=r
 | _,_,0,_,_,_,hq,_=>by omega
 | [],i,q+1,y,L,hi,hq,hL=>by
  refine⟨L,?_,hL⟩;rw[L100_7_eq,qds,dF (Nat.not_lt.2 (qau hi)),oB,ifK_bool,cF];rfl
 | n::rest,i,q+1,y,L,hi,hq,hL=>by
  obtain⟨hil,hf,hrest,hmem⟩:=qba hi
  have hix:ixP 1 (.slice r 0 l.length c) (.int .i64 (i:Int))=some (.ptr r i):=by
   show(bif Nat.blt i l.length then some (V.ptr r (0+i*1))else none)=_;rw[blt_true.2 hil,cT,Nat.zero_add,Nat.mul_one]
  have hld:ld1 (.ptr r i) S=some (.int .i64 (n:Int),S):=hr.ld1 ho (by rw[List.getElem?_map,List.getElem?_eq_getElem hil,hf]; rfl);have hld':=qbx ho hld L
  obtain⟨L',k1,k2⟩:=L100_spec k101 (m:=m) (N:=N) nk ek ho x hr hl hT rest (i+1) q (y ^^^ rot x (32-n)) (⟨r,i,i+1,false⟩::L) hrest (by simpa using hq) (fun e he=>by
   rcases List.mem_cons.1 he with rfl|he
   . exact⟨rfl,rfl⟩
   . exact hL e he)
  refine⟨L',?_,k2⟩;rw[L100_7_eq,qds,dT hil,oB,ifK_bool,cT,hix,oB,hld',oB];dsimp only;rw[neg_n,oB,f101_run k101 m x (hT n hmem),callP_ret,qhd,oB,qc1 (by omega),oB,k1];rfl
theorem f100_run (k100:K 100=none) (k101:K 101=none) (m:Nat) (ho:S.on=false) (x:UInt32) {r c:Nat} {l:List Nat} (hr:RowAt S r 3 1 (l.map fun n:Nat=>Ev.one (.int .i64 (n:Int)))) (hl:l.length<1000) (hT:∀n∈l,Turn n):∃L,(ev E0 K (m+2)).f 100 [w32 x,.slice r 0 l.length c] (S.lg [])=some (.ret (w32 (qny x l)),S.lg L)/\∀e∈L,e.w=false/\e.b=r:=by
 obtain⟨L,h1,h2⟩:=L100_spec k101 (m:=m) (N:=qa1) (c:=c) (R100_1 (ev E0 K (m+1)) qa1 (qat E0 (ev E0 K (m+1)) Tryz.f100) qad) (exB 0 (R100_1 (ev E0 K (m+1)) qa1 (qat E0 (ev E0 K (m+1)) Tryz.f100) qad) qad) ho x hr hl hT l 0 qa1 0 [] rfl (by unfold qa1; omega) (fun e he=>by cases he);refine⟨L,?_,h2⟩;refine qa6 (fn:=Tryz.f100) (c:=C100) (d:=B100) (by kernel_rfl) (by kernel_rfl) (qa3 C100 _ (by kernel_rfl)) k100 ?_;show F100 (ev E0 K (m+1)) qa1 _ _ (S.lg [])=_;rw[F100_eq,qjc (n:=l.length) (fun _ _ e=>by cases e) rfl,oB];dsimp only;rw[show V.int .i64 0=.int .i64 ((0:Nat):Int)from rfl];refine Eq.trans h1 ?_;rw[exB_same,R100_1_eq];rfl
end
def TagOk (r1 r2:Nat):Nat->LE->Prop
 | 1,e=>e.w=false/\e.b≠r1/\e.b≠r2
 | 2,e=>e.b=r1
 | 3,e=>e.b=r2
 | 4,_=>True
 | _,_=>False
def Tags (r1 r2:Nat):List (List LE)->List Nat->Prop
 | [],_=>True
 | L::ls,[]=>(∀e∈L,False)/\Tags r1 r2 ls []
 | L::ls,k::ks=>(∀e∈L,TagOk r1 r2 k e)/\Tags r1 r2 ls ks
def tagAt (i:Nat):List Nat->Nat
 | []=>0
 | k::ks=>if i=0 then k else tagAt (i-1) ks
theorem tags_at {r1 r2:Nat}:∀{logs:List (List LE)} {tags:List Nat} (i:Nat),Tags r1 r2 logs tags->∀e∈qea i logs,TagOk r1 r2 (tagAt i tags) e
 | [],_,_,_,_,h=>by cases h
 | L::ls,[],i,hT,e,h=>by
  unfold qea at h;cases hi:Nat.beq i 0 with
  | true=>
   rw[hi]at h;exact(hT.1 e h).elim
  | false=>
   rw[hi]at h;have:=tags_at (i-1) hT.2 e h;exact this
 | L::ls,k::ks,i,hT,e,h=>by
  unfold qea at h;unfold tagAt;cases hi:Nat.beq i 0 with
  | true=>
   rw[hi]at h;rw[iP (Nat.eq_of_beq_eq_true hi)];exact hT.1 e h
  | false=>
   rw[hi]at h;rw[iN (fun q=>by rw[q]at hi; cases hi)];exact tags_at (i-1) hT.2 e h
def compat (a b:Nat):Bool:=(a==0||b==0)||(a != 4&&b != 4&&((a==1&&b==1)||a != b))
theorem compat_ok {r1 r2 a b:Nat} (hr:r1≠r2) (h:compat a b=true) {e f:LE} (he:TagOk r1 r2 a e) (hf:TagOk r1 r2 b f):e.b≠f.b\/(e.w=false/\f.w=false):=by
 by_cases h4:a=4
 . subst h4
   match b,hf with
   | 1,_=>cases h
   | 2,_=>cases h
   | 3,_=>cases h
   | 4,_=>cases h
 by_cases k4:b=4
 . subst k4
   match a,he with
   | 1,_=>cases h
   | 2,_=>cases h
   | 3,_=>cases h
   | 4,_=>cases h
 match a,b,he,hf with
 | 1,1,he,hf=>exact .inr ⟨he.1,hf.1⟩
 | 1,2,he,hf=>exact .inl fun q=>he.2.1 (q.trans hf)
 | 1,3,he,hf=>exact .inl fun q=>he.2.2 (q.trans hf)
 | 2,1,he,hf=>exact .inl fun q=>hf.2.1 (q.symm.trans he)
 | 3,1,he,hf=>exact .inl fun q=>hf.2.2 (q.symm.trans he)
 | 2,3,he,hf=>exact .inl fun q=>hr ((Eq.symm he).trans (q.trans hf))
 | 3,2,he,hf=>exact .inl fun q=>hr ((Eq.symm hf).trans (q.symm.trans he))
 | 4,_,_,_=>exact(h4 rfl).elim
 | 1,4,_,_=>exact(k4 rfl).elim
 | 2,4,_,_=>exact(k4 rfl).elim
 | 3,4,_,_=>exact(k4 rfl).elim
 | 2,2,_,_=>cases h
 | 3,3,_,_=>cases h
theorem qmc {x:List LE} {logs:List (List LE)}:∀{js:List Nat},(∀j∈js,qdt x (qea j logs)=false)->qd7 x logs js=false
 | [],_=>rfl
 | j::js,h=>by
  unfold qd7;rw[h j (List.mem_cons_self ..)];exact qmc fun k hk=>h k (mO _ hk)
theorem qb0 {r1 r2:Nat} (hr:r1≠r2) {logs:List (List LE)} {tags:List Nat} (hT:Tags r1 r2 logs tags):∀{prs:List (Nat×List Nat)},(prs.all fun p=>p.2.all fun j=>compat (tagAt p.1 tags) (tagAt j tags))=true->qaw logs prs=true
 | [],_=>rfl
 | (i,js)::l,h=>by
  rw[List.all_cons,bA]at h;unfold qaw;rw[qmc fun j hj=>qei fun e he f hf=>compat_ok hr (List.all_eq_true.1 h.1 j hj) (tags_at i hT e he) (tags_at j hT f hf)];exact qb0 hr hT h.2
def updW (f:Nat->UInt32) (i:Nat) (x:UInt32):Nat->UInt32:=fun j=>if j=i then x else f j
section
variable {S T U:St} {f g:Nat->UInt32}
def Arr (S:St) (b e z:Nat) (f:Nat->UInt32):Prop:=S.on=false/\∃t,AgAt S b e z t/\∀i,i<z->t.get i=some (w32 (f i))
def AggV (z:Nat) (v:V) (f:Nat->UInt32):Prop:=∃t,v=.agg z t/\∀i,i<z->t.get i=some (w32 (f i))
theorem Arr.ext {b e z:Nat} (h:Arr S b e z f) (he:∀i,i<z->f i=g i):Arr S b e z g:=by
 obtain⟨ho,t,h1,h2⟩:=h;exact⟨ho,t,h1,fun i hi=>by rw[<- he i hi]; exact h2 i hi⟩
theorem Arr.grew {W:Nat->Prop} {b e z:Nat} (h:Arr S b e z f) (hb:b<S.next) (hw:¬W b) (g:Grew W S T):Arr T b e z f:=by
 obtain⟨ho,t,h1,h2⟩:=h;exact⟨g.on.trans ho,t,h1.grew hb hw g,h2⟩
theorem Arr.ld {b e z i:Nat} (h:Arr S b e z f) (hz:z<big) (hi:i<z):ld1 (.ptr b i) S=some (w32 (f i),S):=by
 obtain⟨ho,t,h1,h2⟩:=h;exact h1.ld1 ho hz hi (h2 i hi)
theorem Arr.ldOn {b e z i:Nat} (h:Arr S b e z f) (hz:z<big) (hi:i<z) (L:List LE):ld1 (.ptr b i) (S.lg L)=some (w32 (f i),S.lg (⟨b,i,i+1,false⟩::L)):=
 qbx h.1 (h.ld hz hi) L
theorem Arr.st {b e z i:Nat} (h:Arr S b e z f) (hz:z<big) (h1z:1<z) (hi:i<z) (n:UInt32):∃U,stP 1 (.ptr b i) (w32 n) S=some (.tuple [],U)/\Arr U b e z (updW f i n)/\Grew (fun x=>x=b) S U/\U.next=S.next:=by
 obtain⟨ho,t,h1,h2⟩:=h;obtain⟨w,k1,k2,k3,k4⟩:=h1.st1 ho hz h1z hi (w32 n) rfl rfl rfl;refine⟨w,k1,⟨k3.on.trans ho,_,k2,fun j hj=>?_⟩,k3,k4⟩;rw[Tr.get_set];unfold updW;by_cases e:j=i
 . rw[iP e,iP e]
 . rw[iN e,iN e]; exact h2 j hj
theorem Arr.all {b e z:Nat} (h:Arr S b e z f) (hz:z<big):∃v,ldA z (.ptr b 0) S=some (v,S)/\ldrA z (.ptr b 0) S=some (v,S)/\AggV z v f:=by
 obtain⟨ho,t,h1,h2⟩:=h;exact⟨_,h1.ldA ho hz,h1.ldrA ho hz,t,rfl,h2⟩
theorem Arr.put {b e z:Nat} (h:Arr S b e z f) (hz:z<big) {v:V} (hv:AggV z v g):∃U,stP z (.ptr b 0) v S=some (.tuple [],U)/\Arr U b e z g/\Grew (fun x=>x=b) S U/\U.next=S.next:=by
 obtain⟨ho,t,h1,h2⟩:=h;obtain⟨u,rfl,hu⟩:=hv;obtain⟨w,k1,k2,k3,k4⟩:=h1.stA ho hz u;exact⟨w,k1,⟨k3.on.trans ho,u,k2,hu⟩,k3,k4⟩
theorem Arr.newOf (ho:S.on=false) (e z:Nat) {t:Tr V} (h:∀i,i<z->t.get i=some (w32 (f i))):Arr (nwP e z t S).2 S.next e z f/\Grew (fun _=>False) S (nwP e z t S).2/\(nwP e z t S).2.next=S.next+1:=by
 obtain⟨h1,h2,h3⟩:=qc7 ho e z t;exact⟨⟨h2.on.trans ho,t,h1,h⟩,h2,h3⟩
theorem zeros (z:Nat) (l:List V) (hl:l=List.replicate z (.int .u32 0)):∀i,i<z->(Tr.ofListFrom .nil l 0).get i=some (w32 ((fun _=>(0:UInt32)) i)):=fun i hi=>by
 rw[Tr.get_ofList,hl,List.getElem?_replicate,iP hi];rfl
theorem qfa:64<big:=by unfold big; decide
theorem qf1:8<big:=by unfold big; decide
theorem qkb {z b i:Nat} (h:i<z):ixA z 1 false 1 (.ptr b 0) (.int .i64 (i:Int))=some (.ptr b i):=by
 show(bif Nat.blt i z then some (V.ptr b (0+i*1))else none)=_;rw[blt_true.2 h,cT,Nat.zero_add,Nat.mul_one]
def Blk (S:St) (v:V) (g:Nat->UInt8):Prop:=∃(r off:Nat) (bs:Bs),v=.oslice r off 64 1/\RowAt S r 5 1 (bs.map qbb)/\(∀i,i<64->bs[off+i]?=some (g i))/\r<S.next
theorem Blk.grew {W:Nat->Prop} {v:V} {g:Nat->UInt8} (h:Blk S v g) (hw:∀r off,v=.oslice r off 64 1->¬W r) (k:Grew W S T):Blk T v g:=by
 obtain⟨r,off,bs,h1,h2,h3,h4⟩:=h;exact⟨r,off,bs,h1,h2.grew h4 (hw r off h1) k,h3,Nat.lt_of_lt_of_le h4 k.next⟩
theorem Blk.ld {v:V} {g:Nat->UInt8} (h:Blk S v g) (ho:S.on=false) {i:Nat} (hi:i<64) (L:List LE):∃p r o,ixP 1 v (.int .i64 (i:Int))=some p/\ld1 p (S.lg L)=some (.int .u8 ((g i).toNat:Int),S.lg (⟨r,o,o+1,false⟩::L)):=by
 obtain⟨r,off,bs,rfl,h2,h3,h4⟩:=h;have hx:(bs.map qbb)[off+i]?=some (qbb (g i)):=by rw[List.getElem?_map,h3 i hi]; rfl
 refine⟨.ptr r (off+i),r,off+i,?_,qbx ho (show ld1 (.ptr r (off+i)) S=_ from h2.ld1 ho hx) L⟩;show(bif Nat.blt i 64 then some (V.ptr r (off+i*1))else none)=_;rw[blt_true.2 hi,cT,Nat.mul_one]
theorem mul4 {i:Nat} (h:i<1000):qa4 E0 .mul 3 true false (.int .i64 4) (.int .i64 (i:Int))=some (.int .i64 ((4*i:Nat):Int)):=by
 rw[binV_ii,intsV_mul,show((4:Int)*(i:Int))=((4*i:Nat):Int) by omega,qbg (by omega) (by omega)]
theorem addC {i:Nat} (k:Nat) (h:i<100000) (hk:k<1000):qa4 E0 .add 3 false true (.int .i64 (i:Int)) (.int .i64 (k:Int))=some (.int .i64 ((i+k:Nat):Int)):=by
 rw[binV_ii,intsV_add,show((i:Int)+(k:Int))=((i+k:Nat):Int) by omega,qbg (by omega) (by omega)]
theorem subC {i:Nat} (k:Nat) (h:k<=i) (hi:i<100000):qa4 E0 .sub 3 false true (.int .i64 (i:Int)) (.int .i64 (k:Int))=some (.int .i64 ((i-k:Nat):Int)):=by
 rw[binV_ii,intsV_sub,show((i:Int)-(k:Int))=((i-k:Nat):Int) by omega,qbg (by omega) (by omega)]
end
section
variable {S T U:St}
theorem Grew.same {W:Nat->Prop} {a b c:St} (h:Grew W a b) (h1:c.heap=b.heap) (h2:c.next=b.next) (h3:c.on=b.on):Grew W a c:=⟨by rw[h2]; exact h.next,h3.trans h.on,fun x hx hw=>by rw[h1]; exact h.keep x hx hw⟩
theorem Grew.then {W W':Nat->Prop} {a b c:St} (h:Grew W a b) (k:Grew W' b c) (hw:∀x,x<a.next->W' x->W x):Grew W a c:=
 ⟨Nat.le_trans h.next k.next,k.on.trans h.on,fun x hx hn=>(k.keep x (Nat.lt_of_lt_of_le hx h.next) fun e=>hn (hw x hx e)).trans (h.keep x hx hn)⟩
def RwS (S:St) (v:V) (z:Nat) (L:List (Tr V)):Prop:=lenV v=some L.length/\qbc z L.length v S=some (L,S)
theorem app_more {e z B r:Nat} (ho:S.on=false) {y:V} {M L:List (Tr V)} (hr:RowAt S r e z M) (h:RwS S y z L) (hL:L≠[]) (hB:(M.length+L.length)*(B+z+1)<qac) (hbig:z*(M.length+L.length)<big) :
 ∃U,apP e z B (.oslice r 0 M.length z) y S=some (.oslice S.next 0 (M.length+L.length) z,U)/\RowAt U S.next e z (M++L)/\Grew (fun x=>x=r) S U/\U.next=S.next+1:=by
 obtain⟨c,hc1,hc2⟩:=hr.row;have hfit:=hr.fit;have hz:=hr.pos;have hLp:0<L.length:=List.length_pos_iff.2 hL;refine⟨nw (S.put r .dead) (.cells e z (M.length+L.length) false (Ev.addL c L M.length)),?_,?_,?_,rfl⟩
 . unfold apP
   rw[h.1,oB,show lenV (.oslice r 0 M.length z)=some M.length from rfl,oB,blt_true.2 hB,cT];unfold qc3;rw[h.2,oB];simp only;rw[Nat.beq_refl,cT];unfold qg3;rw[hc1];simp only[blt_true.2 hfit,cT,oB,qav ho]
   rw[show Nat.ble (0+(M.length+L.length)*z) (z*M.length)=false from by
    rw[ble_false,Nat.zero_add,Nat.mul_comm z,Nat.add_mul];have:0<L.length*z:=Nat.mul_pos hLp hz
    omega,cF]
   unfold qge;rw[hc1];simp only[Nat.beq_refl,Bool.not_true,Bool.or_self,cF,show Nat.beq 0 0=true from rfl,blt_true.2 hfit,Bool.and_self,cT];rw[qcq,qhn ho]
 . refine qe8 (s:=S.put r .dead) ho hz (by rw[lAq]) hbig fun i t hi=>?_
   rw[Ev.addL_get];have hlt:=(List.getElem?_eq_some_iff.1 hi).1;rw[lAq]at hlt;by_cases hc:M.length<=i
   . rw[iP ⟨hc,hlt⟩]
     rw[List.getElem?_append_right hc]at hi;exact hi
   . rw[iN (fun h=>hc h.1)]
     rw[List.getElem?_append_left (by omega)]at hi;exact hc2 i t hi
 . exact⟨by show S.next<=S.next+1; omega,(nw_on (s:=S.put r .dead) ho _).trans ho.symm,fun x hx hw=>by
    rw[qdv,iN (by show x≠S.next; omega),qc0,iN hw]⟩
theorem sizeB_off (ho:S.on=false) {r e:Nat} {l:List (Tr V)} (h:RowAt S r e 1 l):qg3 S r=some (l.length,S):=by
 obtain⟨c,h1,_⟩:=h.row;unfold qg3;rw[h1];simp only[show 1*l.length=l.length from Nat.one_mul _,blt_true.2 h.len,cT,qav ho]
def One (S:St) (b e:Nat) (v:V):Prop:=RowAt S b e 1 [Ev.one v]
theorem One.ld {b e:Nat} {v:V} (h:One S b e v) (ho:S.on=false):ld1 (.ptr b 0) S=some (v,S):=RowAt.ld1 ho h rfl
theorem One.grew {W:Nat->Prop} {b e:Nat} {v:V} (h:One S b e v) (hb:b<S.next) (hw:¬W b) (g:Grew W S T):One T b e v:=RowAt.grew h hb hw g
end
def KH1:=qfe K2 97 kfCube
theorem okH1:KnOk Tryz.prog E0 KH1:=ok2.add cube_well
def KH2:=qfe KH1 98 kfSquare
theorem okH2:KnOk Tryz.prog E0 KH2:=okH1.add square_well
def KH:=qfe KH2 72 kfConst
theorem okH:KnOk Tryz.prog E0 KH:=okH2.add (const_well okH2 rfl rfl rfl)
theorem kh100:KH 100=none:=rfl
theorem kh101:KH 101=none:=rfl
theorem ons (S:St):onS S=S.lg []:=rfl
theorem qar (S:St) (L M:List LE):(S.lg L).lg M=S.lg M:=rfl
section
variable {S T U:St} {f g:Nat->UInt32}
def zz (S U:St):St:={U with on:=false,log:=S.log}
theorem qao (ho:S.on=false) (U:St) (l:List LE) (ls:List (List LE)):qbd S (U.lg l) ls=zz S U:=by
 unfold qbd zz;rw[ho]; rfl
theorem qdy {W:Nat->Prop} (ho:S.on=false) (g:Grew W S U):Grew W S (zz S U):=Grew.same g rfl rfl (by show false=U.on; rw[g.on,ho])
theorem qcu (ho:S.on=false) (hU:U.on=false):Grew (fun _=>False) U (zz S U):=Grew.same (Grew.refl _ _) rfl rfl (by show false=U.on; rw[hU])
theorem body84:E0.ext.get 100=none/\qb5 E0 100=true:=⟨by kernel_rfl,by kernel_rfl⟩
theorem ints_one (l:List Int):∀v∈l.map (V.int .i64),OneV v:=fun v hv=>by
 rw[List.mem_map]at hv;obtain⟨n,_,rfl⟩:=hv;exact⟨rfl,rfl,rfl,rfl⟩
theorem turn2 (m:Nat) (ho:S.on=false) (x:UInt32) (a b:Nat) (ha:Turn a) (hb:Turn b):∃U L,bsP 3 1 2 (Ev.one (.int .i64 0)) [(0,(.int .i64 (a:Int))),(1,(.int .i64 (b:Int)))] (S.lg [])=some (.slice S.next 0 2 2,U.lg [⟨S.next,0,big,true⟩])/\
 qc8 E0 (ev E0 KH (m+2)) (.fn (.func 100) [] []) [w32 x,.slice S.next 0 2 2] (U.lg [])=some (.ret (w32 (qny x [a,b])),U.lg L)/\(∀e∈L,e.b=S.next)/\Grew (fun _=>False) S U/\U.next=S.next+1:=by
 obtain⟨U,a1,a2,a3,a4⟩:=qe5 ho 3 (Ev.one (.int .i64 0)) ([(a:Int),(b:Int)].map (V.int .i64)) (ints_one _) (by show 2<big; unfold big; decide);have hr:RowAt U S.next 3 1 ([a,b].map fun n:Nat=>Ev.one (.int .i64 (n:Int))):=a2
 obtain⟨L,h1,h2⟩:=f100_run kh100 kh101 m (a3.on.trans ho) x (c:=2) hr (by show 2<1000; omega) (fun n hn=>by
  rcases List.mem_cons.1 hn with rfl|hn
  . exact ha
  . rw[List.mem_singleton.1 hn]; exact hb)
 refine⟨U,L,a1 (some []),?_,fun e he=>(h2 e he).2,a3,a4⟩;rw[qbm body84.1 body84.2];exact h1
theorem turn3 (m:Nat) (ho:S.on=false) (x:UInt32) (a b c:Nat) (ha:Turn a) (hb:Turn b) (hc:Turn c):∃U L,bsP 3 1 3 (Ev.one (.int .i64 0)) [(0,(.int .i64 (a:Int))),(1,(.int .i64 (b:Int))),(2,(.int .i64 (c:Int)))] (S.lg [])=some (.slice S.next 0 3 3,U.lg [⟨S.next,0,big,true⟩])/\
 qc8 E0 (ev E0 KH (m+2)) (.fn (.func 100) [] []) [w32 x,.slice S.next 0 3 3] (U.lg [])=some (.ret (w32 (qny x [a,b,c])),U.lg L)/\(∀e∈L,e.b=S.next)/\Grew (fun _=>False) S U/\U.next=S.next+1:=by
 obtain⟨U,a1,a2,a3,a4⟩:=qe5 ho 3 (Ev.one (.int .i64 0)) ([(a:Int),(b:Int),(c:Int)].map (V.int .i64)) (ints_one _) (by show 3<big; unfold big; decide);have hr:RowAt U S.next 3 1 ([a,b,c].map fun n:Nat=>Ev.one (.int .i64 (n:Int))):=a2
 obtain⟨L,h1,h2⟩:=f100_run kh100 kh101 m (a3.on.trans ho) x (c:=3) hr (by show 3<1000; omega) (fun n hn=>by
  rcases List.mem_cons.1 hn with rfl|hn
  . exact ha
  . rcases List.mem_cons.1 hn with rfl|hn
    . exact hb
    . rw[List.mem_singleton.1 hn]; exact hc)
 refine⟨U,L,a1 (some []),?_,fun e he=>(h2 e he).2,a3,a4⟩;rw[qbm body84.1 body84.2];exact h1
theorem sixteen (i:Nat):qa4 E0 .lss 3 false true (.int .i64 (i:Int)) (.int .i64 16)=some (.bool (decide (i<16))):=by
 rw[show V.int .i64 16=.int .i64 ((16:Nat):Int)from rfl,binV_ii,intsV_lss]
 congr 2
 simp;omega
theorem qlc (i:Nat):qa4 E0 .lss 3 false true (.int .i64 (i:Int)) (.int .i64 64)=some (.bool (decide (i<64))):=by
 rw[show V.int .i64 64=.int .i64 ((64:Nat):Int)from rfl,binV_ii,intsV_lss]
 congr 2
 simp;omega
def qi4 (g:Nat->UInt8) (i:Nat):UInt32:=sl (g (4*i)).toUInt32 24 ||| sl (g (4*i+1)).toUInt32 16 ||| sl (g (4*i+2)).toUInt32 8 ||| (g (4*i+3)).toUInt32
def qo7 (f:Nat->UInt32) (i:Nat):UInt32:=f (i-16)+(qny (f (i-15)) [7,18] ^^^ sr (f (i-15)) 3)+f (i-7)+(qny (f (i-2)) [17,19] ^^^ sr (f (i-2)) 10)
def nextW (g:Nat->UInt8) (f:Nat->UInt32) (i:Nat):UInt32:=if i<16 then qi4 g i else qo7 f i
def qnm (g:Nat->UInt8):Nat->Nat->(Nat->UInt32)->Nat->UInt32
 | 0,_,f=>f
 | d+1,i,f=>qnm g d (i+1) (updW f i (nextW g f i))
theorem step16 {m N wb:Nat} (hA:Arr S wb 89 64 f) (hw:wb<S.next) {v1 v2 v3 v6 v7:V} {g:Nat->UInt8} (hb:Blk S v1 g) (nk:Ac->St->Rs) (ek:Nat->Ac->St->Rs) {i q:Nat} (hi:i<16) :
 ∃U,Arr U wb 89 64 (updW f i (qi4 g i))/\Grew (fun x=>x=wb) S U/\qft (ev E0 KH (m+3)) N nk ek (q+1) v1 v2 v3 v6 v7 (.ptr wb 0) (.int .i64 (i:Int)) S=qft (ev E0 KH (m+3)) N nk ek q v1 v2 v3 v6 v7 (.ptr wb 0) (.int .i64 ((i+1:Nat):Int)) U:=by
 have ho:=hA.1;obtain⟨p1,r,o1,a1,a2⟩:=hb.ld ho (i:=4*i) (by omega) [];obtain⟨p2,r2,o2,b1,b2⟩:=hb.ld ho (i:=4*i+1) (by omega) [];obtain⟨p3,r3,o3,c1,c2⟩:=hb.ld ho (i:=4*i+2) (by omega) [];obtain⟨p4,r4,o4,d1,d2⟩:=hb.ld ho (i:=4*i+3) (by omega) [];have k24:V.int .u64 24=.int .u64 ((24:Nat):Int):=rfl;have k16:V.int .u64 16=.int .u64 ((16:Nat):Int):=rfl;have k8:V.int .u64 8=.int .u64 ((8:Nat):Int):=rfl;obtain⟨U,k1,k2,k3,k4⟩:=hA.st qfa (by decide) (i:=i) (by omega) (qi4 g i);unfold qi4 at k1;obtain⟨l,k1'⟩:=qh8 ho k1;refine⟨zz S U,k2.grew (by omega) (fun h=>h) (qcu ho k2.1),qdy ho k3,?_⟩;rw[qk1,qlc,dT (by omega),oB,ifK_bool,cT,sixteen,dT hi,oB,ifK_bool,cT];rw[mul4 (by omega),oB,a1,oB];simp only[ons,qar];rw[a2,oB];simp only[ons,qar];rw[cv32,oB,k24,shl32 _ _ _ _ (by omega),oB,oB,show V.int .i64 1=.int .i64 ((1:Nat):Int)from rfl,addC 1 (by omega) (by omega),oB,b1,oB];simp only[ons,qar];rw[b2,oB];simp only[ons,qar];rw[cv32,oB,k16,shl32 _ _ _ _ (by omega),oB,or32,oB,oB,show V.int .i64 2=.int .i64 ((2:Nat):Int)from rfl,addC 2 (by omega) (by omega),oB,c1,oB];simp only[ons,qar];rw[c2,oB];simp only[ons,qar];rw[cv32,oB,k8,shl32 _ _ _ _ (by omega),oB,or32,oB,oB,show V.int .i64 3=.int .i64 ((3:Nat):Int)from rfl,addC 3 (by omega) (by omega),oB,d1,oB];simp only[ons,qar];rw[d2,oB];simp only[ons,qar]
 rw[cv32,oB,or32,oB,qkb (by omega),oB];simp only[ons,qar];rw[k1',oB];dsimp only;rw[qb3 ?_,qao ho,addC 1 (by omega) (by omega),oB];refine qb0 (r1:=r+r2+r3+r4+1) (r2:=r+r2+r3+r4+2) (tags:=[0,0,0,0,0,1,1,0,0,0,0,0,0,1,1,0,0,0,0,0,0,0,1,1,0,0,0,0,0,0,0,1,1,0,0,4]) (by omega) ?_ (by decide)
 repeat' apply And.intro
 all_goals first
  | trivial
  | (intro e he; cases he; done)
  | (intro e he; cases List.mem_singleton.1 he; exact⟨rfl,by dsimp only; omega,by dsimp only; omega⟩)
  | (intro e he; trivial)
end
section
variable {S T U:St} {f:Nat->UInt32}
theorem step48 {m N wb:Nat} (hA:Arr S wb 89 64 f) (hw:wb<S.next) {v1 v2 v3 v6:V} (nk:Ac->St->Rs) (ek:Nat->Ac->St->Rs) {i q:Nat} (h16:16<=i) (hi:i<64) :
 ∃U,Arr U wb 89 64 (updW f i (qo7 f i))/\Grew (fun x=>x=wb) S U/\qft (ev E0 KH (m+2)) N nk ek (q+1) v1 v2 v3 v6 (.fn (.func 100) [] []) (.ptr wb 0) (.int .i64 (i:Int)) S=qft (ev E0 KH (m+2)) N nk ek q v1 v2 v3 v6 (.fn (.func 100) [] []) (.ptr wb 0) (.int .i64 ((i+1:Nat):Int)) U:=by
 have ho:=hA.1;have a1:=hA.ldOn qfa (i:=i-16) (by omega) [];have a2:=hA.ldOn qfa (i:=i-15) (by omega) [];obtain⟨U1,L1,b1,b2,b3,b4,b5⟩:=turn2 m ho (f (i-15)) 7 18 (by decide) (by decide);have hA1:=hA.grew hw (fun h=>h) b4;have on1:=hA1.1;have a3:=hA1.ldOn qfa (i:=i-15) (by omega) [];have a4:=hA1.ldOn qfa (i:=i-7) (by omega) [];have a5:=hA1.ldOn qfa (i:=i-2) (by omega) [];obtain⟨U2,L2,c1,c2,c3,c4,c5⟩:=turn2 m on1 (f (i-2)) 17 19 (by decide) (by decide);have hA2:=hA1.grew (by omega) (fun h=>h) c4;have on2:=hA2.1;have a6:=hA2.ldOn qfa (i:=i-2) (by omega) [];obtain⟨U,k1,k2,k3,k4⟩:=hA2.st qfa (by decide) (i:=i) hi (qo7 f i);unfold qo7 at k1;obtain⟨l,k1'⟩:=qh8 on2 k1;have gU:Grew (fun x=>x=wb) S U:=(b4.mono fun _ _ h=>h.elim).trans ((c4.mono fun _ _ h=>h.elim).trans k3);have nU:=k3.next
 refine⟨zz S U,k2.grew (by omega) (fun h=>h) (qcu ho k2.1),qdy ho gU,?_⟩;rw[qk1,qlc,dT hi,oB,ifK_bool,cT,sixteen,dF (by omega),oB,ifK_bool,cF];rw[show V.int .i64 16=.int .i64 ((16:Nat):Int)from rfl,subC 16 h16 (by omega),oB,qkb (by omega),oB];simp only[ons,qar];rw[a1,oB];simp only[ons,qar];rw[show V.int .i64 15=.int .i64 ((15:Nat):Int)from rfl,subC 15 (by omega) (by omega),oB,qkb (by omega),oB,a2,oB];simp only[ons,qar];rw[show bsP 3 1 2 (Ev.one (.int .i64 0)) [(0,(.int .i64 7)),(1,(.int .i64 18))] (S.lg [])=_ from b1,oB];simp only[ons,qar];rw[b2,qal,oB,qkb (by omega),oB];simp only[ons,qar];rw[a3,oB];simp only[ons,qar];rw[show V.int .u64 3=.int .u64 ((3:Nat):Int)from rfl,qlb _ _ _ _ (by omega),oB,qhd,oB,qez,oB,show V.int .i64 7=.int .i64 ((7:Nat):Int)from rfl,subC 7 (by omega) (by omega),oB,qkb (by omega),oB,a4,oB];simp only[ons,qar];rw[qez,oB,show V.int .i64 2=.int .i64 ((2:Nat):Int)from rfl,subC 2 (by omega) (by omega),oB,qkb (by omega),oB,a5,oB];simp only[ons,qar];rw[show bsP 3 1 2 (Ev.one (.int .i64 0)) [(0,(.int .i64 17)),(1,(.int .i64 19))] (U1.lg [])=_ from c1,oB];simp only[ons,qar];rw[c2,qal,oB,qkb (by omega),oB];simp only[ons,qar];rw[a6,oB];simp only[ons,qar];rw[show V.int .u64 10=.int .u64 ((10:Nat):Int)from rfl,qlb _ _ _ _ (by omega),oB,qhd,oB,qez,oB,qkb hi,oB,k1',oB];dsimp only
 rw[qb3 ?_,qao ho,show V.int .i64 1=.int .i64 ((1:Nat):Int)from rfl,addC 1 (by omega) (by omega),oB];refine qb0 (r1:=S.next) (r2:=U1.next) (tags:=[0,0,0,0,1,0,0,0,0,1,2,2,0,0,0,1,0,0,0,0,0,0,1,0,0,0,0,0,1,3,3,0,0,0,1,0,0,0,0,4]) (by omega) ?_ (by decide)
 repeat' apply And.intro
 all_goals first
  | trivial
  | (intro e he; cases he; done)
  | (intro e he; cases List.mem_singleton.1 he; exact⟨rfl,by dsimp only; omega,by dsimp only; omega⟩)
  | (intro e he; cases List.mem_singleton.1 he; rfl)
  | exact b3
  | exact c3
  | (intro e he; trivial)
theorem qly {m N wb:Nat} {v1 v2 v3 v6:V} {g:Nat->UInt8} (hne:∀r off,v1=.oslice r off 64 1->r≠wb) (nk:Ac->St->Rs) (ek:Nat->Ac->St->Rs) :
 ∀(d i q:Nat) (f:Nat->UInt32) (S:St),i+d=64->d<q->Arr S wb 89 64 f->Blk S v1 g->wb<S.next->
 ∃U,qft (ev E0 KH (m+3)) N nk ek q v1 v2 v3 v6 (.fn (.func 100) [] []) (.ptr wb 0) (.int .i64 (i:Int)) S=ek 0 (fr 187 [(2,v2),(3,v3),(6,v6),(7,.fn (.func 100) [] []),(8,.ptr wb 0)]) U/\Arr U wb 89 64 (qnm g d i f)/\Grew (fun x=>x=wb) S U
 | _,_,0,_,_,_,hq,_,_,_=>by omega
 | 0,i,q+1,f,S,hi,hq,hA,hB,hw=>by
  refine⟨S,?_,hA,Grew.refl _ _⟩;rw[qk1,qlc,dF (by omega),oB,ifK_bool,cF]
 | d+1,i,q+1,f,S,hi,hq,hA,hB,hw=>by
  by_cases h16:i<16
  . obtain⟨U,u1,u2,u3⟩:=step16 (m:=m) (N:=N) (v2:=v2) (v3:=v3) (v6:=v6) (v7:=.fn (.func 100) [] []) hA hw hB nk ek (q:=q) h16
    obtain⟨T,t1,t2,t3⟩:=qly (m:=m) (N:=N) hne nk ek d (i+1) q _ U (by omega) (by omega) u1 (hB.grew (fun r off hr e=>hne r off hr e) u2) (Nat.lt_of_lt_of_le hw u2.next);exact⟨T,u3.trans t1,by unfold qnm nextW; rw[iP h16]; exact t2,u2.trans t3⟩
  . obtain⟨U,u1,u2,u3⟩:=step48 (m:=m+1) (N:=N) (v1:=v1) (v2:=v2) (v3:=v3) (v6:=v6) hA hw nk ek (q:=q) (show 16<=i by omega) (by omega)
    obtain⟨T,t1,t2,t3⟩:=qly (m:=m) (N:=N) hne nk ek d (i+1) q _ U (by omega) (by omega) u1 (hB.grew (fun r off hr e=>hne r off hr e) u2) (Nat.lt_of_lt_of_le hw u2.next);exact⟨T,u3.trans t1,by unfold qnm nextW; rw[iN h16]; exact t2,u2.trans t3⟩
end
def listW (l:List UInt32):Nat->UInt32:=fun i=>l.getD i 0
def rx (v:Nat->UInt32) (k w:UInt32):UInt32:=v 7+qny (v 4) [6,11,25]+((v 4 &&& v 5) ^^^ (nt (v 4) &&& v 6))+k+w
def ry (v:Nat->UInt32):UInt32:=qny (v 0) [2,13,22]+(((v 0 &&& v 1) ^^^ (v 0 &&& v 2)) ^^^ (v 1 &&& v 2))
def rnd (v:Nat->UInt32) (k w:UInt32):Nat->UInt32:=listW [rx v k w+ry v,v 0,v 1,v 2,v 3+rx v k w,v 4,v 5,v 6]
section
variable {S T U:St} {v kf wf:Nat->UInt32}
theorem build72 (a b c d e f g h:UInt32):qfj E0 88 [(0,w32 a),(1,w32 b),(2,w32 c),(3,w32 d),(4,w32 e),(5,w32 f),(6,w32 g),(7,w32 h)]=some (.agg 8 (Tr.ofListFrom .nil [w32 a,w32 b,w32 c,w32 d,w32 e,w32 f,w32 g,w32 h] 0)):=by kernel_rfl
theorem agg8 (a b c d e f g h:UInt32):AggV 8 (.agg 8 (Tr.ofListFrom .nil [w32 a,w32 b,w32 c,w32 d,w32 e,w32 f,w32 g,w32 h] 0)) (listW [a,b,c,d,e,f,g,h]):=⟨_,rfl,fun i hi=>by
 rw[Tr.get_ofList]
 match i,hi with
 | 0,_=>rfl
 | 1,_=>rfl
 | 2,_=>rfl
 | 3,_=>rfl
 | 4,_=>rfl
 | 5,_=>rfl
 | 6,_=>rfl
 | 7,_=>rfl⟩
theorem nilCk (b o:Nat):qbn (.ptr b o)=some (.ptr b o):=rfl
theorem step31 {m N vb kb wb:Nat} (hV:Arr S vb 88 8 v) (hvl:vb<S.next) (hK:Arr S kb 89 64 kf) (hkl:kb<S.next) (hW:Arr S wb 89 64 wf) (hwl:wb<S.next) {v3 v6:V} (nk:Ac->St->Rs) (ek:Nat->Ac->St->Rs) {i q:Nat} (hi:i<64) :
 ∃U,Arr U vb 88 8 (rnd v (kf i) (wf i))/\Grew (fun x=>x=vb) S U/\L74_31 (ev E0 KH (m+2)) N nk ek (q+1) (.ptr kb 0) v3 v6 (.fn (.func 100) [] []) (.ptr wb 0) (.ptr vb 0) (.int .i64 (i:Int)) S=L74_31 (ev E0 KH (m+2)) N nk ek q (.ptr kb 0) v3 v6 (.fn (.func 100) [] []) (.ptr wb 0) (.ptr vb 0) (.int .i64 ((i+1:Nat):Int)) U:=by
 have ho:=hV.1;have a1:=hV.ldOn qf1 (i:=7) (by omega) [];have a2:=hV.ldOn qf1 (i:=4) (by omega) [];obtain⟨U1,L1,b1,b2,b3,b4,b5⟩:=turn3 m ho (v 4) 6 11 25 (by decide) (by decide) (by decide);have hV1:=hV.grew hvl (fun h=>h) b4;have hK1:=hK.grew hkl (fun h=>h) b4;have hW1:=hW.grew hwl (fun h=>h) b4;have on1:=hV1.1;have a3:=hV1.ldOn qf1 (i:=4) (by omega) [];have a4:=hV1.ldOn qf1 (i:=5) (by omega) [];have a5:=hV1.ldOn qf1 (i:=6) (by omega) [];have a6:=hK1.ldOn qfa (i:=i) hi [];have a7:=hW1.ldOn qfa (i:=i) hi [];have gZ:Grew (fun _=>False) S (zz S U1):=qdy ho b4;have hVz:=hV.grew hvl (fun h=>h) gZ;have onZ:=hVz.1;have nZ:(zz S U1).next=U1.next:=rfl
 generalize hZ:zz S U1=Z at gZ hVz onZ nZ;have c1:=hVz.ldOn qf1 (i:=0) (by omega) [];obtain⟨U2,L2,d1,d2,d3,d4,d5⟩:=turn3 m onZ (v 0) 2 13 22 (by decide) (by decide) (by decide);have hV2:=hVz.grew (by omega) (fun h=>h) d4;have on2:=hV2.1;have c2:=hV2.ldOn qf1 (i:=0) (by omega) [];have c3:=hV2.ldOn qf1 (i:=1) (by omega) [];have c4:=hV2.ldOn qf1 (i:=2) (by omega) [];have gY:Grew (fun _=>False) Z (zz Z U2):=qdy onZ d4;have hVy:=hVz.grew (by omega) (fun h=>h) gY;have nY:(zz Z U2).next=U2.next:=rfl
 generalize hY:zz Z U2=Y at gY hVy nY;have e0:=hVy.ld qf1 (i:=0) (by omega);have e1:=hVy.ld qf1 (i:=1) (by omega);have e2:=hVy.ld qf1 (i:=2) (by omega);have e3:=hVy.ld qf1 (i:=3) (by omega);have e4:=hVy.ld qf1 (i:=4) (by omega);have e5:=hVy.ld qf1 (i:=5) (by omega);have e6:=hVy.ld qf1 (i:=6) (by omega);obtain⟨U,k1,k2,k3,k4⟩:=hVy.put qf1 (agg8 (rx v (kf i) (wf i)+ry v) (v 0) (v 1) (v 2) (v 3+rx v (kf i) (wf i)) (v 4) (v 5) (v 6));unfold rx ry at k1;refine⟨U,k2,(gZ.mono fun _ _ h=>h.elim).trans ((gY.mono fun _ _ h=>h.elim).trans k3),?_⟩;have ix:∀k:Nat,k<8->ixA 8 1 false 1 (.ptr vb 0) (.int .i64 (k:Int))=some (.ptr vb k):=fun k hk=>qkb hk;have i0:=ix 0 (by omega); have i1:=ix 1 (by omega); have i2:=ix 2 (by omega); have i3:=ix 3 (by omega);have i4:=ix 4 (by omega); have i5:=ix 5 (by omega); have i6:=ix 6 (by omega); have i7:=ix 7 (by omega);rw[L74_31_eq,qlc,dT hi,oB,ifK_bool,cT];rw[show V.int .i64 7=.int .i64 ((7:Nat):Int)from rfl,show V.int .i64 4=.int .i64 ((4:Nat):Int)from rfl,show V.int .i64 5=.int .i64 ((5:Nat):Int)from rfl,show V.int .i64 0=.int .i64 ((0:Nat):Int)from rfl,show V.int .i64 1=.int .i64 ((1:Nat):Int)from rfl,show V.int .i64 3=.int .i64 ((3:Nat):Int)from rfl];rw[i7,oB];simp only[ons,qar];rw[a1,oB,i4,oB];simp only[ons,qar];rw[a2,oB];simp only[ons,qar]
 rw[show bsP 3 1 3 (Ev.one (.int .i64 ((0:Nat):Int))) [(0,.int .i64 6),(1,.int .i64 11),(2,.int .i64 25)] (S.lg [])=_ from b1,oB];simp only[ons,qar];rw[b2,qal,qez,oB,oB];simp only[ons,qar];rw[a3,oB,i5,oB];simp only[ons,qar];rw[a4,oB,and32,oB,oB];simp only[ons,qar];rw[a3,oB];dsimp only;rw[not32,oB,show V.int .i64 6=.int .i64 ((6:Nat):Int)from rfl,i6,oB];simp only[ons,qar];rw[a5,oB];dsimp only;rw[and32,oB,qhd,oB,qez,oB,nilCk,oB,qkb hi,oB];simp only[ons,qar];rw[a6,oB];dsimp only;rw[qez,oB,qkb hi,oB];simp only[ons,qar];rw[a7,oB];dsimp only;rw[qez,oB];simp only[ons,qar];rw[qb3 ?_,qao ho,hZ,i0,oB]
 . rw[c1,oB]
   try simp only[ons,qar]
   rw[show bsP 3 1 3 (Ev.one (.int .i64 ((0:Nat):Int))) [(0,.int .i64 2),(1,.int .i64 13),(2,.int .i64 22)] (Z.lg [])=_ from d1,oB]
   try simp only[ons,qar]
   rw[show V.int .i64 2=.int .i64 ((2:Nat):Int)from rfl,d2,qal,oB]
   try simp only[ons,qar]
   rw[c2,oB,i1,oB]
   try simp only[ons,qar]
   rw[c3,oB];dsimp only;rw[and32,oB,oB]
   try simp only[ons,qar]
   rw[c2,oB,i2,oB]
   try simp only[ons,qar]
   rw[c4,oB];dsimp only;rw[and32,oB,qhd,oB,oB]
   try simp only[ons,qar]
   rw[c3,oB,oB]
   try simp only[ons,qar]
   rw[c4,oB];dsimp only;rw[and32,oB,qhd,oB,qez,oB]
   try simp only[ons,qar]
   rw[qb3 ?_,qao onZ,hY,qez,oB,oB,e0,oB,oB]
   . dsimp only
     rw[e1,oB,oB];dsimp only;rw[e2,oB,i3,oB];dsimp only;rw[e3,oB];dsimp only;rw[qez,oB,oB,e4,oB,oB];dsimp only;rw[e5,oB,oB];dsimp only;rw[e6,oB];dsimp only;rw[build72,oB,k1,oB];dsimp only;rw[addC 1 (by omega) (by omega),oB]
   . refine qb0 (r1:=Z.next) (r2:=Z.next+1) (tags:=[0,0,1,2,2,0,1,0,1,0,0,1,0,1,0,0,0,1,0,1]) (by omega) ?_ (by decide)
     repeat' apply And.intro
     all_goals first
      | trivial
      | (intro e he; cases he; done)
      | (intro e he; cases List.mem_singleton.1 he; exact⟨rfl,by dsimp only; omega,by dsimp only; omega⟩)
      | (intro e he; cases List.mem_singleton.1 he; rfl)
      | exact d3
 . refine qb0 (r1:=S.next) (r2:=S.next+1+kb+wb+vb) (tags:=[0,1,0,0,1,2,2,0,0,1,0,1,0,0,1,0,0,1,0,0,0,0,0,0,0,1,0,0,0,1]) (by omega) ?_ (by decide)
   repeat' apply And.intro
   all_goals first
    | trivial
    | (intro e he; cases he; done)
    | (intro e he; cases List.mem_singleton.1 he; exact⟨rfl,by dsimp only; omega,by dsimp only; omega⟩)
    | (intro e he; cases List.mem_singleton.1 he; rfl)
    | exact b3
end
def rnds (kf wf:Nat->UInt32):Nat->Nat->(Nat->UInt32)->Nat->UInt32
 | 0,_,v=>v
 | d+1,i,v=>rnds kf wf d (i+1) (rnd v (kf i) (wf i))
def sumW (v:Nat->UInt32):Nat->Nat->(Nat->UInt32)->Nat->UInt32
 | 0,_,h=>h
 | d+1,i,h=>sumW v d (i+1) (updW h i (h i+v i))
def qiv (kf h:Nat->UInt32) (g:Nat->UInt8):Nat->UInt32:=sumW (rnds kf (qnm g 64 0 fun _=>0) 64 0 h) 8 0 h
theorem rd54 {n:Nat} {args:List V} {s:St} {r:En×St} (e:qaq E0 (ev E0 KH n) qa1 Tryz.f74 B74 args s=some r):(ev E0 KH (n+1)).f 74 args s=some r:=qa6 (c:=C74) (d:=B74) (by kernel_rfl) (by kernel_rfl) (qa3 C74 _ (by kernel_rfl)) rfl e
section
variable {S T U:St} {kf wf vf h0f:Nat->UInt32} {g:Nat->UInt8}
theorem L31_spec {m N vb kb wb:Nat} (hkv:kb≠vb) (hwv:wb≠vb) {v3 v6:V} (nk:Ac->St->Rs) (ek:Nat->Ac->St->Rs) :
 ∀(d i q:Nat) (vf:Nat->UInt32) (S:St),i+d=64->d<q->Arr S vb 88 8 vf->vb<S.next->Arr S kb 89 64 kf->kb<S.next->Arr S wb 89 64 wf->wb<S.next->
 ∃U,L74_31 (ev E0 KH (m+2)) N nk ek q (.ptr kb 0) v3 v6 (.fn (.func 100) [] []) (.ptr wb 0) (.ptr vb 0) (.int .i64 (i:Int)) S=ek 2 (fr 187 [(3,v3),(6,v6),(10,.ptr vb 0)]) U/\Arr U vb 88 8 (rnds kf wf d i vf)/\Grew (fun x=>x=vb) S U
 | _,_,0,_,_,_,hq,_,_,_,_,_,_=>by omega
 | 0,i,q+1,vf,S,hi,hq,hV,hv,hK,hk,hW,hw=>by
  refine⟨S,?_,hV,Grew.refl _ _⟩;rw[L74_31_eq,qlc,dF (by omega),oB,ifK_bool,cF]
 | d+1,i,q+1,vf,S,hi,hq,hV,hv,hK,hk,hW,hw=>by
  obtain⟨U,u1,u2,u3⟩:=step31 (m:=m) (N:=N) (v3:=v3) (v6:=v6) hV hv hK hk hW hw nk ek (q:=q) (show i<64 by omega);have:=u2.next
  obtain⟨T,t1,t2,t3⟩:=L31_spec (m:=m) (N:=N) hkv hwv nk ek d (i+1) q _ U (by omega) (by omega) u1 (by omega) (hK.grew hk hkv u2) (by omega) (hW.grew hw hwv u2) (by omega);exact⟨T,u3.trans t1,t2,u2.trans t3⟩
theorem qmj (i:Nat):qa4 E0 .lss 3 false true (.int .i64 (i:Int)) (.int .i64 8)=some (.bool (decide (i<8))):=by
 rw[show V.int .i64 8=.int .i64 ((8:Nat):Int)from rfl,binV_ii,intsV_lss]
 congr 2
 simp;omega
theorem L14s_spec {m N vb hb:Nat} (hne:vb≠hb) {v6:V} (nk:Ac->St->Rs) (ek:Nat->Ac->St->Rs) :
 ∀(d i q:Nat) (hf:Nat->UInt32) (S:St),i+d=8->d<q->Arr S hb 88 8 hf->hb<S.next->Arr S vb 88 8 vf->vb<S.next->
 ∃U,L74_14 (ev E0 KH m) N nk ek q (.ptr hb 0) v6 (.ptr vb 0) (.int .i64 (i:Int)) S=ek 4 (fr 187 [(3,.ptr hb 0),(6,v6)]) U/\Arr U hb 88 8 (sumW vf d i hf)/\Grew (fun x=>x=hb) S U
 | _,_,0,_,_,_,hq,_,_,_,_=>by omega
 | 0,i,q+1,hf,S,hi,hq,hH,hh,hV,hv=>by
  refine⟨S,?_,hH,Grew.refl _ _⟩;rw[L74_14_eq,qmj,dF (by omega),oB,ifK_bool,cF]
 | d+1,i,q+1,hf,S,hi,hq,hH,hh,hV,hv=>by
  have ho:=hH.1;have hi8:i<8:=by omega
  have a1:=hH.ldOn qf1 hi8 [];have a2:=hV.ldOn qf1 hi8 [];obtain⟨U,k1,k2,k3,k4⟩:=hH.st qf1 (by decide) hi8 (hf i+vf i);obtain⟨l,k1'⟩:=qh8 ho k1;have gz:Grew (fun x=>x=hb) S (zz S U):=qdy ho k3;have nz:(zz S U).next=U.next:=rfl
  obtain⟨T,t1,t2,t3⟩:=L14s_spec (m:=m) (N:=N) (v6:=v6) hne nk ek d (i+1) q _ (zz S U) (by omega) (by omega) (k2.grew (by omega) (fun h=>h) (qcu ho k2.1)) (by omega) (hV.grew hv hne gz) (by omega);refine⟨T,?_,t2,gz.trans t3⟩;rw[L74_14_eq,qmj,dT hi8,oB,ifK_bool,cT,qkb hi8,oB];simp only[ons,qar];rw[a1,oB,qkb hi8,oB];simp only[ons,qar];rw[a2,oB];dsimp only;rw[qez,oB,oB];simp only[ons,qar];rw[k1',oB];dsimp only;rw[qb3 ?_,qao ho,qc1 (by omega),oB,t1];refine qb0 (r1:=hb+vb+1) (r2:=hb+vb+2) (tags:=[0,0,1,0,0,1,0,0,4]) (by omega) ?_ (by decide)
  repeat' apply And.intro
  all_goals first
   | trivial
   | (intro e he; cases he; done)
   | (intro e he; cases List.mem_singleton.1 he; exact⟨rfl,by dsimp only; omega,by dsimp only; omega⟩)
   | (intro e he; trivial)
theorem box_agg (e z:Nat) (t:Tr V) (S:St):qjy e (.agg z t) S=some (nwP e z t S):=rfl
theorem f54_run (m:Nat) (ho:S.on=false) {x0 x1:V} {kb:Nat} (h0:AggV 8 x0 h0f) (h1:Blk S x1 g) (hK:Arr S kb 89 64 kf) (hk:kb<S.next):∃v U,(ev E0 KH (m+4)).f 74 [x0,x1,.ptr kb 0] S=some (.ret v,U)/\AggV 8 v (qiv kf h0f g)/\Grew (fun _=>False) S U:=by
 obtain⟨t,rfl,ht⟩:=h0;obtain⟨a1,a2,a3⟩:=Arr.newOf ho 88 8 ht;have ea:nwP 88 8 t S=(.ptr S.next 0,(nwP 88 8 t S).2):=rfl;generalize (nwP 88 8 t S).2=S1 at a1 a2 a3 ea;have on1:=a1.1;obtain⟨b1,b2,b3⟩:=Arr.newOf on1 88 8 (zeros 8 [(.int .u32 0),(.int .u32 0),(.int .u32 0),(.int .u32 0),(.int .u32 0),(.int .u32 0),(.int .u32 0),(.int .u32 0)] rfl);have eb:nwP 88 8 (Tr.ofListFrom .nil [(.int .u32 0),(.int .u32 0),(.int .u32 0),(.int .u32 0),(.int .u32 0),(.int .u32 0),(.int .u32 0),(.int .u32 0)] 0) S1=(.ptr S1.next 0,(nwP 88 8 (Tr.ofListFrom .nil [(.int .u32 0),(.int .u32 0),(.int .u32 0),(.int .u32 0),(.int .u32 0),(.int .u32 0),(.int .u32 0),(.int .u32 0)] 0) S1).2):=rfl;generalize (nwP 88 8 (Tr.ofListFrom .nil [(.int .u32 0),(.int .u32 0),(.int .u32 0),(.int .u32 0),(.int .u32 0),(.int .u32 0),(.int .u32 0),(.int .u32 0)] 0) S1).2=S2 at b1 b2 b3 eb;have on2:=b1.1;obtain⟨c1,c2,c3⟩:=Arr.newOf on2 89 64 (zeros 64 (List.replicate 64 (.int .u32 0)) rfl);have ec:nwP 89 64 (Tr.ofListFrom .nil (List.replicate 64 (.int .u32 0)) 0) S2=(.ptr S2.next 0,(nwP 89 64 (Tr.ofListFrom .nil (List.replicate 64 (.int .u32 0)) 0) S2).2):=rfl;generalize (nwP 89 64 (Tr.ofListFrom .nil (List.replicate 64 (.int .u32 0)) 0) S2).2=S3 at c1 c2 c3 ec;have g3:=(a2.trans b2).trans c2
 have hbl:∀r off,x1=.oslice r off 64 1->r<S.next:=fun r off hr=>by
  obtain⟨r',off',bs,q1,_,_,q4⟩:=h1;rw[hr]at q1; cases q1; exact q4
 obtain⟨S4,d1,d2,d3⟩:=qly (m:=m) (N:=qa1) (wb:=S2.next) (v1:=x1) (v2:=.ptr kb 0) (v3:=.ptr S.next 0) (v6:=.ptr S1.next 0) (fun r off hr=>by have:=hbl r off hr; omega) (R74_4 (ev E0 KH (m+3)) qa1 (qat E0 (ev E0 KH (m+3)) Tryz.f74) qad) (exB 0 (R74_4 (ev E0 KH (m+3)) qa1 (qat E0 (ev E0 KH (m+3)) Tryz.f74) qad) qad) 64 0 qa1 _ S3 rfl (by unfold qa1; omega) c1 (h1.grew (fun _ _ _ h=>h) g3) (by omega);have n4:=d3.next
 have hH4:Arr S4 S.next 88 8 h0f:=((a1.grew (by omega) (fun h=>h) b2).grew (by omega) (fun h=>h) c2).grew (by omega) (by omega) d3
 have hO4:Arr S4 S1.next 88 8 _:=(b1.grew (by omega) (fun h=>h) c2).grew (by omega) (by omega) d3
 have hK4:Arr S4 kb 89 64 kf:=(hK.grew hk (fun h=>h) g3).grew (by omega) (by omega) d3;obtain⟨w,e1,_,ew⟩:=hH4.all qf1;obtain⟨tw,rfl,htw⟩:=ew
 obtain⟨S5,f1,f2,f3,f4⟩:∃S5,stP 8 (.ptr S4.next 0) (.agg 8 tw) (nwP 88 8 (Tr.ofListFrom .nil [(.int .u32 0),(.int .u32 0),(.int .u32 0),(.int .u32 0),(.int .u32 0),(.int .u32 0),(.int .u32 0),(.int .u32 0)] 0) S4).2=some (.tuple [],S5)/\Arr S5 S4.next 88 8 h0f/\Grew (fun _=>False) S4 S5/\S5.next=S4.next+1:=by
  obtain⟨q1,q2,q3⟩:=Arr.newOf hH4.1 88 8 (zeros 8 [(.int .u32 0),(.int .u32 0),(.int .u32 0),(.int .u32 0),(.int .u32 0),(.int .u32 0),(.int .u32 0),(.int .u32 0)] rfl);obtain⟨U,p1,p2,p3,p4⟩:=q1.put qf1 ⟨tw,rfl,htw⟩;exact⟨U,p1,p2,Grew.then q2 p3 fun x hx e=>by omega,by omega⟩
 obtain⟨S6,k1,k2,k3⟩:=L31_spec (m:=m+1) (N:=qa1) (vb:=S4.next) (kb:=kb) (wb:=S2.next) (v3:=.ptr S.next 0) (v6:=.ptr S1.next 0) (by omega) (by omega) (R74_8 (ev E0 KH (m+3)) qa1 (fun a s=>qa7 [6] a fun a=>qat E0 (ev E0 KH (m+3)) Tryz.f74 a s) qad) (exB 2 (R74_8 (ev E0 KH (m+3)) qa1 (fun a s=>qa7 [6] a fun a=>qat E0 (ev E0 KH (m+3)) Tryz.f74 a s) qad) qad) 64 0 qa1 _ S5 rfl (by unfold qa1; omega) f2 (by omega) (hK4.grew (by omega) (fun h=>h) f3) (by omega) (d2.grew (by omega) (fun h=>h) f3) (by omega);have n6:=k3.next
 have hH6:Arr S6 S.next 88 8 h0f:=(hH4.grew (by omega) (fun h=>h) f3).grew (by omega) (by omega) k3
 have hO6:Arr S6 S1.next 88 8 _:=(hO4.grew (by omega) (fun h=>h) f3).grew (by omega) (by omega) k3
 obtain⟨S7,p1,p2,p3⟩:=L14s_spec (m:=m+3) (N:=qa1) (vb:=S4.next) (hb:=S.next) (v6:=.ptr S1.next 0) (by omega) (R74_9 (ev E0 KH (m+3)) qa1 (fun a s=>qa7 [6] a fun a=>(fun a s=>qa7 [6] a fun a=>qat E0 (ev E0 KH (m+3)) Tryz.f74 a s) a s) qad) (exB 4 (R74_9 (ev E0 KH (m+3)) qa1 (fun a s=>qa7 [6] a fun a=>(fun a s=>qa7 [6] a fun a=>qat E0 (ev E0 KH (m+3)) Tryz.f74 a s) a s) qad) qad) 8 0 qa1 _ S6 rfl (by unfold qa1; omega) hH6 (by omega) k2 (by omega);have n7:=p3.next
 have hO7:Arr S7 S1.next 88 8 _:=hO6.grew (by omega) (by omega) p3
 obtain⟨w7,q1,_,q3⟩:=p2.all qf1;obtain⟨S8,r1,r2,r3,r4⟩:=hO7.put qf1 q3;obtain⟨w8,_,s2,s3⟩:=r2.all qf1;refine⟨w8,S8,rd54 ?_,s3,?_⟩
 . show F74 (ev E0 KH (m+3)) qa1 (.agg 8 t) x1 (.ptr kb 0) S=_
   rw[F74_eq,box_agg,ea,oB];dsimp only;rw[eb,oB];dsimp only;rw[show(Tr.ofListFrom .nil z64q 0:Tr V)=Tr.ofListFrom .nil (List.replicate 64 (.int .u32 0)) 0 from rfl,ec,oB];dsimp only;rw[show V.int .i64 0=.int .i64 ((0:Nat):Int)from rfl,d1,exB_same,R74_4_eq,e1,oB];dsimp only;rw[oB,qet,f1,oB];dsimp only;rw[show V.int .i64 0=.int .i64 ((0:Nat):Int)from rfl];refine k1.trans ?_;rw[exB_same,R74_8_eq,show V.int .i64 0=.int .i64 ((0:Nat):Int)from rfl];refine p1.trans ?_
   rw[exB_same,R74_9_eq,q1,oB];dsimp only;rw[r1,oB];dsimp only;rw[s2,oB]
 . exact Grew.then (Grew.then (Grew.then (Grew.then (Grew.then g3 d3 fun x hx e=>by omega) f3 fun _ _ h=>h) k3 fun x hx e=>by omega) p3 fun x hx e=>by omega) r3 fun x hx e=>by omega
end
end Go.Proofs.YtpgegoeghaplkaaGreatDoor.W
end
